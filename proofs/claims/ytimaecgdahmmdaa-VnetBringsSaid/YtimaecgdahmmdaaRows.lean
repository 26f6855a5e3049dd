/-
  No cell of these rows narrows 'for every input' (looked for: loops, veiled, ifaces, maps, wideKeys, modest, calm, conditions, laid).
  DERIVED. THE GIVEN ROWS OF THIS SEAT. 3 by the template 'for every input the law returns true; each argument reads behind the call as it read before'; 0 by the template 'total and deterministic' (their statements: YtimaecgdahmmdaaTotals.lean).
  GIVEN WITH THE SEED: the statements are not yours to turn. If you find one false, say at which input.
  Laid BY PROGRAM, IN A SANDBOX (cutbox-rows.mjs): the forced cells as the released guide's own fill.sh prints them over the translation f94ba817108137ff… (all of the seat's roots in one cut). By AI agents, Wed Nov 11 2026. No macro, syntax, notation, axiom, sorry.
-/
import Derived.Test.YtimaecgdahmmdaaChecked
import GoSem.Claim
import GoSem.ClaimJoined
import GoSem.ClaimMapViews
import Derived.JoinedTies
import Derived.KernelRfl
namespace Go.Proofs.Ytimaecgdahmmdaa
/- THE CELL 'sum', in the pinned program and in every row, IS THE sha256 OF THE DUMP (.gsa) THAT YtimaecgdahmmdaaProg.lean LOADS. Nothing in Lean hashes anything: it is a label: what it is worth is what the hold of that sum in a sandbox is worth. -/
noncomputable def Try.pinned : Pinned := { name := "ytimaecgdahmmdaa", sum := "f94ba817108137ff5207eced96f39a09892471cafca1e13c0420b3402411fef8", checked := Try.checked }
namespace Rows
def none {H : Type} : Left H := { results := [], args := [] }

/-- 'pharoslaw03.VnetBrings': WHATEVER THE INPUT: true; the input reads as it did. -/
def vnetBringsSpec : ChangeSpec := { name := "vnetBrings", fn := fun _ => fun
  | [d1, d2, d3] => { results := [.lit (.bool true)], args := [d1, d2, d3] }
  | _ => none }
def vnetBringsRow : OpenClaim := { program := "ytimaecgdahmmdaa", sum := "f94ba817108137ff5207eced96f39a09892471cafca1e13c0420b3402411fef8", func := "pharos/pharoslaw03.VnetBrings", spec := "vnetBrings", inPlace := ["slices.overlaps[pharos/api.Span]", "internal/abi.NoEscape", "internal/bytealg.MakeNoZero"], unfollowed := true, recurses := true, apart := false }
def VnetBringsSaid : Prop := vnetBringsRow.holds Try.pinned (OpenSpec.ofChange vnetBringsSpec)

/-- ITS FALSE NEIGHBOUR: 'it returns false'. Refute it at one input. -/
def vnetBringsWrong : ChangeSpec := { name := "vnetBrings", fn := fun _ => fun
  | [d1, d2, d3] => { results := [.lit (.bool false)], args := [d1, d2, d3] }
  | _ => none }
def VnetBringsWrongFalsely : Prop := vnetBringsRow.holds Try.pinned (OpenSpec.ofChange vnetBringsWrong)

/-- 'pharoslaw03.VnetNone': WHATEVER THE INPUT: true; the input reads as it did. -/
def vnetNoneSpec : ChangeSpec := { name := "vnetNone", fn := fun _ => fun
  | [d] => { results := [.lit (.bool true)], args := [d] }
  | _ => none }
def vnetNoneRow : OpenClaim := { program := "ytimaecgdahmmdaa", sum := "f94ba817108137ff5207eced96f39a09892471cafca1e13c0420b3402411fef8", func := "pharos/pharoslaw03.VnetNone", spec := "vnetNone", inPlace := ["slices.overlaps[pharos/api.Span]", "internal/abi.NoEscape", "internal/bytealg.MakeNoZero"], unfollowed := true, recurses := true, apart := false }
def VnetNoneSaid : Prop := vnetNoneRow.holds Try.pinned (OpenSpec.ofChange vnetNoneSpec)

/-- ITS FALSE NEIGHBOUR: 'it returns false'. Refute it at one input. -/
def vnetNoneWrong : ChangeSpec := { name := "vnetNone", fn := fun _ => fun
  | [d] => { results := [.lit (.bool false)], args := [d] }
  | _ => none }
def VnetNoneWrongFalsely : Prop := vnetNoneRow.holds Try.pinned (OpenSpec.ofChange vnetNoneWrong)

/-- 'pharoslaw03.VnetKeeps': WHATEVER THE INPUT: true; the input reads as it did. -/
def vnetKeepsSpec : ChangeSpec := { name := "vnetKeeps", fn := fun _ => fun
  | [d] => { results := [.lit (.bool true)], args := [d] }
  | _ => none }
def vnetKeepsRow : OpenClaim := { program := "ytimaecgdahmmdaa", sum := "f94ba817108137ff5207eced96f39a09892471cafca1e13c0420b3402411fef8", func := "pharos/pharoslaw03.VnetKeeps", spec := "vnetKeeps", inPlace := ["slices.overlaps[pharos/api.Span]", "internal/abi.NoEscape", "internal/bytealg.MakeNoZero"], unfollowed := true, recurses := true, apart := false }
def VnetKeepsSaid : Prop := vnetKeepsRow.holds Try.pinned (OpenSpec.ofChange vnetKeepsSpec)

/-- ITS FALSE NEIGHBOUR: 'it returns false'. Refute it at one input. -/
def vnetKeepsWrong : ChangeSpec := { name := "vnetKeeps", fn := fun _ => fun
  | [d] => { results := [.lit (.bool false)], args := [d] }
  | _ => none }
def VnetKeepsWrongFalsely : Prop := vnetKeepsRow.holds Try.pinned (OpenSpec.ofChange vnetKeepsWrong)

/- THE SECOND FORM. 'bulk': how many values and letters a reading holds, each counted each time it is reached (what is shared counts as often as it is met; a slice's spare places count too). A statement '..UptoSaid' is the law's where the arguments, and the package variables that the reading takes, are together of bulk at most 1048576: NARROWER than '..Said'. Prove '..Said' where nothing that the law and all that it calls make is longer than what came in: it says more and counts as full. Else prove '..UptoSaid'. A law counts once. -/
mutual
def uptoBulk {H : Type} : DataW H → Nat
  | .lit (.string bytes) => bytes.length + 1
  | .lit _ => 1
  | .nil => 1
  | .ptr d => uptoBulk d + 1
  | .slice elems spare => uptoBulkAll elems + uptoBulkAll spare + 1
  | .agg parts => uptoBulkAll parts + 1
  | .iface _ d => uptoBulk d + 1
  | .map entries => uptoBulkEntries entries + 1
  | .held _ => 1
def uptoBulkAll {H : Type} : List (DataW H) → Nat
  | [] => 0
  | d :: r => uptoBulk d + uptoBulkAll r
def uptoBulkEntries {H : Type} : List (Lit × DataW H) → Nat
  | [] => 0
  | x :: r => uptoBulkEntry x + uptoBulkEntries r
def uptoBulkEntry {H : Type} : Lit × DataW H → Nat
  | (.string bytes, d) => bytes.length + uptoBulk d + 1
  | (_, d) => uptoBulk d + 1
 end
def uptoSmall : (H : Type) → List (DataW H) → Bool := fun _ ds => decide (uptoBulkAll ds ≤ 1048576)
def OpenSpec.upto (s : _root_.Go.ChangeSpec) : _root_.Go.OpenSpec := { _root_.Go.OpenSpec.ofChange s with cond := some uptoSmall }

/-- 'pharoslaw03.VnetBrings', WHERE WHAT IT READS IS OF BULK AT MOST 1048576: true; the input reads as it did. -/
def vnetBringsUptoRow : OpenClaim := { program := "ytimaecgdahmmdaa", sum := "f94ba817108137ff5207eced96f39a09892471cafca1e13c0420b3402411fef8", func := "pharos/pharoslaw03.VnetBrings", spec := "vnetBrings", inPlace := ["slices.overlaps[pharos/api.Span]", "internal/abi.NoEscape", "internal/bytealg.MakeNoZero"], unfollowed := true, recurses := true, apart := false, narrowed := true }
def VnetBringsUptoSaid : Prop := vnetBringsUptoRow.holds Try.pinned (OpenSpec.upto vnetBringsSpec)

/-- 'pharoslaw03.VnetNone', WHERE WHAT IT READS IS OF BULK AT MOST 1048576: true; the input reads as it did. -/
def vnetNoneUptoRow : OpenClaim := { program := "ytimaecgdahmmdaa", sum := "f94ba817108137ff5207eced96f39a09892471cafca1e13c0420b3402411fef8", func := "pharos/pharoslaw03.VnetNone", spec := "vnetNone", inPlace := ["slices.overlaps[pharos/api.Span]", "internal/abi.NoEscape", "internal/bytealg.MakeNoZero"], unfollowed := true, recurses := true, apart := false, narrowed := true }
def VnetNoneUptoSaid : Prop := vnetNoneUptoRow.holds Try.pinned (OpenSpec.upto vnetNoneSpec)

/-- 'pharoslaw03.VnetKeeps', WHERE WHAT IT READS IS OF BULK AT MOST 1048576: true; the input reads as it did. -/
def vnetKeepsUptoRow : OpenClaim := { program := "ytimaecgdahmmdaa", sum := "f94ba817108137ff5207eced96f39a09892471cafca1e13c0420b3402411fef8", func := "pharos/pharoslaw03.VnetKeeps", spec := "vnetKeeps", inPlace := ["slices.overlaps[pharos/api.Span]", "internal/abi.NoEscape", "internal/bytealg.MakeNoZero"], unfollowed := true, recurses := true, apart := false, narrowed := true }
def VnetKeepsUptoSaid : Prop := vnetKeepsUptoRow.holds Try.pinned (OpenSpec.upto vnetKeepsSpec)

end Rows
end Go.Proofs.Ytimaecgdahmmdaa
