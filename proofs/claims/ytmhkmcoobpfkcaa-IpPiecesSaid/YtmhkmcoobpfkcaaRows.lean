/-
  No cell of these rows narrows 'for every input' (looked for: loops, veiled, ifaces, maps, wideKeys, modest, calm, conditions, laid).
  DERIVED. THE GIVEN ROWS OF THIS SEAT. 7 by the template 'for every input the law returns true; each argument reads behind the call as it read before'; 0 by the template 'total and deterministic' (their statements: YtmhkmcoobpfkcaaTotals.lean).
  GIVEN WITH THE SEED: the statements are not yours to turn. If you find one false, say at which input.
  Laid BY PROGRAM, IN A SANDBOX (cutbox-rows.mjs): the forced cells as the released guide's own fill.sh prints them over the translation a631d4b6ac4f36d4… (all of the seat's roots in one cut). By AI agents, Wed Nov 11 2026. No macro, syntax, notation, axiom, sorry.
-/
import Derived.Test.YtmhkmcoobpfkcaaChecked
import GoSem.Claim
import GoSem.ClaimJoined
import GoSem.ClaimMapViews
import Derived.JoinedTies
import Derived.KernelRfl
namespace Go.Proofs.Ytmhkmcoobpfkcaa
/- THE CELL 'sum', in the pinned program and in every row, IS THE sha256 OF THE DUMP (.gsa) THAT YtmhkmcoobpfkcaaProg.lean LOADS. Nothing in Lean hashes anything: it is a label: what it is worth is what the hold of that sum in a sandbox is worth. -/
noncomputable def Try.pinned : Pinned := { name := "ytmhkmcoobpfkcaa", sum := "a631d4b6ac4f36d423d578d9ec99771424fda3143fef6a5d1b152d736147639c", checked := Try.checked }
namespace Rows
def none {H : Type} : Left H := { results := [], args := [] }

/-- 'pharoslaw18.IpPieces': WHATEVER THE INPUT: true; the input reads as it did. -/
def ipPiecesSpec : ChangeSpec := { name := "ipPieces", fn := fun _ => fun
  | [d1, d2, d3] => { results := [.lit (.bool true)], args := [d1, d2, d3] }
  | _ => none }
def ipPiecesRow : OpenClaim := { program := "ytmhkmcoobpfkcaa", sum := "a631d4b6ac4f36d423d578d9ec99771424fda3143fef6a5d1b152d736147639c", func := "pharos/pharoslaw18.IpPieces", spec := "ipPieces", inPlace := ["internal/abi.NoEscape"], unfollowed := true, recurses := true, plainKeys := false, apart := false }
def IpPiecesSaid : Prop := ipPiecesRow.holds Try.pinned (OpenSpec.ofChange ipPiecesSpec)

/-- ITS FALSE NEIGHBOUR: 'it returns false'. Refute it at one input. -/
def ipPiecesWrong : ChangeSpec := { name := "ipPieces", fn := fun _ => fun
  | [d1, d2, d3] => { results := [.lit (.bool false)], args := [d1, d2, d3] }
  | _ => none }
def IpPiecesWrongFalsely : Prop := ipPiecesRow.holds Try.pinned (OpenSpec.ofChange ipPiecesWrong)

/-- 'pharoslaw18.IpWhole': WHATEVER THE INPUT: true; the input reads as it did. -/
def ipWholeSpec : ChangeSpec := { name := "ipWhole", fn := fun _ => fun
  | [d1, d2, d3] => { results := [.lit (.bool true)], args := [d1, d2, d3] }
  | _ => none }
def ipWholeRow : OpenClaim := { program := "ytmhkmcoobpfkcaa", sum := "a631d4b6ac4f36d423d578d9ec99771424fda3143fef6a5d1b152d736147639c", func := "pharos/pharoslaw18.IpWhole", spec := "ipWhole", inPlace := ["internal/abi.NoEscape"], unfollowed := true, recurses := true, plainKeys := false, apart := false }
def IpWholeSaid : Prop := ipWholeRow.holds Try.pinned (OpenSpec.ofChange ipWholeSpec)

/-- ITS FALSE NEIGHBOUR: 'it returns false'. Refute it at one input. -/
def ipWholeWrong : ChangeSpec := { name := "ipWhole", fn := fun _ => fun
  | [d1, d2, d3] => { results := [.lit (.bool false)], args := [d1, d2, d3] }
  | _ => none }
def IpWholeWrongFalsely : Prop := ipWholeRow.holds Try.pinned (OpenSpec.ofChange ipWholeWrong)

/-- 'pharoslaw18.IpFew': WHATEVER THE INPUT: true; the input reads as it did. -/
def ipFewSpec : ChangeSpec := { name := "ipFew", fn := fun _ => fun
  | [d1, d2, d3] => { results := [.lit (.bool true)], args := [d1, d2, d3] }
  | _ => none }
def ipFewRow : OpenClaim := { program := "ytmhkmcoobpfkcaa", sum := "a631d4b6ac4f36d423d578d9ec99771424fda3143fef6a5d1b152d736147639c", func := "pharos/pharoslaw18.IpFew", spec := "ipFew", inPlace := ["internal/abi.NoEscape"], unfollowed := true, recurses := true, plainKeys := false, apart := false }
def IpFewSaid : Prop := ipFewRow.holds Try.pinned (OpenSpec.ofChange ipFewSpec)

/-- ITS FALSE NEIGHBOUR: 'it returns false'. Refute it at one input. -/
def ipFewWrong : ChangeSpec := { name := "ipFew", fn := fun _ => fun
  | [d1, d2, d3] => { results := [.lit (.bool false)], args := [d1, d2, d3] }
  | _ => none }
def IpFewWrongFalsely : Prop := ipFewRow.holds Try.pinned (OpenSpec.ofChange ipFewWrong)

/-- 'pharoslaw18.IpNone': WHATEVER THE INPUT: true; the input reads as it did. -/
def ipNoneSpec : ChangeSpec := { name := "ipNone", fn := fun _ => fun
  | [d1, d2] => { results := [.lit (.bool true)], args := [d1, d2] }
  | _ => none }
def ipNoneRow : OpenClaim := { program := "ytmhkmcoobpfkcaa", sum := "a631d4b6ac4f36d423d578d9ec99771424fda3143fef6a5d1b152d736147639c", func := "pharos/pharoslaw18.IpNone", spec := "ipNone", inPlace := ["internal/abi.NoEscape"], unfollowed := true, recurses := true, plainKeys := false, apart := false }
def IpNoneSaid : Prop := ipNoneRow.holds Try.pinned (OpenSpec.ofChange ipNoneSpec)

/-- ITS FALSE NEIGHBOUR: 'it returns false'. Refute it at one input. -/
def ipNoneWrong : ChangeSpec := { name := "ipNone", fn := fun _ => fun
  | [d1, d2] => { results := [.lit (.bool false)], args := [d1, d2] }
  | _ => none }
def IpNoneWrongFalsely : Prop := ipNoneRow.holds Try.pinned (OpenSpec.ofChange ipNoneWrong)

/-- 'pharoslaw18.IpApart': WHATEVER THE INPUT: true; the input reads as it did. -/
def ipApartSpec : ChangeSpec := { name := "ipApart", fn := fun _ => fun
  | [d1, d2, d3] => { results := [.lit (.bool true)], args := [d1, d2, d3] }
  | _ => none }
def ipApartRow : OpenClaim := { program := "ytmhkmcoobpfkcaa", sum := "a631d4b6ac4f36d423d578d9ec99771424fda3143fef6a5d1b152d736147639c", func := "pharos/pharoslaw18.IpApart", spec := "ipApart", inPlace := ["internal/abi.NoEscape"], unfollowed := true, recurses := true, plainKeys := false, apart := false }
def IpApartSaid : Prop := ipApartRow.holds Try.pinned (OpenSpec.ofChange ipApartSpec)

/-- ITS FALSE NEIGHBOUR: 'it returns false'. Refute it at one input. -/
def ipApartWrong : ChangeSpec := { name := "ipApart", fn := fun _ => fun
  | [d1, d2, d3] => { results := [.lit (.bool false)], args := [d1, d2, d3] }
  | _ => none }
def IpApartWrongFalsely : Prop := ipApartRow.holds Try.pinned (OpenSpec.ofChange ipApartWrong)

/-- 'pharoslaw18.IpCodes': WHATEVER THE INPUT: true; the input reads as it did. -/
def ipCodesSpec : ChangeSpec := { name := "ipCodes", fn := fun _ => fun
  | [d1, d2, d3] => { results := [.lit (.bool true)], args := [d1, d2, d3] }
  | _ => none }
def ipCodesRow : OpenClaim := { program := "ytmhkmcoobpfkcaa", sum := "a631d4b6ac4f36d423d578d9ec99771424fda3143fef6a5d1b152d736147639c", func := "pharos/pharoslaw18.IpCodes", spec := "ipCodes", inPlace := ["internal/abi.NoEscape"], unfollowed := true, recurses := true, plainKeys := false, apart := false }
def IpCodesSaid : Prop := ipCodesRow.holds Try.pinned (OpenSpec.ofChange ipCodesSpec)

/-- ITS FALSE NEIGHBOUR: 'it returns false'. Refute it at one input. -/
def ipCodesWrong : ChangeSpec := { name := "ipCodes", fn := fun _ => fun
  | [d1, d2, d3] => { results := [.lit (.bool false)], args := [d1, d2, d3] }
  | _ => none }
def IpCodesWrongFalsely : Prop := ipCodesRow.holds Try.pinned (OpenSpec.ofChange ipCodesWrong)

/-- 'pharoslaw18.IpBack': WHATEVER THE INPUT: true; the input reads as it did. -/
def ipBackSpec : ChangeSpec := { name := "ipBack", fn := fun _ => fun
  | [d1, d2, d3] => { results := [.lit (.bool true)], args := [d1, d2, d3] }
  | _ => none }
def ipBackRow : OpenClaim := { program := "ytmhkmcoobpfkcaa", sum := "a631d4b6ac4f36d423d578d9ec99771424fda3143fef6a5d1b152d736147639c", func := "pharos/pharoslaw18.IpBack", spec := "ipBack", inPlace := ["internal/abi.NoEscape"], unfollowed := true, recurses := true, plainKeys := false, apart := false }
def IpBackSaid : Prop := ipBackRow.holds Try.pinned (OpenSpec.ofChange ipBackSpec)

/-- ITS FALSE NEIGHBOUR: 'it returns false'. Refute it at one input. -/
def ipBackWrong : ChangeSpec := { name := "ipBack", fn := fun _ => fun
  | [d1, d2, d3] => { results := [.lit (.bool false)], args := [d1, d2, d3] }
  | _ => none }
def IpBackWrongFalsely : Prop := ipBackRow.holds Try.pinned (OpenSpec.ofChange ipBackWrong)

/- THE SECOND FORM. 'bulk': how many values and letters a reading holds, each counted each time it is reached (what is shared counts as often as it is met; a slice's spare places count too). A statement '..UptoSaid' is the law's where the arguments, and the package variables that the reading takes, are together of bulk at most 1048576: NARROWER than '..Said'. Prove '..Said' where nothing that the law and all that it calls make is longer than what came in: it says more and counts as full. Else prove '..UptoSaid'. A law counts once. -/
mutual
def uptoBulk {H : Type} : DataW H → Nat
  | .lit (.string bytes) => bytes.length + 1
  | .lit _ => 1
  | .nil => 1
  | .ptr d => uptoBulk d + 1
  | .slice elems spare => uptoBulkAll elems + uptoBulkAll spare + 1
  | .agg parts => uptoBulkAll parts + 1
  | .iface _ d => uptoBulk d + 1
  | .map entries => uptoBulkEntries entries + 1
  | .held _ => 1
def uptoBulkAll {H : Type} : List (DataW H) → Nat
  | [] => 0
  | d :: r => uptoBulk d + uptoBulkAll r
def uptoBulkEntries {H : Type} : List (Lit × DataW H) → Nat
  | [] => 0
  | x :: r => uptoBulkEntry x + uptoBulkEntries r
def uptoBulkEntry {H : Type} : Lit × DataW H → Nat
  | (.string bytes, d) => bytes.length + uptoBulk d + 1
  | (_, d) => uptoBulk d + 1
 end
def uptoSmall : (H : Type) → List (DataW H) → Bool := fun _ ds => decide (uptoBulkAll ds ≤ 1048576)
def OpenSpec.upto (s : _root_.Go.ChangeSpec) : _root_.Go.OpenSpec := { _root_.Go.OpenSpec.ofChange s with cond := some uptoSmall }

/-- 'pharoslaw18.IpPieces', WHERE WHAT IT READS IS OF BULK AT MOST 1048576: true; the input reads as it did. -/
def ipPiecesUptoRow : OpenClaim := { program := "ytmhkmcoobpfkcaa", sum := "a631d4b6ac4f36d423d578d9ec99771424fda3143fef6a5d1b152d736147639c", func := "pharos/pharoslaw18.IpPieces", spec := "ipPieces", inPlace := ["internal/abi.NoEscape"], unfollowed := true, recurses := true, plainKeys := false, apart := false, narrowed := true }
def IpPiecesUptoSaid : Prop := ipPiecesUptoRow.holds Try.pinned (OpenSpec.upto ipPiecesSpec)

/-- 'pharoslaw18.IpWhole', WHERE WHAT IT READS IS OF BULK AT MOST 1048576: true; the input reads as it did. -/
def ipWholeUptoRow : OpenClaim := { program := "ytmhkmcoobpfkcaa", sum := "a631d4b6ac4f36d423d578d9ec99771424fda3143fef6a5d1b152d736147639c", func := "pharos/pharoslaw18.IpWhole", spec := "ipWhole", inPlace := ["internal/abi.NoEscape"], unfollowed := true, recurses := true, plainKeys := false, apart := false, narrowed := true }
def IpWholeUptoSaid : Prop := ipWholeUptoRow.holds Try.pinned (OpenSpec.upto ipWholeSpec)

/-- 'pharoslaw18.IpFew', WHERE WHAT IT READS IS OF BULK AT MOST 1048576: true; the input reads as it did. -/
def ipFewUptoRow : OpenClaim := { program := "ytmhkmcoobpfkcaa", sum := "a631d4b6ac4f36d423d578d9ec99771424fda3143fef6a5d1b152d736147639c", func := "pharos/pharoslaw18.IpFew", spec := "ipFew", inPlace := ["internal/abi.NoEscape"], unfollowed := true, recurses := true, plainKeys := false, apart := false, narrowed := true }
def IpFewUptoSaid : Prop := ipFewUptoRow.holds Try.pinned (OpenSpec.upto ipFewSpec)

/-- 'pharoslaw18.IpNone', WHERE WHAT IT READS IS OF BULK AT MOST 1048576: true; the input reads as it did. -/
def ipNoneUptoRow : OpenClaim := { program := "ytmhkmcoobpfkcaa", sum := "a631d4b6ac4f36d423d578d9ec99771424fda3143fef6a5d1b152d736147639c", func := "pharos/pharoslaw18.IpNone", spec := "ipNone", inPlace := ["internal/abi.NoEscape"], unfollowed := true, recurses := true, plainKeys := false, apart := false, narrowed := true }
def IpNoneUptoSaid : Prop := ipNoneUptoRow.holds Try.pinned (OpenSpec.upto ipNoneSpec)

/-- 'pharoslaw18.IpApart', WHERE WHAT IT READS IS OF BULK AT MOST 1048576: true; the input reads as it did. -/
def ipApartUptoRow : OpenClaim := { program := "ytmhkmcoobpfkcaa", sum := "a631d4b6ac4f36d423d578d9ec99771424fda3143fef6a5d1b152d736147639c", func := "pharos/pharoslaw18.IpApart", spec := "ipApart", inPlace := ["internal/abi.NoEscape"], unfollowed := true, recurses := true, plainKeys := false, apart := false, narrowed := true }
def IpApartUptoSaid : Prop := ipApartUptoRow.holds Try.pinned (OpenSpec.upto ipApartSpec)

/-- 'pharoslaw18.IpCodes', WHERE WHAT IT READS IS OF BULK AT MOST 1048576: true; the input reads as it did. -/
def ipCodesUptoRow : OpenClaim := { program := "ytmhkmcoobpfkcaa", sum := "a631d4b6ac4f36d423d578d9ec99771424fda3143fef6a5d1b152d736147639c", func := "pharos/pharoslaw18.IpCodes", spec := "ipCodes", inPlace := ["internal/abi.NoEscape"], unfollowed := true, recurses := true, plainKeys := false, apart := false, narrowed := true }
def IpCodesUptoSaid : Prop := ipCodesUptoRow.holds Try.pinned (OpenSpec.upto ipCodesSpec)

/-- 'pharoslaw18.IpBack', WHERE WHAT IT READS IS OF BULK AT MOST 1048576: true; the input reads as it did. -/
def ipBackUptoRow : OpenClaim := { program := "ytmhkmcoobpfkcaa", sum := "a631d4b6ac4f36d423d578d9ec99771424fda3143fef6a5d1b152d736147639c", func := "pharos/pharoslaw18.IpBack", spec := "ipBack", inPlace := ["internal/abi.NoEscape"], unfollowed := true, recurses := true, plainKeys := false, apart := false, narrowed := true }
def IpBackUptoSaid : Prop := ipBackUptoRow.holds Try.pinned (OpenSpec.upto ipBackSpec)

end Rows
end Go.Proofs.Ytmhkmcoobpfkcaa
