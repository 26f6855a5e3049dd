/-
  No cell of these rows narrows 'for every input' (looked for: loops, veiled, ifaces, maps, wideKeys, modest, calm, conditions, laid).
  DERIVED. THE GIVEN ROWS OF THIS SEAT. 4 by the template 'for every input the law returns true; each argument reads behind the call as it read before'; 0 by the template 'total and deterministic' (their statements: YtpidkdkbgjnhlaaTotals.lean).
  GIVEN WITH THE SEED: the statements are not yours to turn. If you find one false, say at which input.
  Laid BY PROGRAM, IN A SANDBOX (cutbox-rows.mjs): the forced cells as the released guide's own fill.sh prints them over the translation 7590d7011a2520a5… (all of the seat's roots in one cut). By AI agents, Wed Nov 11 2026. No macro, syntax, notation, axiom, sorry.
-/
import Derived.Test.YtpidkdkbgjnhlaaChecked
import GoSem.Claim
import GoSem.ClaimJoined
import GoSem.ClaimMapViews
import Derived.JoinedTies
import Derived.KernelRfl
namespace Go.Proofs.Ytpidkdkbgjnhlaa
/- THE CELL 'sum', in the pinned program and in every row, IS THE sha256 OF THE DUMP (.gsa) THAT YtpidkdkbgjnhlaaProg.lean LOADS. Nothing in Lean hashes anything: it is a label: what it is worth is what the hold of that sum in a sandbox is worth. -/
noncomputable def Try.pinned : Pinned := { name := "ytpidkdkbgjnhlaa", sum := "7590d7011a2520a504cf2aae6ed624c8bbad2d24dd5603fbc5b7dc56e7249491", checked := Try.checked }
namespace Rows
def none {H : Type} : Left H := { results := [], args := [] }

/-- 'pharoslaw01.MemApart': WHATEVER THE INPUT: true; the input reads as it did. -/
def memApartSpec : ChangeSpec := { name := "memApart", fn := fun _ => fun
  | [d1, d2] => { results := [.lit (.bool true)], args := [d1, d2] }
  | _ => none }
def memApartRow : OpenClaim := { program := "ytpidkdkbgjnhlaa", sum := "7590d7011a2520a504cf2aae6ed624c8bbad2d24dd5603fbc5b7dc56e7249491", func := "pharos/pharoslaw01.MemApart", spec := "memApart", inPlace := ["slices.overlaps[pharos/api.Span]"], unfollowed := true, recurses := true, apart := false }
def MemApartSaid : Prop := memApartRow.holds Try.pinned (OpenSpec.ofChange memApartSpec)

/-- ITS FALSE NEIGHBOUR: 'it returns false'. Refute it at one input. -/
def memApartWrong : ChangeSpec := { name := "memApart", fn := fun _ => fun
  | [d1, d2] => { results := [.lit (.bool false)], args := [d1, d2] }
  | _ => none }
def MemApartWrongFalsely : Prop := memApartRow.holds Try.pinned (OpenSpec.ofChange memApartWrong)

/-- 'pharoslaw01.MemPool': WHATEVER THE INPUT: true; the input reads as it did. -/
def memPoolSpec : ChangeSpec := { name := "memPool", fn := fun _ => fun
  | [d1, d2, d3] => { results := [.lit (.bool true)], args := [d1, d2, d3] }
  | _ => none }
def memPoolRow : OpenClaim := { program := "ytpidkdkbgjnhlaa", sum := "7590d7011a2520a504cf2aae6ed624c8bbad2d24dd5603fbc5b7dc56e7249491", func := "pharos/pharoslaw01.MemPool", spec := "memPool", inPlace := ["slices.overlaps[pharos/api.Span]"], unfollowed := true, recurses := true, apart := false }
def MemPoolSaid : Prop := memPoolRow.holds Try.pinned (OpenSpec.ofChange memPoolSpec)

/-- ITS FALSE NEIGHBOUR: 'it returns false'. Refute it at one input. -/
def memPoolWrong : ChangeSpec := { name := "memPool", fn := fun _ => fun
  | [d1, d2, d3] => { results := [.lit (.bool false)], args := [d1, d2, d3] }
  | _ => none }
def MemPoolWrongFalsely : Prop := memPoolRow.holds Try.pinned (OpenSpec.ofChange memPoolWrong)

/-- 'pharoslaw01.MemPlays': WHATEVER THE INPUT: true; the input reads as it did. -/
def memPlaysSpec : ChangeSpec := { name := "memPlays", fn := fun _ => fun
  | [d1, d2, d3, d4, d5] => { results := [.lit (.bool true)], args := [d1, d2, d3, d4, d5] }
  | _ => none }
def memPlaysRow : OpenClaim := { program := "ytpidkdkbgjnhlaa", sum := "7590d7011a2520a504cf2aae6ed624c8bbad2d24dd5603fbc5b7dc56e7249491", func := "pharos/pharoslaw01.MemPlays", spec := "memPlays", inPlace := ["slices.overlaps[pharos/api.Span]"], unfollowed := true, recurses := true, apart := false }
def MemPlaysSaid : Prop := memPlaysRow.holds Try.pinned (OpenSpec.ofChange memPlaysSpec)

/-- ITS FALSE NEIGHBOUR: 'it returns false'. Refute it at one input. -/
def memPlaysWrong : ChangeSpec := { name := "memPlays", fn := fun _ => fun
  | [d1, d2, d3, d4, d5] => { results := [.lit (.bool false)], args := [d1, d2, d3, d4, d5] }
  | _ => none }
def MemPlaysWrongFalsely : Prop := memPlaysRow.holds Try.pinned (OpenSpec.ofChange memPlaysWrong)

/-- 'pharoslaw01.MemNone': WHATEVER THE INPUT: true; the input reads as it did. -/
def memNoneSpec : ChangeSpec := { name := "memNone", fn := fun _ => fun
  | [d1, d2, d3] => { results := [.lit (.bool true)], args := [d1, d2, d3] }
  | _ => none }
def memNoneRow : OpenClaim := { program := "ytpidkdkbgjnhlaa", sum := "7590d7011a2520a504cf2aae6ed624c8bbad2d24dd5603fbc5b7dc56e7249491", func := "pharos/pharoslaw01.MemNone", spec := "memNone", inPlace := ["slices.overlaps[pharos/api.Span]"], unfollowed := true, recurses := true, apart := false }
def MemNoneSaid : Prop := memNoneRow.holds Try.pinned (OpenSpec.ofChange memNoneSpec)

/-- ITS FALSE NEIGHBOUR: 'it returns false'. Refute it at one input. -/
def memNoneWrong : ChangeSpec := { name := "memNone", fn := fun _ => fun
  | [d1, d2, d3] => { results := [.lit (.bool false)], args := [d1, d2, d3] }
  | _ => none }
def MemNoneWrongFalsely : Prop := memNoneRow.holds Try.pinned (OpenSpec.ofChange memNoneWrong)

/- THE SECOND FORM. 'bulk': how many values and letters a reading holds, each counted each time it is reached (what is shared counts as often as it is met; a slice's spare places count too). A statement '..UptoSaid' is the law's where the arguments, and the package variables that the reading takes, are together of bulk at most 1048576: NARROWER than '..Said'. Prove '..Said' where nothing that the law and all that it calls make is longer than what came in: it says more and counts as full. Else prove '..UptoSaid'. A law counts once. -/
mutual
def uptoBulk {H : Type} : DataW H → Nat
  | .lit (.string bytes) => bytes.length + 1
  | .lit _ => 1
  | .nil => 1
  | .ptr d => uptoBulk d + 1
  | .slice elems spare => uptoBulkAll elems + uptoBulkAll spare + 1
  | .agg parts => uptoBulkAll parts + 1
  | .iface _ d => uptoBulk d + 1
  | .map entries => uptoBulkEntries entries + 1
  | .held _ => 1
def uptoBulkAll {H : Type} : List (DataW H) → Nat
  | [] => 0
  | d :: r => uptoBulk d + uptoBulkAll r
def uptoBulkEntries {H : Type} : List (Lit × DataW H) → Nat
  | [] => 0
  | x :: r => uptoBulkEntry x + uptoBulkEntries r
def uptoBulkEntry {H : Type} : Lit × DataW H → Nat
  | (.string bytes, d) => bytes.length + uptoBulk d + 1
  | (_, d) => uptoBulk d + 1
 end
def uptoSmall : (H : Type) → List (DataW H) → Bool := fun _ ds => decide (uptoBulkAll ds ≤ 1048576)
def OpenSpec.upto (s : _root_.Go.ChangeSpec) : _root_.Go.OpenSpec := { _root_.Go.OpenSpec.ofChange s with cond := some uptoSmall }

/-- 'pharoslaw01.MemApart', WHERE WHAT IT READS IS OF BULK AT MOST 1048576: true; the input reads as it did. -/
def memApartUptoRow : OpenClaim := { program := "ytpidkdkbgjnhlaa", sum := "7590d7011a2520a504cf2aae6ed624c8bbad2d24dd5603fbc5b7dc56e7249491", func := "pharos/pharoslaw01.MemApart", spec := "memApart", inPlace := ["slices.overlaps[pharos/api.Span]"], unfollowed := true, recurses := true, apart := false, narrowed := true }
def MemApartUptoSaid : Prop := memApartUptoRow.holds Try.pinned (OpenSpec.upto memApartSpec)

/-- 'pharoslaw01.MemPool', WHERE WHAT IT READS IS OF BULK AT MOST 1048576: true; the input reads as it did. -/
def memPoolUptoRow : OpenClaim := { program := "ytpidkdkbgjnhlaa", sum := "7590d7011a2520a504cf2aae6ed624c8bbad2d24dd5603fbc5b7dc56e7249491", func := "pharos/pharoslaw01.MemPool", spec := "memPool", inPlace := ["slices.overlaps[pharos/api.Span]"], unfollowed := true, recurses := true, apart := false, narrowed := true }
def MemPoolUptoSaid : Prop := memPoolUptoRow.holds Try.pinned (OpenSpec.upto memPoolSpec)

/-- 'pharoslaw01.MemPlays', WHERE WHAT IT READS IS OF BULK AT MOST 1048576: true; the input reads as it did. -/
def memPlaysUptoRow : OpenClaim := { program := "ytpidkdkbgjnhlaa", sum := "7590d7011a2520a504cf2aae6ed624c8bbad2d24dd5603fbc5b7dc56e7249491", func := "pharos/pharoslaw01.MemPlays", spec := "memPlays", inPlace := ["slices.overlaps[pharos/api.Span]"], unfollowed := true, recurses := true, apart := false, narrowed := true }
def MemPlaysUptoSaid : Prop := memPlaysUptoRow.holds Try.pinned (OpenSpec.upto memPlaysSpec)

/-- 'pharoslaw01.MemNone', WHERE WHAT IT READS IS OF BULK AT MOST 1048576: true; the input reads as it did. -/
def memNoneUptoRow : OpenClaim := { program := "ytpidkdkbgjnhlaa", sum := "7590d7011a2520a504cf2aae6ed624c8bbad2d24dd5603fbc5b7dc56e7249491", func := "pharos/pharoslaw01.MemNone", spec := "memNone", inPlace := ["slices.overlaps[pharos/api.Span]"], unfollowed := true, recurses := true, apart := false, narrowed := true }
def MemNoneUptoSaid : Prop := memNoneUptoRow.holds Try.pinned (OpenSpec.upto memNoneSpec)

end Rows
end Go.Proofs.Ytpidkdkbgjnhlaa
