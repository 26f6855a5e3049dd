/-
  NARROWER THAN 'FOR EVERY INPUT', by the rows' own cells (each row's printed sentence says how): RecordReads: laid · RecordFar: laid · RecordSeals: laid · RecordBack: laid · RecordNil: laid · RecordFrames: laid.
  DERIVED. THE GIVEN ROWS OF THIS SEAT. 6 by the template 'for every input the law returns true; each argument reads behind the call as it read before'; 0 by the template 'total and deterministic' (their statements: YthbpjjlinebooaaDoorTotals.lean).
  GIVEN WITH THE SEED: the statements are not yours to turn. If you find one false, say at which input.
  Laid BY PROGRAM, IN A SANDBOX (cutbox-rows.mjs): the forced cells as the released guide's own fill.sh prints them over the translation 4a954085c41d1625… (all of the seat's roots in one cut). By AI agents, Wed Nov 11 2026. No macro, syntax, notation, axiom, sorry.
-/
import Derived.Test.YthbpjjlinebooaaDoorChecked
import GoSem.PinnedTables
import GoSem.Claim
import GoSem.ClaimJoined
import GoSem.ClaimMapViews
import Derived.JoinedTies
import Derived.KernelRfl
namespace Go.Proofs.YthbpjjlinebooaaDoor
/- THE CELL 'sum', in the pinned program and in every row, IS THE sha256 OF THE DUMP (.gsa) THAT YthbpjjlinebooaaDoorProg.lean LOADS. Nothing in Lean hashes anything: it is a label: what it is worth is what the hold of that sum in a sandbox is worth. -/
noncomputable def Tryd.pinned : Pinned := { name := "ythbpjjlinebooaadoor", sum := "4a954085c41d1625d5e4805446a925486113f3c59a7bd9240d4b1c2283c4cbf6", checked := Tryd.checked }
namespace Rows
def none {H : Type} : Left H := { results := [], args := [] }

/- WHAT THE LISTED PACKAGE-LEVEL VARIABLES READ AS WHEN THE CALL BEGINS. Each datum BY PROGRAM (the guide's laid-datum.mjs) off the statement by which the dump's own 'gosem.cut.vars' lays the variable. In a bare row this is a premise. The card (YthbpjjlinebooaaDoorCards.lean) ties it to the program's text. -/
def laid_unicode_utf8_acceptRanges {H : Type} : DataW H := .agg [.agg [.lit (.int .u8 128), .lit (.int .u8 191)], .agg [.lit (.int .u8 160), .lit (.int .u8 191)], .agg [.lit (.int .u8 128), .lit (.int .u8 159)], .agg [.lit (.int .u8 144), .lit (.int .u8 191)], .agg [.lit (.int .u8 128), .lit (.int .u8 143)], .agg [.lit (.int .u8 0), .lit (.int .u8 0)], .agg [.lit (.int .u8 0), .lit (.int .u8 0)], .agg [.lit (.int .u8 0), .lit (.int .u8 0)], .agg [.lit (.int .u8 0), .lit (.int .u8 0)], .agg [.lit (.int .u8 0), .lit (.int .u8 0)], .agg [.lit (.int .u8 0), .lit (.int .u8 0)], .agg [.lit (.int .u8 0), .lit (.int .u8 0)], .agg [.lit (.int .u8 0), .lit (.int .u8 0)], .agg [.lit (.int .u8 0), .lit (.int .u8 0)], .agg [.lit (.int .u8 0), .lit (.int .u8 0)], .agg [.lit (.int .u8 0), .lit (.int .u8 0)]]
def laid_pharos_aead_quarters {H : Type} : DataW H := .agg [.agg [.lit (.int .u8 0), .lit (.int .u8 4), .lit (.int .u8 8), .lit (.int .u8 12)], .agg [.lit (.int .u8 1), .lit (.int .u8 5), .lit (.int .u8 9), .lit (.int .u8 13)], .agg [.lit (.int .u8 2), .lit (.int .u8 6), .lit (.int .u8 10), .lit (.int .u8 14)], .agg [.lit (.int .u8 3), .lit (.int .u8 7), .lit (.int .u8 11), .lit (.int .u8 15)], .agg [.lit (.int .u8 0), .lit (.int .u8 5), .lit (.int .u8 10), .lit (.int .u8 15)], .agg [.lit (.int .u8 1), .lit (.int .u8 6), .lit (.int .u8 11), .lit (.int .u8 12)], .agg [.lit (.int .u8 2), .lit (.int .u8 7), .lit (.int .u8 8), .lit (.int .u8 13)], .agg [.lit (.int .u8 3), .lit (.int .u8 4), .lit (.int .u8 9), .lit (.int .u8 14)]]
/-- One of Go's own tables, pinned by name: the form's constant. -/
def laid_unicode_utf8_first : DataW Unit := Go.Pinned.utf8First

/-- 'pharoslaw25.RecordReads': WHATEVER THE INPUT: true; the input reads as it did. -/
def recordReadsSpec : ChangeSpec := { name := "recordReads", fn := fun _ => fun
  | [d1, d2] => { results := [.lit (.bool true)], args := [d1, d2] }
  | _ => none }
def recordReadsRow : OpenClaim := { program := "ythbpjjlinebooaadoor", sum := "4a954085c41d1625d5e4805446a925486113f3c59a7bd9240d4b1c2283c4cbf6", func := "pharos/pharoslaw25.RecordReads", spec := "recordReads", inPlace := ["internal/abi.NoEscape", "internal/bytealg.MakeNoZero", "math/bits.Add64", "internal/bytealg.IndexByteString", "internal/bytealg.IndexString"], unfollowed := true, recurses := true, named := ["pharos/aead.quarters", "unicode/utf8.first", "unicode/utf8.acceptRanges", "internal/bytealg.MaxLen"], apart := false, laid := [("unicode/utf8.acceptRanges", laid_unicode_utf8_acceptRanges), ("pharos/aead.quarters", laid_pharos_aead_quarters), ("unicode/utf8.first", laid_unicode_utf8_first)] }
def RecordReadsSaid : Prop := recordReadsRow.holds Tryd.pinned (OpenSpec.ofChange recordReadsSpec)

/-- ITS FALSE NEIGHBOUR: 'it returns false'. Refute it at one input. -/
def recordReadsWrong : ChangeSpec := { name := "recordReads", fn := fun _ => fun
  | [d1, d2] => { results := [.lit (.bool false)], args := [d1, d2] }
  | _ => none }
def RecordReadsWrongFalsely : Prop := recordReadsRow.holds Tryd.pinned (OpenSpec.ofChange recordReadsWrong)

/-- 'pharoslaw25.RecordFar': WHATEVER THE INPUT: true; the input reads as it did. -/
def recordFarSpec : ChangeSpec := { name := "recordFar", fn := fun _ => fun
  | [d1, d2] => { results := [.lit (.bool true)], args := [d1, d2] }
  | _ => none }
def recordFarRow : OpenClaim := { program := "ythbpjjlinebooaadoor", sum := "4a954085c41d1625d5e4805446a925486113f3c59a7bd9240d4b1c2283c4cbf6", func := "pharos/pharoslaw25.RecordFar", spec := "recordFar", inPlace := ["internal/abi.NoEscape", "internal/bytealg.MakeNoZero", "math/bits.Add64", "internal/bytealg.IndexByteString", "internal/bytealg.IndexString"], unfollowed := true, recurses := true, named := ["pharos/aead.quarters", "unicode/utf8.first", "unicode/utf8.acceptRanges", "internal/bytealg.MaxLen"], apart := false, laid := [("unicode/utf8.acceptRanges", laid_unicode_utf8_acceptRanges), ("pharos/aead.quarters", laid_pharos_aead_quarters), ("unicode/utf8.first", laid_unicode_utf8_first)] }
def RecordFarSaid : Prop := recordFarRow.holds Tryd.pinned (OpenSpec.ofChange recordFarSpec)

/-- ITS FALSE NEIGHBOUR: 'it returns false'. Refute it at one input. -/
def recordFarWrong : ChangeSpec := { name := "recordFar", fn := fun _ => fun
  | [d1, d2] => { results := [.lit (.bool false)], args := [d1, d2] }
  | _ => none }
def RecordFarWrongFalsely : Prop := recordFarRow.holds Tryd.pinned (OpenSpec.ofChange recordFarWrong)

/-- 'pharoslaw25.RecordSeals': WHATEVER THE INPUT: true; the input reads as it did. -/
def recordSealsSpec : ChangeSpec := { name := "recordSeals", fn := fun _ => fun
  | [d1, d2, d3] => { results := [.lit (.bool true)], args := [d1, d2, d3] }
  | _ => none }
def recordSealsRow : OpenClaim := { program := "ythbpjjlinebooaadoor", sum := "4a954085c41d1625d5e4805446a925486113f3c59a7bd9240d4b1c2283c4cbf6", func := "pharos/pharoslaw25.RecordSeals", spec := "recordSeals", inPlace := ["internal/abi.NoEscape", "internal/bytealg.MakeNoZero", "math/bits.Add64", "internal/bytealg.IndexByteString", "internal/bytealg.IndexString"], unfollowed := true, recurses := true, named := ["pharos/aead.quarters", "unicode/utf8.first", "unicode/utf8.acceptRanges", "internal/bytealg.MaxLen"], apart := false, laid := [("unicode/utf8.acceptRanges", laid_unicode_utf8_acceptRanges), ("pharos/aead.quarters", laid_pharos_aead_quarters), ("unicode/utf8.first", laid_unicode_utf8_first)] }
def RecordSealsSaid : Prop := recordSealsRow.holds Tryd.pinned (OpenSpec.ofChange recordSealsSpec)

/-- ITS FALSE NEIGHBOUR: 'it returns false'. Refute it at one input. -/
def recordSealsWrong : ChangeSpec := { name := "recordSeals", fn := fun _ => fun
  | [d1, d2, d3] => { results := [.lit (.bool false)], args := [d1, d2, d3] }
  | _ => none }
def RecordSealsWrongFalsely : Prop := recordSealsRow.holds Tryd.pinned (OpenSpec.ofChange recordSealsWrong)

/-- 'pharoslaw25.RecordBack': WHATEVER THE INPUT: true; the input reads as it did. -/
def recordBackSpec : ChangeSpec := { name := "recordBack", fn := fun _ => fun
  | [d1, d2, d3] => { results := [.lit (.bool true)], args := [d1, d2, d3] }
  | _ => none }
def recordBackRow : OpenClaim := { program := "ythbpjjlinebooaadoor", sum := "4a954085c41d1625d5e4805446a925486113f3c59a7bd9240d4b1c2283c4cbf6", func := "pharos/pharoslaw25.RecordBack", spec := "recordBack", inPlace := ["internal/abi.NoEscape", "internal/bytealg.MakeNoZero", "math/bits.Add64", "internal/bytealg.IndexByteString", "internal/bytealg.IndexString"], unfollowed := true, recurses := true, named := ["pharos/aead.quarters", "unicode/utf8.first", "unicode/utf8.acceptRanges", "internal/bytealg.MaxLen"], apart := false, laid := [("unicode/utf8.acceptRanges", laid_unicode_utf8_acceptRanges), ("pharos/aead.quarters", laid_pharos_aead_quarters), ("unicode/utf8.first", laid_unicode_utf8_first)] }
def RecordBackSaid : Prop := recordBackRow.holds Tryd.pinned (OpenSpec.ofChange recordBackSpec)

/-- ITS FALSE NEIGHBOUR: 'it returns false'. Refute it at one input. -/
def recordBackWrong : ChangeSpec := { name := "recordBack", fn := fun _ => fun
  | [d1, d2, d3] => { results := [.lit (.bool false)], args := [d1, d2, d3] }
  | _ => none }
def RecordBackWrongFalsely : Prop := recordBackRow.holds Tryd.pinned (OpenSpec.ofChange recordBackWrong)

/-- 'pharoslaw25.RecordNil': WHATEVER THE INPUT: true; the input reads as it did. -/
def recordNilSpec : ChangeSpec := { name := "recordNil", fn := fun _ => fun
  | [d1, d2] => { results := [.lit (.bool true)], args := [d1, d2] }
  | _ => none }
def recordNilRow : OpenClaim := { program := "ythbpjjlinebooaadoor", sum := "4a954085c41d1625d5e4805446a925486113f3c59a7bd9240d4b1c2283c4cbf6", func := "pharos/pharoslaw25.RecordNil", spec := "recordNil", inPlace := ["internal/abi.NoEscape", "internal/bytealg.MakeNoZero", "math/bits.Add64", "internal/bytealg.IndexByteString", "internal/bytealg.IndexString"], unfollowed := true, recurses := true, named := ["pharos/aead.quarters", "unicode/utf8.first", "unicode/utf8.acceptRanges", "internal/bytealg.MaxLen"], apart := false, laid := [("unicode/utf8.acceptRanges", laid_unicode_utf8_acceptRanges), ("pharos/aead.quarters", laid_pharos_aead_quarters), ("unicode/utf8.first", laid_unicode_utf8_first)] }
def RecordNilSaid : Prop := recordNilRow.holds Tryd.pinned (OpenSpec.ofChange recordNilSpec)

/-- ITS FALSE NEIGHBOUR: 'it returns false'. Refute it at one input. -/
def recordNilWrong : ChangeSpec := { name := "recordNil", fn := fun _ => fun
  | [d1, d2] => { results := [.lit (.bool false)], args := [d1, d2] }
  | _ => none }
def RecordNilWrongFalsely : Prop := recordNilRow.holds Tryd.pinned (OpenSpec.ofChange recordNilWrong)

/-- 'pharoslaw25.RecordFrames': WHATEVER THE INPUT: true; the input reads as it did. -/
def recordFramesSpec : ChangeSpec := { name := "recordFrames", fn := fun _ => fun
  | [d1, d2, d3] => { results := [.lit (.bool true)], args := [d1, d2, d3] }
  | _ => none }
def recordFramesRow : OpenClaim := { program := "ythbpjjlinebooaadoor", sum := "4a954085c41d1625d5e4805446a925486113f3c59a7bd9240d4b1c2283c4cbf6", func := "pharos/pharoslaw25.RecordFrames", spec := "recordFrames", inPlace := ["internal/abi.NoEscape", "internal/bytealg.MakeNoZero", "math/bits.Add64", "internal/bytealg.IndexByteString", "internal/bytealg.IndexString"], unfollowed := true, recurses := true, named := ["pharos/aead.quarters", "unicode/utf8.first", "unicode/utf8.acceptRanges", "internal/bytealg.MaxLen"], apart := false, laid := [("unicode/utf8.acceptRanges", laid_unicode_utf8_acceptRanges), ("pharos/aead.quarters", laid_pharos_aead_quarters), ("unicode/utf8.first", laid_unicode_utf8_first)] }
def RecordFramesSaid : Prop := recordFramesRow.holds Tryd.pinned (OpenSpec.ofChange recordFramesSpec)

/-- ITS FALSE NEIGHBOUR: 'it returns false'. Refute it at one input. -/
def recordFramesWrong : ChangeSpec := { name := "recordFrames", fn := fun _ => fun
  | [d1, d2, d3] => { results := [.lit (.bool false)], args := [d1, d2, d3] }
  | _ => none }
def RecordFramesWrongFalsely : Prop := recordFramesRow.holds Tryd.pinned (OpenSpec.ofChange recordFramesWrong)

/- THE SECOND FORM. 'bulk': how many values and letters a reading holds, each counted each time it is reached (what is shared counts as often as it is met; a slice's spare places count too). A statement '..UptoSaid' is the law's where the arguments, and the package variables that the reading takes, are together of bulk at most 1048576: NARROWER than '..Said'. Prove '..Said' where nothing that the law and all that it calls make is longer than what came in: it says more and counts as full. Else prove '..UptoSaid'. A law counts once. -/
mutual
def uptoBulk {H : Type} : DataW H → Nat
  | .lit (.string bytes) => bytes.length + 1
  | .lit _ => 1
  | .nil => 1
  | .ptr d => uptoBulk d + 1
  | .slice elems spare => uptoBulkAll elems + uptoBulkAll spare + 1
  | .agg parts => uptoBulkAll parts + 1
  | .iface _ d => uptoBulk d + 1
  | .map entries => uptoBulkEntries entries + 1
  | .held _ => 1
def uptoBulkAll {H : Type} : List (DataW H) → Nat
  | [] => 0
  | d :: r => uptoBulk d + uptoBulkAll r
def uptoBulkEntries {H : Type} : List (Lit × DataW H) → Nat
  | [] => 0
  | x :: r => uptoBulkEntry x + uptoBulkEntries r
def uptoBulkEntry {H : Type} : Lit × DataW H → Nat
  | (.string bytes, d) => bytes.length + uptoBulk d + 1
  | (_, d) => uptoBulk d + 1
 end
def uptoSmall : (H : Type) → List (DataW H) → Bool := fun _ ds => decide (uptoBulkAll ds ≤ 1048576)
def OpenSpec.upto (s : _root_.Go.ChangeSpec) : _root_.Go.OpenSpec := { _root_.Go.OpenSpec.ofChange s with cond := some uptoSmall }

/-- 'pharoslaw25.RecordReads', WHERE WHAT IT READS IS OF BULK AT MOST 1048576: true; the input reads as it did. -/
def recordReadsUptoRow : OpenClaim := { program := "ythbpjjlinebooaadoor", sum := "4a954085c41d1625d5e4805446a925486113f3c59a7bd9240d4b1c2283c4cbf6", func := "pharos/pharoslaw25.RecordReads", spec := "recordReads", inPlace := ["internal/abi.NoEscape", "internal/bytealg.MakeNoZero", "math/bits.Add64", "internal/bytealg.IndexByteString", "internal/bytealg.IndexString"], unfollowed := true, recurses := true, named := ["pharos/aead.quarters", "unicode/utf8.first", "unicode/utf8.acceptRanges", "internal/bytealg.MaxLen"], apart := false, laid := [("unicode/utf8.acceptRanges", laid_unicode_utf8_acceptRanges), ("pharos/aead.quarters", laid_pharos_aead_quarters), ("unicode/utf8.first", laid_unicode_utf8_first)], narrowed := true }
def RecordReadsUptoSaid : Prop := recordReadsUptoRow.holds Tryd.pinned (OpenSpec.upto recordReadsSpec)

/-- 'pharoslaw25.RecordFar', WHERE WHAT IT READS IS OF BULK AT MOST 1048576: true; the input reads as it did. -/
def recordFarUptoRow : OpenClaim := { program := "ythbpjjlinebooaadoor", sum := "4a954085c41d1625d5e4805446a925486113f3c59a7bd9240d4b1c2283c4cbf6", func := "pharos/pharoslaw25.RecordFar", spec := "recordFar", inPlace := ["internal/abi.NoEscape", "internal/bytealg.MakeNoZero", "math/bits.Add64", "internal/bytealg.IndexByteString", "internal/bytealg.IndexString"], unfollowed := true, recurses := true, named := ["pharos/aead.quarters", "unicode/utf8.first", "unicode/utf8.acceptRanges", "internal/bytealg.MaxLen"], apart := false, laid := [("unicode/utf8.acceptRanges", laid_unicode_utf8_acceptRanges), ("pharos/aead.quarters", laid_pharos_aead_quarters), ("unicode/utf8.first", laid_unicode_utf8_first)], narrowed := true }
def RecordFarUptoSaid : Prop := recordFarUptoRow.holds Tryd.pinned (OpenSpec.upto recordFarSpec)

/-- 'pharoslaw25.RecordSeals', WHERE WHAT IT READS IS OF BULK AT MOST 1048576: true; the input reads as it did. -/
def recordSealsUptoRow : OpenClaim := { program := "ythbpjjlinebooaadoor", sum := "4a954085c41d1625d5e4805446a925486113f3c59a7bd9240d4b1c2283c4cbf6", func := "pharos/pharoslaw25.RecordSeals", spec := "recordSeals", inPlace := ["internal/abi.NoEscape", "internal/bytealg.MakeNoZero", "math/bits.Add64", "internal/bytealg.IndexByteString", "internal/bytealg.IndexString"], unfollowed := true, recurses := true, named := ["pharos/aead.quarters", "unicode/utf8.first", "unicode/utf8.acceptRanges", "internal/bytealg.MaxLen"], apart := false, laid := [("unicode/utf8.acceptRanges", laid_unicode_utf8_acceptRanges), ("pharos/aead.quarters", laid_pharos_aead_quarters), ("unicode/utf8.first", laid_unicode_utf8_first)], narrowed := true }
def RecordSealsUptoSaid : Prop := recordSealsUptoRow.holds Tryd.pinned (OpenSpec.upto recordSealsSpec)

/-- 'pharoslaw25.RecordBack', WHERE WHAT IT READS IS OF BULK AT MOST 1048576: true; the input reads as it did. -/
def recordBackUptoRow : OpenClaim := { program := "ythbpjjlinebooaadoor", sum := "4a954085c41d1625d5e4805446a925486113f3c59a7bd9240d4b1c2283c4cbf6", func := "pharos/pharoslaw25.RecordBack", spec := "recordBack", inPlace := ["internal/abi.NoEscape", "internal/bytealg.MakeNoZero", "math/bits.Add64", "internal/bytealg.IndexByteString", "internal/bytealg.IndexString"], unfollowed := true, recurses := true, named := ["pharos/aead.quarters", "unicode/utf8.first", "unicode/utf8.acceptRanges", "internal/bytealg.MaxLen"], apart := false, laid := [("unicode/utf8.acceptRanges", laid_unicode_utf8_acceptRanges), ("pharos/aead.quarters", laid_pharos_aead_quarters), ("unicode/utf8.first", laid_unicode_utf8_first)], narrowed := true }
def RecordBackUptoSaid : Prop := recordBackUptoRow.holds Tryd.pinned (OpenSpec.upto recordBackSpec)

/-- 'pharoslaw25.RecordNil', WHERE WHAT IT READS IS OF BULK AT MOST 1048576: true; the input reads as it did. -/
def recordNilUptoRow : OpenClaim := { program := "ythbpjjlinebooaadoor", sum := "4a954085c41d1625d5e4805446a925486113f3c59a7bd9240d4b1c2283c4cbf6", func := "pharos/pharoslaw25.RecordNil", spec := "recordNil", inPlace := ["internal/abi.NoEscape", "internal/bytealg.MakeNoZero", "math/bits.Add64", "internal/bytealg.IndexByteString", "internal/bytealg.IndexString"], unfollowed := true, recurses := true, named := ["pharos/aead.quarters", "unicode/utf8.first", "unicode/utf8.acceptRanges", "internal/bytealg.MaxLen"], apart := false, laid := [("unicode/utf8.acceptRanges", laid_unicode_utf8_acceptRanges), ("pharos/aead.quarters", laid_pharos_aead_quarters), ("unicode/utf8.first", laid_unicode_utf8_first)], narrowed := true }
def RecordNilUptoSaid : Prop := recordNilUptoRow.holds Tryd.pinned (OpenSpec.upto recordNilSpec)

/-- 'pharoslaw25.RecordFrames', WHERE WHAT IT READS IS OF BULK AT MOST 1048576: true; the input reads as it did. -/
def recordFramesUptoRow : OpenClaim := { program := "ythbpjjlinebooaadoor", sum := "4a954085c41d1625d5e4805446a925486113f3c59a7bd9240d4b1c2283c4cbf6", func := "pharos/pharoslaw25.RecordFrames", spec := "recordFrames", inPlace := ["internal/abi.NoEscape", "internal/bytealg.MakeNoZero", "math/bits.Add64", "internal/bytealg.IndexByteString", "internal/bytealg.IndexString"], unfollowed := true, recurses := true, named := ["pharos/aead.quarters", "unicode/utf8.first", "unicode/utf8.acceptRanges", "internal/bytealg.MaxLen"], apart := false, laid := [("unicode/utf8.acceptRanges", laid_unicode_utf8_acceptRanges), ("pharos/aead.quarters", laid_pharos_aead_quarters), ("unicode/utf8.first", laid_unicode_utf8_first)], narrowed := true }
def RecordFramesUptoSaid : Prop := recordFramesUptoRow.holds Tryd.pinned (OpenSpec.upto recordFramesSpec)

end Rows
end Go.Proofs.YthbpjjlinebooaaDoor
