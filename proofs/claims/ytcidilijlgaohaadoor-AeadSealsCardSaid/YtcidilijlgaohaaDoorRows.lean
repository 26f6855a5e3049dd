/-
  NARROWER THAN 'FOR EVERY INPUT', by the rows' own cells (each row's printed sentence says how): AeadBlocks: laid · AeadTags: laid · AeadEnds: laid · AeadSeals: laid · AeadLong: laid · AeadBack: laid.
  DERIVED. THE GIVEN ROWS OF THIS SEAT. 6 by the template 'for every input the law returns true; each argument reads behind the call as it read before'; 0 by the template 'total and deterministic' (their statements: YtcidilijlgaohaaDoorTotals.lean).
  GIVEN WITH THE SEED: the statements are not yours to turn. If you find one false, say at which input.
  Laid BY PROGRAM, IN A SANDBOX (cutbox-rows.mjs): the forced cells as the released guide's own fill.sh prints them over the translation f0b27e38a14dc7fa… (all of the seat's roots in one cut). By AI agents, Wed Nov 11 2026. No macro, syntax, notation, axiom, sorry.
-/
import Derived.Test.YtcidilijlgaohaaDoorChecked
import GoSem.Claim
import GoSem.ClaimJoined
import GoSem.ClaimMapViews
import Derived.JoinedTies
import Derived.KernelRfl
namespace Go.Proofs.YtcidilijlgaohaaDoor
/- THE CELL 'sum', in the pinned program and in every row, IS THE sha256 OF THE DUMP (.gsa) THAT YtcidilijlgaohaaDoorProg.lean LOADS. Nothing in Lean hashes anything: it is a label: what it is worth is what the hold of that sum in a sandbox is worth. -/
noncomputable def Tryd.pinned : Pinned := { name := "ytcidilijlgaohaadoor", sum := "f0b27e38a14dc7facac811b1b64abd1bd436bb3af38d25ae491f36d87b7860fd", checked := Tryd.checked }
namespace Rows
def none {H : Type} : Left H := { results := [], args := [] }

/- WHAT THE LISTED PACKAGE-LEVEL VARIABLES READ AS WHEN THE CALL BEGINS. Each datum BY PROGRAM (the guide's laid-datum.mjs) off the statement by which the dump's own 'gosem.cut.vars' lays the variable. In a bare row this is a premise. The card (YtcidilijlgaohaaDoorCards.lean) ties it to the program's text. -/
def laid_pharos_aead_quarters {H : Type} : DataW H := .agg [.agg [.lit (.int .u8 0), .lit (.int .u8 4), .lit (.int .u8 8), .lit (.int .u8 12)], .agg [.lit (.int .u8 1), .lit (.int .u8 5), .lit (.int .u8 9), .lit (.int .u8 13)], .agg [.lit (.int .u8 2), .lit (.int .u8 6), .lit (.int .u8 10), .lit (.int .u8 14)], .agg [.lit (.int .u8 3), .lit (.int .u8 7), .lit (.int .u8 11), .lit (.int .u8 15)], .agg [.lit (.int .u8 0), .lit (.int .u8 5), .lit (.int .u8 10), .lit (.int .u8 15)], .agg [.lit (.int .u8 1), .lit (.int .u8 6), .lit (.int .u8 11), .lit (.int .u8 12)], .agg [.lit (.int .u8 2), .lit (.int .u8 7), .lit (.int .u8 8), .lit (.int .u8 13)], .agg [.lit (.int .u8 3), .lit (.int .u8 4), .lit (.int .u8 9), .lit (.int .u8 14)]]

/-- 'pharoslaw13.AeadBlocks': WHATEVER THE INPUT: true; the input reads as it did. -/
def aeadBlocksSpec : ChangeSpec := { name := "aeadBlocks", fn := fun _ => fun
  | [d1, d2, d3] => { results := [.lit (.bool true)], args := [d1, d2, d3] }
  | _ => none }
def aeadBlocksRow : OpenClaim := { program := "ytcidilijlgaohaadoor", sum := "f0b27e38a14dc7facac811b1b64abd1bd436bb3af38d25ae491f36d87b7860fd", func := "pharos/pharoslaw13.AeadBlocks", spec := "aeadBlocks", inPlace := ["math/bits.Add64"], unfollowed := true, recurses := true, named := ["pharos/aead.quarters"], apart := false, laid := [("pharos/aead.quarters", laid_pharos_aead_quarters)] }
def AeadBlocksSaid : Prop := aeadBlocksRow.holds Tryd.pinned (OpenSpec.ofChange aeadBlocksSpec)

/-- ITS FALSE NEIGHBOUR: 'it returns false'. Refute it at one input. -/
def aeadBlocksWrong : ChangeSpec := { name := "aeadBlocks", fn := fun _ => fun
  | [d1, d2, d3] => { results := [.lit (.bool false)], args := [d1, d2, d3] }
  | _ => none }
def AeadBlocksWrongFalsely : Prop := aeadBlocksRow.holds Tryd.pinned (OpenSpec.ofChange aeadBlocksWrong)

/-- 'pharoslaw13.AeadTags': WHATEVER THE INPUT: true; the input reads as it did. -/
def aeadTagsSpec : ChangeSpec := { name := "aeadTags", fn := fun _ => fun
  | [d1, d2, d3] => { results := [.lit (.bool true)], args := [d1, d2, d3] }
  | _ => none }
def aeadTagsRow : OpenClaim := { program := "ytcidilijlgaohaadoor", sum := "f0b27e38a14dc7facac811b1b64abd1bd436bb3af38d25ae491f36d87b7860fd", func := "pharos/pharoslaw13.AeadTags", spec := "aeadTags", inPlace := ["math/bits.Add64"], unfollowed := true, recurses := true, named := ["pharos/aead.quarters"], apart := false, laid := [("pharos/aead.quarters", laid_pharos_aead_quarters)] }
def AeadTagsSaid : Prop := aeadTagsRow.holds Tryd.pinned (OpenSpec.ofChange aeadTagsSpec)

/-- ITS FALSE NEIGHBOUR: 'it returns false'. Refute it at one input. -/
def aeadTagsWrong : ChangeSpec := { name := "aeadTags", fn := fun _ => fun
  | [d1, d2, d3] => { results := [.lit (.bool false)], args := [d1, d2, d3] }
  | _ => none }
def AeadTagsWrongFalsely : Prop := aeadTagsRow.holds Tryd.pinned (OpenSpec.ofChange aeadTagsWrong)

/-- 'pharoslaw13.AeadEnds': WHATEVER THE INPUT: true; the input reads as it did. -/
def aeadEndsSpec : ChangeSpec := { name := "aeadEnds", fn := fun _ => fun
  | [d1, d2, d3] => { results := [.lit (.bool true)], args := [d1, d2, d3] }
  | _ => none }
def aeadEndsRow : OpenClaim := { program := "ytcidilijlgaohaadoor", sum := "f0b27e38a14dc7facac811b1b64abd1bd436bb3af38d25ae491f36d87b7860fd", func := "pharos/pharoslaw13.AeadEnds", spec := "aeadEnds", inPlace := ["math/bits.Add64"], unfollowed := true, recurses := true, named := ["pharos/aead.quarters"], apart := false, laid := [("pharos/aead.quarters", laid_pharos_aead_quarters)] }
def AeadEndsSaid : Prop := aeadEndsRow.holds Tryd.pinned (OpenSpec.ofChange aeadEndsSpec)

/-- ITS FALSE NEIGHBOUR: 'it returns false'. Refute it at one input. -/
def aeadEndsWrong : ChangeSpec := { name := "aeadEnds", fn := fun _ => fun
  | [d1, d2, d3] => { results := [.lit (.bool false)], args := [d1, d2, d3] }
  | _ => none }
def AeadEndsWrongFalsely : Prop := aeadEndsRow.holds Tryd.pinned (OpenSpec.ofChange aeadEndsWrong)

/-- 'pharoslaw13.AeadSeals': WHATEVER THE INPUT: true; the input reads as it did. -/
def aeadSealsSpec : ChangeSpec := { name := "aeadSeals", fn := fun _ => fun
  | [d1, d2, d3, d4] => { results := [.lit (.bool true)], args := [d1, d2, d3, d4] }
  | _ => none }
def aeadSealsRow : OpenClaim := { program := "ytcidilijlgaohaadoor", sum := "f0b27e38a14dc7facac811b1b64abd1bd436bb3af38d25ae491f36d87b7860fd", func := "pharos/pharoslaw13.AeadSeals", spec := "aeadSeals", inPlace := ["math/bits.Add64"], unfollowed := true, recurses := true, named := ["pharos/aead.quarters"], apart := false, laid := [("pharos/aead.quarters", laid_pharos_aead_quarters)] }
def AeadSealsSaid : Prop := aeadSealsRow.holds Tryd.pinned (OpenSpec.ofChange aeadSealsSpec)

/-- ITS FALSE NEIGHBOUR: 'it returns false'. Refute it at one input. -/
def aeadSealsWrong : ChangeSpec := { name := "aeadSeals", fn := fun _ => fun
  | [d1, d2, d3, d4] => { results := [.lit (.bool false)], args := [d1, d2, d3, d4] }
  | _ => none }
def AeadSealsWrongFalsely : Prop := aeadSealsRow.holds Tryd.pinned (OpenSpec.ofChange aeadSealsWrong)

/-- 'pharoslaw13.AeadLong': WHATEVER THE INPUT: true; the input reads as it did. -/
def aeadLongSpec : ChangeSpec := { name := "aeadLong", fn := fun _ => fun
  | [d1, d2] => { results := [.lit (.bool true)], args := [d1, d2] }
  | _ => none }
def aeadLongRow : OpenClaim := { program := "ytcidilijlgaohaadoor", sum := "f0b27e38a14dc7facac811b1b64abd1bd436bb3af38d25ae491f36d87b7860fd", func := "pharos/pharoslaw13.AeadLong", spec := "aeadLong", inPlace := ["math/bits.Add64"], unfollowed := true, recurses := true, named := ["pharos/aead.quarters"], apart := false, laid := [("pharos/aead.quarters", laid_pharos_aead_quarters)] }
def AeadLongSaid : Prop := aeadLongRow.holds Tryd.pinned (OpenSpec.ofChange aeadLongSpec)

/-- ITS FALSE NEIGHBOUR: 'it returns false'. Refute it at one input. -/
def aeadLongWrong : ChangeSpec := { name := "aeadLong", fn := fun _ => fun
  | [d1, d2] => { results := [.lit (.bool false)], args := [d1, d2] }
  | _ => none }
def AeadLongWrongFalsely : Prop := aeadLongRow.holds Tryd.pinned (OpenSpec.ofChange aeadLongWrong)

/-- 'pharoslaw13.AeadBack': WHATEVER THE INPUT: true; the input reads as it did. -/
def aeadBackSpec : ChangeSpec := { name := "aeadBack", fn := fun _ => fun
  | [d1, d2, d3, d4, d5, d6] => { results := [.lit (.bool true)], args := [d1, d2, d3, d4, d5, d6] }
  | _ => none }
def aeadBackRow : OpenClaim := { program := "ytcidilijlgaohaadoor", sum := "f0b27e38a14dc7facac811b1b64abd1bd436bb3af38d25ae491f36d87b7860fd", func := "pharos/pharoslaw13.AeadBack", spec := "aeadBack", inPlace := ["math/bits.Add64"], unfollowed := true, recurses := true, named := ["pharos/aead.quarters"], apart := false, laid := [("pharos/aead.quarters", laid_pharos_aead_quarters)] }
def AeadBackSaid : Prop := aeadBackRow.holds Tryd.pinned (OpenSpec.ofChange aeadBackSpec)

/-- ITS FALSE NEIGHBOUR: 'it returns false'. Refute it at one input. -/
def aeadBackWrong : ChangeSpec := { name := "aeadBack", fn := fun _ => fun
  | [d1, d2, d3, d4, d5, d6] => { results := [.lit (.bool false)], args := [d1, d2, d3, d4, d5, d6] }
  | _ => none }
def AeadBackWrongFalsely : Prop := aeadBackRow.holds Tryd.pinned (OpenSpec.ofChange aeadBackWrong)

/- THE SECOND FORM. 'bulk': how many values and letters a reading holds, each counted each time it is reached (what is shared counts as often as it is met; a slice's spare places count too). A statement '..UptoSaid' is the law's where the arguments, and the package variables that the reading takes, are together of bulk at most 1048576: NARROWER than '..Said'. Prove '..Said' where nothing that the law and all that it calls make is longer than what came in: it says more and counts as full. Else prove '..UptoSaid'. A law counts once. -/
mutual
def uptoBulk {H : Type} : DataW H → Nat
  | .lit (.string bytes) => bytes.length + 1
  | .lit _ => 1
  | .nil => 1
  | .ptr d => uptoBulk d + 1
  | .slice elems spare => uptoBulkAll elems + uptoBulkAll spare + 1
  | .agg parts => uptoBulkAll parts + 1
  | .iface _ d => uptoBulk d + 1
  | .map entries => uptoBulkEntries entries + 1
  | .held _ => 1
def uptoBulkAll {H : Type} : List (DataW H) → Nat
  | [] => 0
  | d :: r => uptoBulk d + uptoBulkAll r
def uptoBulkEntries {H : Type} : List (Lit × DataW H) → Nat
  | [] => 0
  | x :: r => uptoBulkEntry x + uptoBulkEntries r
def uptoBulkEntry {H : Type} : Lit × DataW H → Nat
  | (.string bytes, d) => bytes.length + uptoBulk d + 1
  | (_, d) => uptoBulk d + 1
 end
def uptoSmall : (H : Type) → List (DataW H) → Bool := fun _ ds => decide (uptoBulkAll ds ≤ 1048576)
def OpenSpec.upto (s : _root_.Go.ChangeSpec) : _root_.Go.OpenSpec := { _root_.Go.OpenSpec.ofChange s with cond := some uptoSmall }

/-- 'pharoslaw13.AeadBlocks', WHERE WHAT IT READS IS OF BULK AT MOST 1048576: true; the input reads as it did. -/
def aeadBlocksUptoRow : OpenClaim := { program := "ytcidilijlgaohaadoor", sum := "f0b27e38a14dc7facac811b1b64abd1bd436bb3af38d25ae491f36d87b7860fd", func := "pharos/pharoslaw13.AeadBlocks", spec := "aeadBlocks", inPlace := ["math/bits.Add64"], unfollowed := true, recurses := true, named := ["pharos/aead.quarters"], apart := false, laid := [("pharos/aead.quarters", laid_pharos_aead_quarters)], narrowed := true }
def AeadBlocksUptoSaid : Prop := aeadBlocksUptoRow.holds Tryd.pinned (OpenSpec.upto aeadBlocksSpec)

/-- 'pharoslaw13.AeadTags', WHERE WHAT IT READS IS OF BULK AT MOST 1048576: true; the input reads as it did. -/
def aeadTagsUptoRow : OpenClaim := { program := "ytcidilijlgaohaadoor", sum := "f0b27e38a14dc7facac811b1b64abd1bd436bb3af38d25ae491f36d87b7860fd", func := "pharos/pharoslaw13.AeadTags", spec := "aeadTags", inPlace := ["math/bits.Add64"], unfollowed := true, recurses := true, named := ["pharos/aead.quarters"], apart := false, laid := [("pharos/aead.quarters", laid_pharos_aead_quarters)], narrowed := true }
def AeadTagsUptoSaid : Prop := aeadTagsUptoRow.holds Tryd.pinned (OpenSpec.upto aeadTagsSpec)

/-- 'pharoslaw13.AeadEnds', WHERE WHAT IT READS IS OF BULK AT MOST 1048576: true; the input reads as it did. -/
def aeadEndsUptoRow : OpenClaim := { program := "ytcidilijlgaohaadoor", sum := "f0b27e38a14dc7facac811b1b64abd1bd436bb3af38d25ae491f36d87b7860fd", func := "pharos/pharoslaw13.AeadEnds", spec := "aeadEnds", inPlace := ["math/bits.Add64"], unfollowed := true, recurses := true, named := ["pharos/aead.quarters"], apart := false, laid := [("pharos/aead.quarters", laid_pharos_aead_quarters)], narrowed := true }
def AeadEndsUptoSaid : Prop := aeadEndsUptoRow.holds Tryd.pinned (OpenSpec.upto aeadEndsSpec)

/-- 'pharoslaw13.AeadSeals', WHERE WHAT IT READS IS OF BULK AT MOST 1048576: true; the input reads as it did. -/
def aeadSealsUptoRow : OpenClaim := { program := "ytcidilijlgaohaadoor", sum := "f0b27e38a14dc7facac811b1b64abd1bd436bb3af38d25ae491f36d87b7860fd", func := "pharos/pharoslaw13.AeadSeals", spec := "aeadSeals", inPlace := ["math/bits.Add64"], unfollowed := true, recurses := true, named := ["pharos/aead.quarters"], apart := false, laid := [("pharos/aead.quarters", laid_pharos_aead_quarters)], narrowed := true }
def AeadSealsUptoSaid : Prop := aeadSealsUptoRow.holds Tryd.pinned (OpenSpec.upto aeadSealsSpec)

/-- 'pharoslaw13.AeadLong', WHERE WHAT IT READS IS OF BULK AT MOST 1048576: true; the input reads as it did. -/
def aeadLongUptoRow : OpenClaim := { program := "ytcidilijlgaohaadoor", sum := "f0b27e38a14dc7facac811b1b64abd1bd436bb3af38d25ae491f36d87b7860fd", func := "pharos/pharoslaw13.AeadLong", spec := "aeadLong", inPlace := ["math/bits.Add64"], unfollowed := true, recurses := true, named := ["pharos/aead.quarters"], apart := false, laid := [("pharos/aead.quarters", laid_pharos_aead_quarters)], narrowed := true }
def AeadLongUptoSaid : Prop := aeadLongUptoRow.holds Tryd.pinned (OpenSpec.upto aeadLongSpec)

/-- 'pharoslaw13.AeadBack', WHERE WHAT IT READS IS OF BULK AT MOST 1048576: true; the input reads as it did. -/
def aeadBackUptoRow : OpenClaim := { program := "ytcidilijlgaohaadoor", sum := "f0b27e38a14dc7facac811b1b64abd1bd436bb3af38d25ae491f36d87b7860fd", func := "pharos/pharoslaw13.AeadBack", spec := "aeadBack", inPlace := ["math/bits.Add64"], unfollowed := true, recurses := true, named := ["pharos/aead.quarters"], apart := false, laid := [("pharos/aead.quarters", laid_pharos_aead_quarters)], narrowed := true }
def AeadBackUptoSaid : Prop := aeadBackUptoRow.holds Tryd.pinned (OpenSpec.upto aeadBackSpec)

end Rows
end Go.Proofs.YtcidilijlgaohaaDoor
