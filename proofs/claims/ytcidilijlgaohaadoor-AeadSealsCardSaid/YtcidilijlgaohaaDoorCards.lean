/-
  DERIVED. GIVEN WITH THE SEED: THE CARDS: each row of YtcidilijlgaohaaDoorRows.lean that lists a variable, with what it lists TIED to the program's text (the seventh form; the later family's looks); each row that meets fmt, with fmt's text TOLD by the authors' own Lean function (tested against real Go, not proved from fmt's source: count such statements apart). THE CARD IS WHAT COUNTS. Prove the row's statement (the work); the ties are given (YtcidilijlgaohaaDoorTie.lean); close each card by the builder's one call (the guide's Derived/Test/ToyasCard.lean, 'card_holds'). Laid BY PROGRAM, IN A SANDBOX (cutbox-door.mjs). By AI agents, Wed Nov 11 2026. No macro, syntax, notation, axiom, sorry.
-/
import Derived.Test.YtcidilijlgaohaaDoorRows
import GoSem.ClaimSeven
namespace Go.Proofs.YtcidilijlgaohaaDoor
namespace Rows

/-- THE TIED CARD OF 'pharoslaw13.AeadBlocks'. -/
def aeadBlocksCard : Claim7 := { stood := { row := aeadBlocksRow, standIns := [], harness := (true, "46d46740ffbcd98b8d63138e99d3b59114e626bceb65182dacfc7b02f552b291"), looks := false }, kinds := [], alts := [], laidByText := true, laidKinds := [.data], laidTests := true, laidLooks := .later }
def AeadBlocksCardSaid : Prop := Claim7.holds Tryd.pinned (.plain (OpenSpec.ofChange aeadBlocksSpec)) aeadBlocksCard

/-- THE TIED CARD OF 'pharoslaw13.AeadTags'. -/
def aeadTagsCard : Claim7 := { stood := { row := aeadTagsRow, standIns := [], harness := (true, "46d46740ffbcd98b8d63138e99d3b59114e626bceb65182dacfc7b02f552b291"), looks := false }, kinds := [], alts := [], laidByText := true, laidKinds := [.data], laidTests := true, laidLooks := .later }
def AeadTagsCardSaid : Prop := Claim7.holds Tryd.pinned (.plain (OpenSpec.ofChange aeadTagsSpec)) aeadTagsCard

/-- THE TIED CARD OF 'pharoslaw13.AeadEnds'. -/
def aeadEndsCard : Claim7 := { stood := { row := aeadEndsRow, standIns := [], harness := (true, "46d46740ffbcd98b8d63138e99d3b59114e626bceb65182dacfc7b02f552b291"), looks := false }, kinds := [], alts := [], laidByText := true, laidKinds := [.data], laidTests := true, laidLooks := .later }
def AeadEndsCardSaid : Prop := Claim7.holds Tryd.pinned (.plain (OpenSpec.ofChange aeadEndsSpec)) aeadEndsCard

/-- THE TIED CARD OF 'pharoslaw13.AeadSeals'. -/
def aeadSealsCard : Claim7 := { stood := { row := aeadSealsRow, standIns := [], harness := (true, "46d46740ffbcd98b8d63138e99d3b59114e626bceb65182dacfc7b02f552b291"), looks := false }, kinds := [], alts := [], laidByText := true, laidKinds := [.data], laidTests := true, laidLooks := .later }
def AeadSealsCardSaid : Prop := Claim7.holds Tryd.pinned (.plain (OpenSpec.ofChange aeadSealsSpec)) aeadSealsCard

/-- THE TIED CARD OF 'pharoslaw13.AeadLong'. -/
def aeadLongCard : Claim7 := { stood := { row := aeadLongRow, standIns := [], harness := (true, "46d46740ffbcd98b8d63138e99d3b59114e626bceb65182dacfc7b02f552b291"), looks := false }, kinds := [], alts := [], laidByText := true, laidKinds := [.data], laidTests := true, laidLooks := .later }
def AeadLongCardSaid : Prop := Claim7.holds Tryd.pinned (.plain (OpenSpec.ofChange aeadLongSpec)) aeadLongCard

/-- THE TIED CARD OF 'pharoslaw13.AeadBack'. -/
def aeadBackCard : Claim7 := { stood := { row := aeadBackRow, standIns := [], harness := (true, "46d46740ffbcd98b8d63138e99d3b59114e626bceb65182dacfc7b02f552b291"), looks := false }, kinds := [], alts := [], laidByText := true, laidKinds := [.data], laidTests := true, laidLooks := .later }
def AeadBackCardSaid : Prop := Claim7.holds Tryd.pinned (.plain (OpenSpec.ofChange aeadBackSpec)) aeadBackCard

/-- THE SECOND FORM's CARD OF 'pharoslaw13.AeadBlocks'. -/
def aeadBlocksUptoCard : Claim7 := { stood := { row := aeadBlocksUptoRow, standIns := [], harness := (true, "46d46740ffbcd98b8d63138e99d3b59114e626bceb65182dacfc7b02f552b291"), looks := false }, kinds := [], alts := [], laidByText := true, laidKinds := [.data], laidTests := true, laidLooks := .later }
def AeadBlocksUptoCardSaid : Prop := Claim7.holds Tryd.pinned (.plain (OpenSpec.upto aeadBlocksSpec)) aeadBlocksUptoCard

/-- THE SECOND FORM's CARD OF 'pharoslaw13.AeadTags'. -/
def aeadTagsUptoCard : Claim7 := { stood := { row := aeadTagsUptoRow, standIns := [], harness := (true, "46d46740ffbcd98b8d63138e99d3b59114e626bceb65182dacfc7b02f552b291"), looks := false }, kinds := [], alts := [], laidByText := true, laidKinds := [.data], laidTests := true, laidLooks := .later }
def AeadTagsUptoCardSaid : Prop := Claim7.holds Tryd.pinned (.plain (OpenSpec.upto aeadTagsSpec)) aeadTagsUptoCard

/-- THE SECOND FORM's CARD OF 'pharoslaw13.AeadEnds'. -/
def aeadEndsUptoCard : Claim7 := { stood := { row := aeadEndsUptoRow, standIns := [], harness := (true, "46d46740ffbcd98b8d63138e99d3b59114e626bceb65182dacfc7b02f552b291"), looks := false }, kinds := [], alts := [], laidByText := true, laidKinds := [.data], laidTests := true, laidLooks := .later }
def AeadEndsUptoCardSaid : Prop := Claim7.holds Tryd.pinned (.plain (OpenSpec.upto aeadEndsSpec)) aeadEndsUptoCard

/-- THE SECOND FORM's CARD OF 'pharoslaw13.AeadSeals'. -/
def aeadSealsUptoCard : Claim7 := { stood := { row := aeadSealsUptoRow, standIns := [], harness := (true, "46d46740ffbcd98b8d63138e99d3b59114e626bceb65182dacfc7b02f552b291"), looks := false }, kinds := [], alts := [], laidByText := true, laidKinds := [.data], laidTests := true, laidLooks := .later }
def AeadSealsUptoCardSaid : Prop := Claim7.holds Tryd.pinned (.plain (OpenSpec.upto aeadSealsSpec)) aeadSealsUptoCard

/-- THE SECOND FORM's CARD OF 'pharoslaw13.AeadLong'. -/
def aeadLongUptoCard : Claim7 := { stood := { row := aeadLongUptoRow, standIns := [], harness := (true, "46d46740ffbcd98b8d63138e99d3b59114e626bceb65182dacfc7b02f552b291"), looks := false }, kinds := [], alts := [], laidByText := true, laidKinds := [.data], laidTests := true, laidLooks := .later }
def AeadLongUptoCardSaid : Prop := Claim7.holds Tryd.pinned (.plain (OpenSpec.upto aeadLongSpec)) aeadLongUptoCard

/-- THE SECOND FORM's CARD OF 'pharoslaw13.AeadBack'. -/
def aeadBackUptoCard : Claim7 := { stood := { row := aeadBackUptoRow, standIns := [], harness := (true, "46d46740ffbcd98b8d63138e99d3b59114e626bceb65182dacfc7b02f552b291"), looks := false }, kinds := [], alts := [], laidByText := true, laidKinds := [.data], laidTests := true, laidLooks := .later }
def AeadBackUptoCardSaid : Prop := Claim7.holds Tryd.pinned (.plain (OpenSpec.upto aeadBackSpec)) aeadBackUptoCard
end Rows
end Go.Proofs.YtcidilijlgaohaaDoor
