/-
  DERIVED. GIVEN WITH THE SEED: THE CARDS: each row of YthbpjjlinebooaaDoorRows.lean that lists a variable, with what it lists TIED to the program's text (the seventh form; the later family's looks); each row that meets fmt, with fmt's text TOLD by the authors' own Lean function (tested against real Go, not proved from fmt's source: count such statements apart). THE CARD IS WHAT COUNTS. Prove the row's statement (the work); the ties are given (YthbpjjlinebooaaDoorTie.lean); close each card by the builder's one call (the guide's Derived/Test/ToyasCard.lean, 'card_holds'). Laid BY PROGRAM, IN A SANDBOX (cutbox-door.mjs). By AI agents, Wed Nov 11 2026. No macro, syntax, notation, axiom, sorry.
-/
import Derived.Test.YthbpjjlinebooaaDoorRows
import GoSem.ClaimSeven
namespace Go.Proofs.YthbpjjlinebooaaDoor
namespace Rows

/-- THE TIED CARD OF 'pharoslaw25.RecordReads'. -/
def recordReadsCard : Claim7 := { stood := { row := recordReadsRow, standIns := [], harness := (true, "572f76b59941f63d35346a7127d39be996701609d05e29701b752e5ef3cc3509"), looks := false }, kinds := [], alts := [], laidByText := true, laidKinds := [.data, .data, .pinned], laidTests := true, laidLooks := .later }
def RecordReadsCardSaid : Prop := Claim7.holds Tryd.pinned (.plain (OpenSpec.ofChange recordReadsSpec)) recordReadsCard

/-- THE TIED CARD OF 'pharoslaw25.RecordFar'. -/
def recordFarCard : Claim7 := { stood := { row := recordFarRow, standIns := [], harness := (true, "572f76b59941f63d35346a7127d39be996701609d05e29701b752e5ef3cc3509"), looks := false }, kinds := [], alts := [], laidByText := true, laidKinds := [.data, .data, .pinned], laidTests := true, laidLooks := .later }
def RecordFarCardSaid : Prop := Claim7.holds Tryd.pinned (.plain (OpenSpec.ofChange recordFarSpec)) recordFarCard

/-- THE TIED CARD OF 'pharoslaw25.RecordSeals'. -/
def recordSealsCard : Claim7 := { stood := { row := recordSealsRow, standIns := [], harness := (true, "572f76b59941f63d35346a7127d39be996701609d05e29701b752e5ef3cc3509"), looks := false }, kinds := [], alts := [], laidByText := true, laidKinds := [.data, .data, .pinned], laidTests := true, laidLooks := .later }
def RecordSealsCardSaid : Prop := Claim7.holds Tryd.pinned (.plain (OpenSpec.ofChange recordSealsSpec)) recordSealsCard

/-- THE TIED CARD OF 'pharoslaw25.RecordBack'. -/
def recordBackCard : Claim7 := { stood := { row := recordBackRow, standIns := [], harness := (true, "572f76b59941f63d35346a7127d39be996701609d05e29701b752e5ef3cc3509"), looks := false }, kinds := [], alts := [], laidByText := true, laidKinds := [.data, .data, .pinned], laidTests := true, laidLooks := .later }
def RecordBackCardSaid : Prop := Claim7.holds Tryd.pinned (.plain (OpenSpec.ofChange recordBackSpec)) recordBackCard

/-- THE TIED CARD OF 'pharoslaw25.RecordNil'. -/
def recordNilCard : Claim7 := { stood := { row := recordNilRow, standIns := [], harness := (true, "572f76b59941f63d35346a7127d39be996701609d05e29701b752e5ef3cc3509"), looks := false }, kinds := [], alts := [], laidByText := true, laidKinds := [.data, .data, .pinned], laidTests := true, laidLooks := .later }
def RecordNilCardSaid : Prop := Claim7.holds Tryd.pinned (.plain (OpenSpec.ofChange recordNilSpec)) recordNilCard

/-- THE TIED CARD OF 'pharoslaw25.RecordFrames'. -/
def recordFramesCard : Claim7 := { stood := { row := recordFramesRow, standIns := [], harness := (true, "572f76b59941f63d35346a7127d39be996701609d05e29701b752e5ef3cc3509"), looks := false }, kinds := [], alts := [], laidByText := true, laidKinds := [.data, .data, .pinned], laidTests := true, laidLooks := .later }
def RecordFramesCardSaid : Prop := Claim7.holds Tryd.pinned (.plain (OpenSpec.ofChange recordFramesSpec)) recordFramesCard

/-- THE SECOND FORM's CARD OF 'pharoslaw25.RecordReads'. -/
def recordReadsUptoCard : Claim7 := { stood := { row := recordReadsUptoRow, standIns := [], harness := (true, "572f76b59941f63d35346a7127d39be996701609d05e29701b752e5ef3cc3509"), looks := false }, kinds := [], alts := [], laidByText := true, laidKinds := [.data, .data, .pinned], laidTests := true, laidLooks := .later }
def RecordReadsUptoCardSaid : Prop := Claim7.holds Tryd.pinned (.plain (OpenSpec.upto recordReadsSpec)) recordReadsUptoCard

/-- THE SECOND FORM's CARD OF 'pharoslaw25.RecordFar'. -/
def recordFarUptoCard : Claim7 := { stood := { row := recordFarUptoRow, standIns := [], harness := (true, "572f76b59941f63d35346a7127d39be996701609d05e29701b752e5ef3cc3509"), looks := false }, kinds := [], alts := [], laidByText := true, laidKinds := [.data, .data, .pinned], laidTests := true, laidLooks := .later }
def RecordFarUptoCardSaid : Prop := Claim7.holds Tryd.pinned (.plain (OpenSpec.upto recordFarSpec)) recordFarUptoCard

/-- THE SECOND FORM's CARD OF 'pharoslaw25.RecordSeals'. -/
def recordSealsUptoCard : Claim7 := { stood := { row := recordSealsUptoRow, standIns := [], harness := (true, "572f76b59941f63d35346a7127d39be996701609d05e29701b752e5ef3cc3509"), looks := false }, kinds := [], alts := [], laidByText := true, laidKinds := [.data, .data, .pinned], laidTests := true, laidLooks := .later }
def RecordSealsUptoCardSaid : Prop := Claim7.holds Tryd.pinned (.plain (OpenSpec.upto recordSealsSpec)) recordSealsUptoCard

/-- THE SECOND FORM's CARD OF 'pharoslaw25.RecordBack'. -/
def recordBackUptoCard : Claim7 := { stood := { row := recordBackUptoRow, standIns := [], harness := (true, "572f76b59941f63d35346a7127d39be996701609d05e29701b752e5ef3cc3509"), looks := false }, kinds := [], alts := [], laidByText := true, laidKinds := [.data, .data, .pinned], laidTests := true, laidLooks := .later }
def RecordBackUptoCardSaid : Prop := Claim7.holds Tryd.pinned (.plain (OpenSpec.upto recordBackSpec)) recordBackUptoCard

/-- THE SECOND FORM's CARD OF 'pharoslaw25.RecordNil'. -/
def recordNilUptoCard : Claim7 := { stood := { row := recordNilUptoRow, standIns := [], harness := (true, "572f76b59941f63d35346a7127d39be996701609d05e29701b752e5ef3cc3509"), looks := false }, kinds := [], alts := [], laidByText := true, laidKinds := [.data, .data, .pinned], laidTests := true, laidLooks := .later }
def RecordNilUptoCardSaid : Prop := Claim7.holds Tryd.pinned (.plain (OpenSpec.upto recordNilSpec)) recordNilUptoCard

/-- THE SECOND FORM's CARD OF 'pharoslaw25.RecordFrames'. -/
def recordFramesUptoCard : Claim7 := { stood := { row := recordFramesUptoRow, standIns := [], harness := (true, "572f76b59941f63d35346a7127d39be996701609d05e29701b752e5ef3cc3509"), looks := false }, kinds := [], alts := [], laidByText := true, laidKinds := [.data, .data, .pinned], laidTests := true, laidLooks := .later }
def RecordFramesUptoCardSaid : Prop := Claim7.holds Tryd.pinned (.plain (OpenSpec.upto recordFramesSpec)) recordFramesUptoCard
end Rows
end Go.Proofs.YthbpjjlinebooaaDoor
