/-
  DERIVED. GIVEN WITH THE SEED: THE CARDS: each row of YtbandaebilkkkaaDoorRows.lean that lists a variable, with what it lists TIED to the program's text (the seventh form; the later family's looks); each row that meets fmt, with fmt's text TOLD by the authors' own Lean function (tested against real Go, not proved from fmt's source: count such statements apart). THE CARD IS WHAT COUNTS. Prove the row's statement (the work); the ties are given (YtbandaebilkkkaaDoorTie.lean); close each card by the builder's one call (the guide's Derived/Test/ToyasCard.lean, 'card_holds'). Laid BY PROGRAM, IN A SANDBOX (cutbox-door.mjs). By AI agents, Wed Nov 11 2026. No macro, syntax, notation, axiom, sorry.
-/
import Derived.Test.YtbandaebilkkkaaDoorRows
import GoSem.ClaimSeven
namespace Go.Proofs.YtbandaebilkkkaaDoor
namespace Rows

/-- THE TIED CARD OF 'pharoslaw17.LinkLast'. -/
def linkLastCard : Claim7 := { stood := { row := linkLastRow, standIns := [], harness := (true, "f9e1df7d4a494924d1834b2438798318ec823d8bff5b1bd078c9483556e64661"), looks := false }, kinds := [], alts := [], laidByText := true, laidKinds := [.data, .pinned], laidTests := true, laidLooks := .later }
def LinkLastCardSaid : Prop := Claim7.holds Tryd.pinned (.plain (OpenSpec.ofChange linkLastSpec)) linkLastCard

/-- THE TIED CARD OF 'pharoslaw17.LinkCodes'. -/
def linkCodesCard : Claim7 := { stood := { row := linkCodesRow, standIns := [], harness := (true, "f9e1df7d4a494924d1834b2438798318ec823d8bff5b1bd078c9483556e64661"), looks := false }, kinds := [], alts := [], laidByText := true, laidKinds := [.data, .pinned], laidTests := true, laidLooks := .later }
def LinkCodesCardSaid : Prop := Claim7.holds Tryd.pinned (.plain (OpenSpec.ofChange linkCodesSpec)) linkCodesCard

/-- THE TIED CARD OF 'pharoslaw17.LinkBack'. -/
def linkBackCard : Claim7 := { stood := { row := linkBackRow, standIns := [], harness := (true, "f9e1df7d4a494924d1834b2438798318ec823d8bff5b1bd078c9483556e64661"), looks := false }, kinds := [], alts := [], laidByText := true, laidKinds := [.data, .pinned], laidTests := true, laidLooks := .later }
def LinkBackCardSaid : Prop := Claim7.holds Tryd.pinned (.plain (OpenSpec.ofChange linkBackSpec)) linkBackCard

/-- THE TIED CARD OF 'pharoslaw17.LinkPlays'. -/
def linkPlaysCard : Claim7 := { stood := { row := linkPlaysRow, standIns := [], harness := (true, "f9e1df7d4a494924d1834b2438798318ec823d8bff5b1bd078c9483556e64661"), looks := false }, kinds := [], alts := [], laidByText := true, laidKinds := [.data, .pinned], laidTests := true, laidLooks := .later }
def LinkPlaysCardSaid : Prop := Claim7.holds Tryd.pinned (.plain (OpenSpec.ofChange linkPlaysSpec)) linkPlaysCard

/-- THE TIED CARD OF 'pharoslaw17.LinkNone'. -/
def linkNoneCard : Claim7 := { stood := { row := linkNoneRow, standIns := [], harness := (true, "f9e1df7d4a494924d1834b2438798318ec823d8bff5b1bd078c9483556e64661"), looks := false }, kinds := [], alts := [], laidByText := true, laidKinds := [.data, .pinned], laidTests := true, laidLooks := .later }
def LinkNoneCardSaid : Prop := Claim7.holds Tryd.pinned (.plain (OpenSpec.ofChange linkNoneSpec)) linkNoneCard

/-- THE SECOND FORM's CARD OF 'pharoslaw17.LinkLast'. -/
def linkLastUptoCard : Claim7 := { stood := { row := linkLastUptoRow, standIns := [], harness := (true, "f9e1df7d4a494924d1834b2438798318ec823d8bff5b1bd078c9483556e64661"), looks := false }, kinds := [], alts := [], laidByText := true, laidKinds := [.data, .pinned], laidTests := true, laidLooks := .later }
def LinkLastUptoCardSaid : Prop := Claim7.holds Tryd.pinned (.plain (OpenSpec.upto linkLastSpec)) linkLastUptoCard

/-- THE SECOND FORM's CARD OF 'pharoslaw17.LinkCodes'. -/
def linkCodesUptoCard : Claim7 := { stood := { row := linkCodesUptoRow, standIns := [], harness := (true, "f9e1df7d4a494924d1834b2438798318ec823d8bff5b1bd078c9483556e64661"), looks := false }, kinds := [], alts := [], laidByText := true, laidKinds := [.data, .pinned], laidTests := true, laidLooks := .later }
def LinkCodesUptoCardSaid : Prop := Claim7.holds Tryd.pinned (.plain (OpenSpec.upto linkCodesSpec)) linkCodesUptoCard

/-- THE SECOND FORM's CARD OF 'pharoslaw17.LinkBack'. -/
def linkBackUptoCard : Claim7 := { stood := { row := linkBackUptoRow, standIns := [], harness := (true, "f9e1df7d4a494924d1834b2438798318ec823d8bff5b1bd078c9483556e64661"), looks := false }, kinds := [], alts := [], laidByText := true, laidKinds := [.data, .pinned], laidTests := true, laidLooks := .later }
def LinkBackUptoCardSaid : Prop := Claim7.holds Tryd.pinned (.plain (OpenSpec.upto linkBackSpec)) linkBackUptoCard

/-- THE SECOND FORM's CARD OF 'pharoslaw17.LinkPlays'. -/
def linkPlaysUptoCard : Claim7 := { stood := { row := linkPlaysUptoRow, standIns := [], harness := (true, "f9e1df7d4a494924d1834b2438798318ec823d8bff5b1bd078c9483556e64661"), looks := false }, kinds := [], alts := [], laidByText := true, laidKinds := [.data, .pinned], laidTests := true, laidLooks := .later }
def LinkPlaysUptoCardSaid : Prop := Claim7.holds Tryd.pinned (.plain (OpenSpec.upto linkPlaysSpec)) linkPlaysUptoCard

/-- THE SECOND FORM's CARD OF 'pharoslaw17.LinkNone'. -/
def linkNoneUptoCard : Claim7 := { stood := { row := linkNoneUptoRow, standIns := [], harness := (true, "f9e1df7d4a494924d1834b2438798318ec823d8bff5b1bd078c9483556e64661"), looks := false }, kinds := [], alts := [], laidByText := true, laidKinds := [.data, .pinned], laidTests := true, laidLooks := .later }
def LinkNoneUptoCardSaid : Prop := Claim7.holds Tryd.pinned (.plain (OpenSpec.upto linkNoneSpec)) linkNoneUptoCard
end Rows
end Go.Proofs.YtbandaebilkkkaaDoor
