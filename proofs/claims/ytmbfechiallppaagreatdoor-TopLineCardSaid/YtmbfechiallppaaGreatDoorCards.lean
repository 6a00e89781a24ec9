/-
  DERIVED. GIVEN WITH THE SEED: THE CARDS: each row of YtmbfechiallppaaGreatDoorRows.lean that lists a variable, with what it lists TIED to the program's text (the seventh form; the later family's looks); each row that meets fmt, with fmt's text TOLD by the authors' own Lean function (tested against real Go, not proved from fmt's source: count such statements apart). THE CARD IS WHAT COUNTS. Prove the row's statement (the work); the ties are given (YtmbfechiallppaaGreatDoorTie.lean); close each card by the builder's one call (the guide's Derived/Test/ToyasCard.lean, 'card_holds'). Laid BY PROGRAM, IN A SANDBOX (cutbox-door.mjs). By AI agents, Wed Nov 11 2026. No macro, syntax, notation, axiom, sorry.
-/
import Derived.Test.YtmbfechiallppaaGreatDoorRows
import GoSem.ClaimSeven
namespace Go.Proofs.YtmbfechiallppaaGreatDoor
namespace Rows

/-- THE TIED CARD OF 'fartop.TopLine'. -/
def topLineCard : Claim7 := { stood := { row := topLineRow, standIns := [], harness := (true, "d51a9f486a7b904667c82b3fd8b07d23dbc631e78c07e7f22bc47dd7154b6b49"), looks := false }, kinds := [], alts := [], laidByText := true, laidKinds := [.data, .data, .data, .data, .pinned], laidTests := true, laidLooks := .later }
def TopLineCardSaid : Prop := Claim7.holds Tryz.pinned (.plain (OpenSpec.ofChange topLineSpec)) topLineCard

/-- THE TIED CARD OF 'fartop.TopTyped'. -/
def topTypedCard : Claim7 := { stood := { row := topTypedRow, standIns := [], harness := (true, "d51a9f486a7b904667c82b3fd8b07d23dbc631e78c07e7f22bc47dd7154b6b49"), looks := false }, kinds := [], alts := [], laidByText := true, laidKinds := [.data, .data, .data, .data, .pinned], laidTests := true, laidLooks := .later }
def TopTypedCardSaid : Prop := Claim7.holds Tryz.pinned (.plain (OpenSpec.ofChange topTypedSpec)) topTypedCard

/-- THE TIED CARD OF 'fartop.TopDrawn'. -/
def topDrawnCard : Claim7 := { stood := { row := topDrawnRow, standIns := [], harness := (true, "d51a9f486a7b904667c82b3fd8b07d23dbc631e78c07e7f22bc47dd7154b6b49"), looks := false }, kinds := [], alts := [], laidByText := true, laidKinds := [.data, .data, .data, .data, .pinned], laidTests := true, laidLooks := .later }
def TopDrawnCardSaid : Prop := Claim7.holds Tryz.pinned (.plain (OpenSpec.ofChange topDrawnSpec)) topDrawnCard

/-- THE SECOND FORM's CARD OF 'fartop.TopLine'. -/
def topLineUptoCard : Claim7 := { stood := { row := topLineUptoRow, standIns := [], harness := (true, "d51a9f486a7b904667c82b3fd8b07d23dbc631e78c07e7f22bc47dd7154b6b49"), looks := false }, kinds := [], alts := [], laidByText := true, laidKinds := [.data, .data, .data, .data, .pinned], laidTests := true, laidLooks := .later }
def TopLineUptoCardSaid : Prop := Claim7.holds Tryz.pinned (.plain (OpenSpec.upto topLineSpec)) topLineUptoCard

/-- THE SECOND FORM's CARD OF 'fartop.TopTyped'. -/
def topTypedUptoCard : Claim7 := { stood := { row := topTypedUptoRow, standIns := [], harness := (true, "d51a9f486a7b904667c82b3fd8b07d23dbc631e78c07e7f22bc47dd7154b6b49"), looks := false }, kinds := [], alts := [], laidByText := true, laidKinds := [.data, .data, .data, .data, .pinned], laidTests := true, laidLooks := .later }
def TopTypedUptoCardSaid : Prop := Claim7.holds Tryz.pinned (.plain (OpenSpec.upto topTypedSpec)) topTypedUptoCard

/-- THE SECOND FORM's CARD OF 'fartop.TopDrawn'. -/
def topDrawnUptoCard : Claim7 := { stood := { row := topDrawnUptoRow, standIns := [], harness := (true, "d51a9f486a7b904667c82b3fd8b07d23dbc631e78c07e7f22bc47dd7154b6b49"), looks := false }, kinds := [], alts := [], laidByText := true, laidKinds := [.data, .data, .data, .data, .pinned], laidTests := true, laidLooks := .later }
def TopDrawnUptoCardSaid : Prop := Claim7.holds Tryz.pinned (.plain (OpenSpec.upto topDrawnSpec)) topDrawnUptoCard
end Rows
end Go.Proofs.YtmbfechiallppaaGreatDoor
