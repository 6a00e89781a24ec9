/-
  DERIVED. GIVEN WITH THE SEED: THE CARDS: each row of YtmmnimagbnlcmaaGreatDoorRows.lean that lists a variable, with what it lists TIED to the program's text (the seventh form; the later family's looks); each row that meets fmt, with fmt's text TOLD by the authors' own Lean function (tested against real Go, not proved from fmt's source: count such statements apart). THE CARD IS WHAT COUNTS. Prove the row's statement (the work); the ties are given (YtmmnimagbnlcmaaGreatDoorTie.lean); close each card by the builder's one call (the guide's Derived/Test/ToyasCard.lean, 'card_holds'). Laid BY PROGRAM, IN A SANDBOX (cutbox-door.mjs). By AI agents, Wed Nov 11 2026. No macro, syntax, notation, axiom, sorry.
-/
import Derived.Test.YtmmnimagbnlcmaaGreatDoorRows
import GoSem.ClaimSeven
namespace Go.Proofs.YtmmnimagbnlcmaaGreatDoor
namespace Rows

/-- THE TIED CARD OF 'fartop.TopTyped'. -/
def topTypedCard : Claim7 := { stood := { row := topTypedRow, standIns := [], harness := (true, "c9e8405c722bd785e068795adf7eb0426e2bdbd05edbd775d3acac0e4f268a9d"), looks := false }, kinds := [], alts := [], laidByText := true, laidKinds := [.data, .data, .data, .data, .pinned], laidTests := true, laidLooks := .later }
def TopTypedCardSaid : Prop := Claim7.holds Tryz.pinned (.plain (OpenSpec.ofChange topTypedSpec)) topTypedCard

/-- THE TIED CARD OF 'fartop.TopDrawn'. -/
def topDrawnCard : Claim7 := { stood := { row := topDrawnRow, standIns := [], harness := (true, "c9e8405c722bd785e068795adf7eb0426e2bdbd05edbd775d3acac0e4f268a9d"), looks := false }, kinds := [], alts := [], laidByText := true, laidKinds := [.data, .data, .data, .data, .pinned], laidTests := true, laidLooks := .later }
def TopDrawnCardSaid : Prop := Claim7.holds Tryz.pinned (.plain (OpenSpec.ofChange topDrawnSpec)) topDrawnCard

/-- THE SECOND FORM's CARD OF 'fartop.TopTyped'. -/
def topTypedUptoCard : Claim7 := { stood := { row := topTypedUptoRow, standIns := [], harness := (true, "c9e8405c722bd785e068795adf7eb0426e2bdbd05edbd775d3acac0e4f268a9d"), looks := false }, kinds := [], alts := [], laidByText := true, laidKinds := [.data, .data, .data, .data, .pinned], laidTests := true, laidLooks := .later }
def TopTypedUptoCardSaid : Prop := Claim7.holds Tryz.pinned (.plain (OpenSpec.upto topTypedSpec)) topTypedUptoCard

/-- THE SECOND FORM's CARD OF 'fartop.TopDrawn'. -/
def topDrawnUptoCard : Claim7 := { stood := { row := topDrawnUptoRow, standIns := [], harness := (true, "c9e8405c722bd785e068795adf7eb0426e2bdbd05edbd775d3acac0e4f268a9d"), looks := false }, kinds := [], alts := [], laidByText := true, laidKinds := [.data, .data, .data, .data, .pinned], laidTests := true, laidLooks := .later }
def TopDrawnUptoCardSaid : Prop := Claim7.holds Tryz.pinned (.plain (OpenSpec.upto topDrawnSpec)) topDrawnUptoCard
end Rows
end Go.Proofs.YtmmnimagbnlcmaaGreatDoor
