/-
  DERIVED. GIVEN WITH THE SEED: THE CARDS: each row of YtflmckoolagikaaDoorRows.lean that lists a variable, with what it lists TIED to the program's text (the seventh form; the later family's looks); each row that meets fmt, with fmt's text TOLD by the authors' own Lean function (tested against real Go, not proved from fmt's source: count such statements apart). THE CARD IS WHAT COUNTS. Prove the row's statement (the work); the ties are given (YtflmckoolagikaaDoorTie.lean); close each card by the builder's one call (the guide's Derived/Test/ToyasCard.lean, 'card_holds'). Laid BY PROGRAM, IN A SANDBOX (cutbox-door.mjs). By AI agents, Wed Nov 11 2026. No macro, syntax, notation, axiom, sorry.
-/
import Derived.Test.YtflmckoolagikaaDoorRows
import GoSem.ClaimSeven
namespace Go.Proofs.YtflmckoolagikaaDoor
namespace Rows

/-- THE TIED CARD OF 'farlaw.ParseFeeds'. -/
def parseFeedsCard : Claim7 := { stood := { row := parseFeedsRow, standIns := [], harness := (true, "83cedd12291bd994427377c748b4fc513d9dc11bf35b6946a7b0a098d0e87847"), looks := true }, kinds := [], alts := [], laidByText := true, laidKinds := [.data, .pinned], laidTests := true, laidLooks := .later }
def ParseFeedsCardSaid : Prop := Claim7.holds Tryd.pinned (.plain (OpenSpec.ofChange parseFeedsSpec)) parseFeedsCard

/-- THE TIED CARD OF 'farlaw.ParseWrites'. -/
def parseWritesCard : Claim7 := { stood := { row := parseWritesRow, standIns := [], harness := (true, "83cedd12291bd994427377c748b4fc513d9dc11bf35b6946a7b0a098d0e87847"), looks := true }, kinds := [], alts := [], laidByText := true, laidKinds := [.data, .data, .data, .data, .pinned], laidTests := true, laidLooks := .later }
def ParseWritesCardSaid : Prop := Claim7.holds Tryd.pinned (.plain (OpenSpec.ofChange parseWritesSpec)) parseWritesCard

/-- THE TIED CARD OF 'farlaw.PressMouse'. -/
def pressMouseCard : Claim7 := { stood := { row := pressMouseRow, standIns := [], harness := (true, "83cedd12291bd994427377c748b4fc513d9dc11bf35b6946a7b0a098d0e87847"), looks := true }, kinds := [], alts := [], laidByText := true, laidKinds := [.data, .data, .data, .data, .sentinel, .sentinel, .pinned], laidTests := true, laidLooks := .later }
def PressMouseCardSaid : Prop := Claim7.holds Tryd.pinned (.plain (OpenSpec.ofChange pressMouseSpec)) pressMouseCard

/-- THE TIED CARD OF 'farlaw.EnvironAnswers'. -/
def environAnswersCard : Claim7 := { stood := { row := environAnswersRow, standIns := [], harness := (true, "83cedd12291bd994427377c748b4fc513d9dc11bf35b6946a7b0a098d0e87847"), looks := true }, kinds := [], alts := [], laidByText := true, laidKinds := [.data, .pinned], laidTests := true, laidLooks := .later }
def EnvironAnswersCardSaid : Prop := Claim7.holds Tryd.pinned (.plain (OpenSpec.ofChange environAnswersSpec)) environAnswersCard

/-- THE TIED CARD OF 'farlaw.ClientNews'. -/
def clientNewsCard : Claim7 := { stood := { row := clientNewsRow, standIns := [], harness := (true, "83cedd12291bd994427377c748b4fc513d9dc11bf35b6946a7b0a098d0e87847"), looks := true }, kinds := [], alts := [], laidByText := true, laidKinds := [.data, .pinned], laidTests := true, laidLooks := .later }
def ClientNewsCardSaid : Prop := Claim7.holds Tryd.pinned (.plain (OpenSpec.ofChange clientNewsSpec)) clientNewsCard

/-- THE SECOND FORM's CARD OF 'farlaw.ParseFeeds'. -/
def parseFeedsUptoCard : Claim7 := { stood := { row := parseFeedsUptoRow, standIns := [], harness := (true, "83cedd12291bd994427377c748b4fc513d9dc11bf35b6946a7b0a098d0e87847"), looks := true }, kinds := [], alts := [], laidByText := true, laidKinds := [.data, .pinned], laidTests := true, laidLooks := .later }
def ParseFeedsUptoCardSaid : Prop := Claim7.holds Tryd.pinned (.plain (OpenSpec.upto parseFeedsSpec)) parseFeedsUptoCard

/-- THE SECOND FORM's CARD OF 'farlaw.ParseWrites'. -/
def parseWritesUptoCard : Claim7 := { stood := { row := parseWritesUptoRow, standIns := [], harness := (true, "83cedd12291bd994427377c748b4fc513d9dc11bf35b6946a7b0a098d0e87847"), looks := true }, kinds := [], alts := [], laidByText := true, laidKinds := [.data, .data, .data, .data, .pinned], laidTests := true, laidLooks := .later }
def ParseWritesUptoCardSaid : Prop := Claim7.holds Tryd.pinned (.plain (OpenSpec.upto parseWritesSpec)) parseWritesUptoCard

/-- THE SECOND FORM's CARD OF 'farlaw.PressMouse'. -/
def pressMouseUptoCard : Claim7 := { stood := { row := pressMouseUptoRow, standIns := [], harness := (true, "83cedd12291bd994427377c748b4fc513d9dc11bf35b6946a7b0a098d0e87847"), looks := true }, kinds := [], alts := [], laidByText := true, laidKinds := [.data, .data, .data, .data, .sentinel, .sentinel, .pinned], laidTests := true, laidLooks := .later }
def PressMouseUptoCardSaid : Prop := Claim7.holds Tryd.pinned (.plain (OpenSpec.upto pressMouseSpec)) pressMouseUptoCard

/-- THE SECOND FORM's CARD OF 'farlaw.EnvironAnswers'. -/
def environAnswersUptoCard : Claim7 := { stood := { row := environAnswersUptoRow, standIns := [], harness := (true, "83cedd12291bd994427377c748b4fc513d9dc11bf35b6946a7b0a098d0e87847"), looks := true }, kinds := [], alts := [], laidByText := true, laidKinds := [.data, .pinned], laidTests := true, laidLooks := .later }
def EnvironAnswersUptoCardSaid : Prop := Claim7.holds Tryd.pinned (.plain (OpenSpec.upto environAnswersSpec)) environAnswersUptoCard

/-- THE SECOND FORM's CARD OF 'farlaw.ClientNews'. -/
def clientNewsUptoCard : Claim7 := { stood := { row := clientNewsUptoRow, standIns := [], harness := (true, "83cedd12291bd994427377c748b4fc513d9dc11bf35b6946a7b0a098d0e87847"), looks := true }, kinds := [], alts := [], laidByText := true, laidKinds := [.data, .pinned], laidTests := true, laidLooks := .later }
def ClientNewsUptoCardSaid : Prop := Claim7.holds Tryd.pinned (.plain (OpenSpec.upto clientNewsSpec)) clientNewsUptoCard
end Rows
end Go.Proofs.YtflmckoolagikaaDoor
