/-
  DERIVED. GIVEN WITH THE SEED: THE CARDS: each row of YthllelffblpdkaaDoorRows.lean that lists a variable, with what it lists TIED to the program's text (the seventh form; the later family's looks); each row that meets fmt, with fmt's text TOLD by the authors' own Lean function (tested against real Go, not proved from fmt's source: count such statements apart). THE CARD IS WHAT COUNTS. Prove the row's statement (the work); the ties are given (YthllelffblpdkaaDoorTie.lean); close each card by the builder's one call (the guide's Derived/Test/ToyasCard.lean, 'card_holds'). Laid BY PROGRAM, IN A SANDBOX (cutbox-door.mjs). By AI agents, Wed Nov 11 2026. No macro, syntax, notation, axiom, sorry.
-/
import Derived.Test.YthllelffblpdkaaDoorRows
import GoSem.ClaimSeven
namespace Go.Proofs.YthllelffblpdkaaDoor
namespace Rows

/-- THE TIED CARD OF 'farlaw.ParseFeeds'. -/
def parseFeedsCard : Claim7 := { stood := { row := parseFeedsRow, standIns := [], harness := (true, "88436c49b6ee27bcddf194450c3ab740cc7f8da6d8411de7ce0fc97700036e6f"), looks := true }, kinds := [], alts := [], laidByText := true, laidKinds := [.data, .pinned], laidTests := true, laidLooks := .later }
def ParseFeedsCardSaid : Prop := Claim7.holds Tryd.pinned (.plain (OpenSpec.ofChange parseFeedsSpec)) parseFeedsCard

/-- THE TIED CARD OF 'farlaw.ArgsSays'. -/
def argsSaysCard : Claim7 := { stood := { row := argsSaysRow, standIns := [], harness := (true, "88436c49b6ee27bcddf194450c3ab740cc7f8da6d8411de7ce0fc97700036e6f"), looks := true }, kinds := [], alts := [], laidByText := true, laidKinds := [.data, .data, .data, .data, .pinned], laidTests := true, laidLooks := .later }
def ArgsSaysCardSaid : Prop := Claim7.holds Tryd.pinned (.plain (OpenSpec.ofChange argsSaysSpec)) argsSaysCard

/-- THE TIED CARD OF 'farlaw.ParseWrites'. -/
def parseWritesCard : Claim7 := { stood := { row := parseWritesRow, standIns := [], harness := (true, "88436c49b6ee27bcddf194450c3ab740cc7f8da6d8411de7ce0fc97700036e6f"), looks := true }, kinds := [], alts := [], laidByText := true, laidKinds := [.data, .data, .data, .data, .pinned], laidTests := true, laidLooks := .later }
def ParseWritesCardSaid : Prop := Claim7.holds Tryd.pinned (.plain (OpenSpec.ofChange parseWritesSpec)) parseWritesCard

/-- THE TIED CARD OF 'farlaw.PressMouse'. -/
def pressMouseCard : Claim7 := { stood := { row := pressMouseRow, standIns := [], harness := (true, "88436c49b6ee27bcddf194450c3ab740cc7f8da6d8411de7ce0fc97700036e6f"), looks := true }, kinds := [], alts := [], laidByText := true, laidKinds := [.data, .data, .data, .data, .sentinel, .sentinel, .pinned], laidTests := true, laidLooks := .later }
def PressMouseCardSaid : Prop := Claim7.holds Tryd.pinned (.plain (OpenSpec.ofChange pressMouseSpec)) pressMouseCard

/-- THE TIED CARD OF 'farlaw.UtfFeeds'. -/
def utfFeedsCard : Claim7 := { stood := { row := utfFeedsRow, standIns := [], harness := (true, "88436c49b6ee27bcddf194450c3ab740cc7f8da6d8411de7ce0fc97700036e6f"), looks := true }, kinds := [], alts := [], laidByText := true, laidKinds := [.data, .pinned], laidTests := true, laidLooks := .later }
def UtfFeedsCardSaid : Prop := Claim7.holds Tryd.pinned (.plain (OpenSpec.ofChange utfFeedsSpec)) utfFeedsCard

/-- THE TIED CARD OF 'farlaw.EnvironWrites'. -/
def environWritesCard : Claim7 := { stood := { row := environWritesRow, standIns := [], harness := (true, "88436c49b6ee27bcddf194450c3ab740cc7f8da6d8411de7ce0fc97700036e6f"), looks := true }, kinds := [], alts := [], laidByText := true, laidKinds := [.data, .pinned], laidTests := true, laidLooks := .later }
def EnvironWritesCardSaid : Prop := Claim7.holds Tryd.pinned (.plain (OpenSpec.ofChange environWritesSpec)) environWritesCard

/-- THE TIED CARD OF 'farlaw.EnvironAnswers'. -/
def environAnswersCard : Claim7 := { stood := { row := environAnswersRow, standIns := [], harness := (true, "88436c49b6ee27bcddf194450c3ab740cc7f8da6d8411de7ce0fc97700036e6f"), looks := true }, kinds := [], alts := [], laidByText := true, laidKinds := [.data, .pinned], laidTests := true, laidLooks := .later }
def EnvironAnswersCardSaid : Prop := Claim7.holds Tryd.pinned (.plain (OpenSpec.ofChange environAnswersSpec)) environAnswersCard

/-- THE TIED CARD OF 'farlaw.ClientNews'. -/
def clientNewsCard : Claim7 := { stood := { row := clientNewsRow, standIns := [], harness := (true, "88436c49b6ee27bcddf194450c3ab740cc7f8da6d8411de7ce0fc97700036e6f"), looks := true }, kinds := [], alts := [], laidByText := true, laidKinds := [.data, .pinned], laidTests := true, laidLooks := .later }
def ClientNewsCardSaid : Prop := Claim7.holds Tryd.pinned (.plain (OpenSpec.ofChange clientNewsSpec)) clientNewsCard

/-- THE TIED CARD OF 'farlaw.LineTypes'. -/
def lineTypesCard : Claim7 := { stood := { row := lineTypesRow, standIns := [], harness := (true, "88436c49b6ee27bcddf194450c3ab740cc7f8da6d8411de7ce0fc97700036e6f"), looks := true }, kinds := [], alts := [], laidByText := true, laidKinds := [.data, .pinned], laidTests := true, laidLooks := .later }
def LineTypesCardSaid : Prop := Claim7.holds Tryd.pinned (.plain (OpenSpec.ofChange lineTypesSpec)) lineTypesCard

/-- THE TIED CARD OF 'farlaw.IacFeeds'. -/
def iacFeedsCard : Claim7 := { stood := { row := iacFeedsRow, standIns := [], harness := (true, "88436c49b6ee27bcddf194450c3ab740cc7f8da6d8411de7ce0fc97700036e6f"), looks := true }, kinds := [], alts := [], laidByText := true, laidKinds := [.data, .pinned], laidTests := true, laidLooks := .later }
def IacFeedsCardSaid : Prop := Claim7.holds Tryd.pinned (.plain (OpenSpec.ofChange iacFeedsSpec)) iacFeedsCard

/-- THE SECOND FORM's CARD OF 'farlaw.ParseFeeds'. -/
def parseFeedsUptoCard : Claim7 := { stood := { row := parseFeedsUptoRow, standIns := [], harness := (true, "88436c49b6ee27bcddf194450c3ab740cc7f8da6d8411de7ce0fc97700036e6f"), looks := true }, kinds := [], alts := [], laidByText := true, laidKinds := [.data, .pinned], laidTests := true, laidLooks := .later }
def ParseFeedsUptoCardSaid : Prop := Claim7.holds Tryd.pinned (.plain (OpenSpec.upto parseFeedsSpec)) parseFeedsUptoCard

/-- THE SECOND FORM's CARD OF 'farlaw.ArgsSays'. -/
def argsSaysUptoCard : Claim7 := { stood := { row := argsSaysUptoRow, standIns := [], harness := (true, "88436c49b6ee27bcddf194450c3ab740cc7f8da6d8411de7ce0fc97700036e6f"), looks := true }, kinds := [], alts := [], laidByText := true, laidKinds := [.data, .data, .data, .data, .pinned], laidTests := true, laidLooks := .later }
def ArgsSaysUptoCardSaid : Prop := Claim7.holds Tryd.pinned (.plain (OpenSpec.upto argsSaysSpec)) argsSaysUptoCard

/-- THE SECOND FORM's CARD OF 'farlaw.ParseWrites'. -/
def parseWritesUptoCard : Claim7 := { stood := { row := parseWritesUptoRow, standIns := [], harness := (true, "88436c49b6ee27bcddf194450c3ab740cc7f8da6d8411de7ce0fc97700036e6f"), looks := true }, kinds := [], alts := [], laidByText := true, laidKinds := [.data, .data, .data, .data, .pinned], laidTests := true, laidLooks := .later }
def ParseWritesUptoCardSaid : Prop := Claim7.holds Tryd.pinned (.plain (OpenSpec.upto parseWritesSpec)) parseWritesUptoCard

/-- THE SECOND FORM's CARD OF 'farlaw.PressMouse'. -/
def pressMouseUptoCard : Claim7 := { stood := { row := pressMouseUptoRow, standIns := [], harness := (true, "88436c49b6ee27bcddf194450c3ab740cc7f8da6d8411de7ce0fc97700036e6f"), looks := true }, kinds := [], alts := [], laidByText := true, laidKinds := [.data, .data, .data, .data, .sentinel, .sentinel, .pinned], laidTests := true, laidLooks := .later }
def PressMouseUptoCardSaid : Prop := Claim7.holds Tryd.pinned (.plain (OpenSpec.upto pressMouseSpec)) pressMouseUptoCard

/-- THE SECOND FORM's CARD OF 'farlaw.UtfFeeds'. -/
def utfFeedsUptoCard : Claim7 := { stood := { row := utfFeedsUptoRow, standIns := [], harness := (true, "88436c49b6ee27bcddf194450c3ab740cc7f8da6d8411de7ce0fc97700036e6f"), looks := true }, kinds := [], alts := [], laidByText := true, laidKinds := [.data, .pinned], laidTests := true, laidLooks := .later }
def UtfFeedsUptoCardSaid : Prop := Claim7.holds Tryd.pinned (.plain (OpenSpec.upto utfFeedsSpec)) utfFeedsUptoCard

/-- THE SECOND FORM's CARD OF 'farlaw.EnvironWrites'. -/
def environWritesUptoCard : Claim7 := { stood := { row := environWritesUptoRow, standIns := [], harness := (true, "88436c49b6ee27bcddf194450c3ab740cc7f8da6d8411de7ce0fc97700036e6f"), looks := true }, kinds := [], alts := [], laidByText := true, laidKinds := [.data, .pinned], laidTests := true, laidLooks := .later }
def EnvironWritesUptoCardSaid : Prop := Claim7.holds Tryd.pinned (.plain (OpenSpec.upto environWritesSpec)) environWritesUptoCard

/-- THE SECOND FORM's CARD OF 'farlaw.EnvironAnswers'. -/
def environAnswersUptoCard : Claim7 := { stood := { row := environAnswersUptoRow, standIns := [], harness := (true, "88436c49b6ee27bcddf194450c3ab740cc7f8da6d8411de7ce0fc97700036e6f"), looks := true }, kinds := [], alts := [], laidByText := true, laidKinds := [.data, .pinned], laidTests := true, laidLooks := .later }
def EnvironAnswersUptoCardSaid : Prop := Claim7.holds Tryd.pinned (.plain (OpenSpec.upto environAnswersSpec)) environAnswersUptoCard

/-- THE SECOND FORM's CARD OF 'farlaw.ClientNews'. -/
def clientNewsUptoCard : Claim7 := { stood := { row := clientNewsUptoRow, standIns := [], harness := (true, "88436c49b6ee27bcddf194450c3ab740cc7f8da6d8411de7ce0fc97700036e6f"), looks := true }, kinds := [], alts := [], laidByText := true, laidKinds := [.data, .pinned], laidTests := true, laidLooks := .later }
def ClientNewsUptoCardSaid : Prop := Claim7.holds Tryd.pinned (.plain (OpenSpec.upto clientNewsSpec)) clientNewsUptoCard

/-- THE SECOND FORM's CARD OF 'farlaw.LineTypes'. -/
def lineTypesUptoCard : Claim7 := { stood := { row := lineTypesUptoRow, standIns := [], harness := (true, "88436c49b6ee27bcddf194450c3ab740cc7f8da6d8411de7ce0fc97700036e6f"), looks := true }, kinds := [], alts := [], laidByText := true, laidKinds := [.data, .pinned], laidTests := true, laidLooks := .later }
def LineTypesUptoCardSaid : Prop := Claim7.holds Tryd.pinned (.plain (OpenSpec.upto lineTypesSpec)) lineTypesUptoCard

/-- THE SECOND FORM's CARD OF 'farlaw.IacFeeds'. -/
def iacFeedsUptoCard : Claim7 := { stood := { row := iacFeedsUptoRow, standIns := [], harness := (true, "88436c49b6ee27bcddf194450c3ab740cc7f8da6d8411de7ce0fc97700036e6f"), looks := true }, kinds := [], alts := [], laidByText := true, laidKinds := [.data, .pinned], laidTests := true, laidLooks := .later }
def IacFeedsUptoCardSaid : Prop := Claim7.holds Tryd.pinned (.plain (OpenSpec.upto iacFeedsSpec)) iacFeedsUptoCard
end Rows
end Go.Proofs.YthllelffblpdkaaDoor
