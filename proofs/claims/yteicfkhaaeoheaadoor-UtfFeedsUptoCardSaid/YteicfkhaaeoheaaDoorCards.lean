/-
  DERIVED. GIVEN WITH THE SEED: THE CARDS: each row of YteicfkhaaeoheaaDoorRows.lean that lists a variable, with what it lists TIED to the program's text (the seventh form; the later family's looks); each row that meets fmt, with fmt's text TOLD by the authors' own Lean function (tested against real Go, not proved from fmt's source: count such statements apart). THE CARD IS WHAT COUNTS. Prove the row's statement (the work); the ties are given (YteicfkhaaeoheaaDoorTie.lean); close each card by the builder's one call (the guide's Derived/Test/ToyasCard.lean, 'card_holds'). Laid BY PROGRAM, IN A SANDBOX (cutbox-door.mjs). By AI agents, Wed Nov 11 2026. No macro, syntax, notation, axiom, sorry.
-/
import Derived.Test.YteicfkhaaeoheaaDoorRows
import GoSem.ClaimSeven
namespace Go.Proofs.YteicfkhaaeoheaaDoor
namespace Rows

/-- THE TIED CARD OF 'farlaw.UtfFeeds'. -/
def utfFeedsCard : Claim7 := { stood := { row := utfFeedsRow, standIns := [], harness := (true, "3a4b647043153a54ad04e46a7bfd27010df5c51cd872e59ca6b8d668b7575fe6"), looks := false }, kinds := [], alts := [], laidByText := true, laidKinds := [.data, .pinned], laidTests := true, laidLooks := .later }
def UtfFeedsCardSaid : Prop := Claim7.holds Tryd.pinned (.plain (OpenSpec.ofChange utfFeedsSpec)) utfFeedsCard

/-- THE TIED CARD OF 'farlaw.ChoiceAnswers'. -/
def choiceAnswersCard : Claim7 := { stood := { row := choiceAnswersRow, standIns := [], harness := (true, "3a4b647043153a54ad04e46a7bfd27010df5c51cd872e59ca6b8d668b7575fe6"), looks := false }, kinds := [], alts := [], laidByText := true, laidKinds := [.data, .pinned], laidTests := true, laidLooks := .later }
def ChoiceAnswersCardSaid : Prop := Claim7.holds Tryd.pinned (.plain (OpenSpec.ofChange choiceAnswersSpec)) choiceAnswersCard

/-- THE TIED CARD OF 'farlaw.IacWrites'. -/
def iacWritesCard : Claim7 := { stood := { row := iacWritesRow, standIns := [], harness := (true, "3a4b647043153a54ad04e46a7bfd27010df5c51cd872e59ca6b8d668b7575fe6"), looks := false }, kinds := [], alts := [], laidByText := true, laidKinds := [.data, .pinned], laidTests := true, laidLooks := .later }
def IacWritesCardSaid : Prop := Claim7.holds Tryd.pinned (.plain (OpenSpec.ofChange iacWritesSpec)) iacWritesCard

/-- THE TIED CARD OF 'farlaw.PressKeys'. -/
def pressKeysCard : Claim7 := { stood := { row := pressKeysRow, standIns := [], harness := (true, "3a4b647043153a54ad04e46a7bfd27010df5c51cd872e59ca6b8d668b7575fe6"), looks := false }, kinds := [], alts := [], laidByText := true, laidKinds := [.data, .data, .data], laidTests := true, laidLooks := .later }
def PressKeysCardSaid : Prop := Claim7.holds Tryd.pinned (.plain (OpenSpec.ofChange pressKeysSpec)) pressKeysCard

/-- THE TIED CARD OF 'farlaw.EnvironWrites'. -/
def environWritesCard : Claim7 := { stood := { row := environWritesRow, standIns := [], harness := (true, "3a4b647043153a54ad04e46a7bfd27010df5c51cd872e59ca6b8d668b7575fe6"), looks := false }, kinds := [], alts := [], laidByText := true, laidKinds := [.data, .pinned], laidTests := true, laidLooks := .later }
def EnvironWritesCardSaid : Prop := Claim7.holds Tryd.pinned (.plain (OpenSpec.ofChange environWritesSpec)) environWritesCard

/-- THE TIED CARD OF 'farlaw.EnvironAnswers'. -/
def environAnswersCard : Claim7 := { stood := { row := environAnswersRow, standIns := [], harness := (true, "3a4b647043153a54ad04e46a7bfd27010df5c51cd872e59ca6b8d668b7575fe6"), looks := false }, kinds := [], alts := [], laidByText := true, laidKinds := [.data, .pinned], laidTests := true, laidLooks := .later }
def EnvironAnswersCardSaid : Prop := Claim7.holds Tryd.pinned (.plain (OpenSpec.ofChange environAnswersSpec)) environAnswersCard

/-- THE TIED CARD OF 'farlaw.ClientNews'. -/
def clientNewsCard : Claim7 := { stood := { row := clientNewsRow, standIns := [], harness := (true, "3a4b647043153a54ad04e46a7bfd27010df5c51cd872e59ca6b8d668b7575fe6"), looks := false }, kinds := [], alts := [], laidByText := true, laidKinds := [.data, .pinned], laidTests := true, laidLooks := .later }
def ClientNewsCardSaid : Prop := Claim7.holds Tryd.pinned (.plain (OpenSpec.ofChange clientNewsSpec)) clientNewsCard

/-- THE TIED CARD OF 'farlaw.LineTypes'. -/
def lineTypesCard : Claim7 := { stood := { row := lineTypesRow, standIns := [], harness := (true, "3a4b647043153a54ad04e46a7bfd27010df5c51cd872e59ca6b8d668b7575fe6"), looks := false }, kinds := [], alts := [], laidByText := true, laidKinds := [.data, .pinned], laidTests := true, laidLooks := .later }
def LineTypesCardSaid : Prop := Claim7.holds Tryd.pinned (.plain (OpenSpec.ofChange lineTypesSpec)) lineTypesCard

/-- THE TIED CARD OF 'farlaw.IacFeeds'. -/
def iacFeedsCard : Claim7 := { stood := { row := iacFeedsRow, standIns := [], harness := (true, "3a4b647043153a54ad04e46a7bfd27010df5c51cd872e59ca6b8d668b7575fe6"), looks := false }, kinds := [], alts := [], laidByText := true, laidKinds := [.data, .pinned], laidTests := true, laidLooks := .later }
def IacFeedsCardSaid : Prop := Claim7.holds Tryd.pinned (.plain (OpenSpec.ofChange iacFeedsSpec)) iacFeedsCard

/-- THE SECOND FORM's CARD OF 'farlaw.UtfFeeds'. -/
def utfFeedsUptoCard : Claim7 := { stood := { row := utfFeedsUptoRow, standIns := [], harness := (true, "3a4b647043153a54ad04e46a7bfd27010df5c51cd872e59ca6b8d668b7575fe6"), looks := false }, kinds := [], alts := [], laidByText := true, laidKinds := [.data, .pinned], laidTests := true, laidLooks := .later }
def UtfFeedsUptoCardSaid : Prop := Claim7.holds Tryd.pinned (.plain (OpenSpec.upto utfFeedsSpec)) utfFeedsUptoCard

/-- THE SECOND FORM's CARD OF 'farlaw.ChoiceAnswers'. -/
def choiceAnswersUptoCard : Claim7 := { stood := { row := choiceAnswersUptoRow, standIns := [], harness := (true, "3a4b647043153a54ad04e46a7bfd27010df5c51cd872e59ca6b8d668b7575fe6"), looks := false }, kinds := [], alts := [], laidByText := true, laidKinds := [.data, .pinned], laidTests := true, laidLooks := .later }
def ChoiceAnswersUptoCardSaid : Prop := Claim7.holds Tryd.pinned (.plain (OpenSpec.upto choiceAnswersSpec)) choiceAnswersUptoCard

/-- THE SECOND FORM's CARD OF 'farlaw.IacWrites'. -/
def iacWritesUptoCard : Claim7 := { stood := { row := iacWritesUptoRow, standIns := [], harness := (true, "3a4b647043153a54ad04e46a7bfd27010df5c51cd872e59ca6b8d668b7575fe6"), looks := false }, kinds := [], alts := [], laidByText := true, laidKinds := [.data, .pinned], laidTests := true, laidLooks := .later }
def IacWritesUptoCardSaid : Prop := Claim7.holds Tryd.pinned (.plain (OpenSpec.upto iacWritesSpec)) iacWritesUptoCard

/-- THE SECOND FORM's CARD OF 'farlaw.PressKeys'. -/
def pressKeysUptoCard : Claim7 := { stood := { row := pressKeysUptoRow, standIns := [], harness := (true, "3a4b647043153a54ad04e46a7bfd27010df5c51cd872e59ca6b8d668b7575fe6"), looks := false }, kinds := [], alts := [], laidByText := true, laidKinds := [.data, .data, .data], laidTests := true, laidLooks := .later }
def PressKeysUptoCardSaid : Prop := Claim7.holds Tryd.pinned (.plain (OpenSpec.upto pressKeysSpec)) pressKeysUptoCard

/-- THE SECOND FORM's CARD OF 'farlaw.EnvironWrites'. -/
def environWritesUptoCard : Claim7 := { stood := { row := environWritesUptoRow, standIns := [], harness := (true, "3a4b647043153a54ad04e46a7bfd27010df5c51cd872e59ca6b8d668b7575fe6"), looks := false }, kinds := [], alts := [], laidByText := true, laidKinds := [.data, .pinned], laidTests := true, laidLooks := .later }
def EnvironWritesUptoCardSaid : Prop := Claim7.holds Tryd.pinned (.plain (OpenSpec.upto environWritesSpec)) environWritesUptoCard

/-- THE SECOND FORM's CARD OF 'farlaw.EnvironAnswers'. -/
def environAnswersUptoCard : Claim7 := { stood := { row := environAnswersUptoRow, standIns := [], harness := (true, "3a4b647043153a54ad04e46a7bfd27010df5c51cd872e59ca6b8d668b7575fe6"), looks := false }, kinds := [], alts := [], laidByText := true, laidKinds := [.data, .pinned], laidTests := true, laidLooks := .later }
def EnvironAnswersUptoCardSaid : Prop := Claim7.holds Tryd.pinned (.plain (OpenSpec.upto environAnswersSpec)) environAnswersUptoCard

/-- THE SECOND FORM's CARD OF 'farlaw.ClientNews'. -/
def clientNewsUptoCard : Claim7 := { stood := { row := clientNewsUptoRow, standIns := [], harness := (true, "3a4b647043153a54ad04e46a7bfd27010df5c51cd872e59ca6b8d668b7575fe6"), looks := false }, kinds := [], alts := [], laidByText := true, laidKinds := [.data, .pinned], laidTests := true, laidLooks := .later }
def ClientNewsUptoCardSaid : Prop := Claim7.holds Tryd.pinned (.plain (OpenSpec.upto clientNewsSpec)) clientNewsUptoCard

/-- THE SECOND FORM's CARD OF 'farlaw.LineTypes'. -/
def lineTypesUptoCard : Claim7 := { stood := { row := lineTypesUptoRow, standIns := [], harness := (true, "3a4b647043153a54ad04e46a7bfd27010df5c51cd872e59ca6b8d668b7575fe6"), looks := false }, kinds := [], alts := [], laidByText := true, laidKinds := [.data, .pinned], laidTests := true, laidLooks := .later }
def LineTypesUptoCardSaid : Prop := Claim7.holds Tryd.pinned (.plain (OpenSpec.upto lineTypesSpec)) lineTypesUptoCard

/-- THE SECOND FORM's CARD OF 'farlaw.IacFeeds'. -/
def iacFeedsUptoCard : Claim7 := { stood := { row := iacFeedsUptoRow, standIns := [], harness := (true, "3a4b647043153a54ad04e46a7bfd27010df5c51cd872e59ca6b8d668b7575fe6"), looks := false }, kinds := [], alts := [], laidByText := true, laidKinds := [.data, .pinned], laidTests := true, laidLooks := .later }
def IacFeedsUptoCardSaid : Prop := Claim7.holds Tryd.pinned (.plain (OpenSpec.upto iacFeedsSpec)) iacFeedsUptoCard
end Rows
end Go.Proofs.YteicfkhaaeoheaaDoor
