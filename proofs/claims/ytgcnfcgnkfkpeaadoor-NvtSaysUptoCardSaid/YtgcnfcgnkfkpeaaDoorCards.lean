/-
  DERIVED. GIVEN WITH THE SEED: THE CARDS: each row of YtgcnfcgnkfkpeaaDoorRows.lean that lists a variable, with what it lists TIED to the program's text (the seventh form; the later family's looks); each row that meets fmt, with fmt's text TOLD by the authors' own Lean function (tested against real Go, not proved from fmt's source: count such statements apart). THE CARD IS WHAT COUNTS. Prove the row's statement (the work); the ties are given (YtgcnfcgnkfkpeaaDoorTie.lean); close each card by the builder's one call (the guide's Derived/Test/ToyasCard.lean, 'card_holds'). Laid BY PROGRAM, IN A SANDBOX (cutbox-door.mjs). By AI agents, Wed Nov 11 2026. No macro, syntax, notation, axiom, sorry.
-/
import Derived.Test.YtgcnfcgnkfkpeaaDoorRows
import GoSem.ClaimSeven
namespace Go.Proofs.YtgcnfcgnkfkpeaaDoor
namespace Rows

/-- THE TIED CARD OF 'farlaw.MaskWrites'. -/
def maskWritesCard : Claim7 := { stood := { row := maskWritesRow, standIns := [], harness := (true, "3c0e04ac8754241220b53c1b499804a2882824c985e4bdb46d4b4ed4aba3ce08"), looks := false }, kinds := [], alts := [], laidByText := true, laidKinds := [.data, .pinned], laidTests := true, laidLooks := .later }
def MaskWritesCardSaid : Prop := Claim7.holds Tryd.pinned (.plain (OpenSpec.ofChange maskWritesSpec)) maskWritesCard

/-- THE TIED CARD OF 'farlaw.UtfFeeds'. -/
def utfFeedsCard : Claim7 := { stood := { row := utfFeedsRow, standIns := [], harness := (true, "3c0e04ac8754241220b53c1b499804a2882824c985e4bdb46d4b4ed4aba3ce08"), looks := false }, kinds := [], alts := [], laidByText := true, laidKinds := [.data, .pinned], laidTests := true, laidLooks := .later }
def UtfFeedsCardSaid : Prop := Claim7.holds Tryd.pinned (.plain (OpenSpec.ofChange utfFeedsSpec)) utfFeedsCard

/-- THE TIED CARD OF 'farlaw.ChoiceAnswers'. -/
def choiceAnswersCard : Claim7 := { stood := { row := choiceAnswersRow, standIns := [], harness := (true, "3c0e04ac8754241220b53c1b499804a2882824c985e4bdb46d4b4ed4aba3ce08"), looks := false }, kinds := [], alts := [], laidByText := true, laidKinds := [.data, .pinned], laidTests := true, laidLooks := .later }
def ChoiceAnswersCardSaid : Prop := Claim7.holds Tryd.pinned (.plain (OpenSpec.ofChange choiceAnswersSpec)) choiceAnswersCard

/-- THE TIED CARD OF 'farlaw.NvtSays'. -/
def nvtSaysCard : Claim7 := { stood := { row := nvtSaysRow, standIns := [], harness := (true, "3c0e04ac8754241220b53c1b499804a2882824c985e4bdb46d4b4ed4aba3ce08"), looks := false }, kinds := [], alts := [], laidByText := true, laidKinds := [.data, .pinned], laidTests := true, laidLooks := .later }
def NvtSaysCardSaid : Prop := Claim7.holds Tryd.pinned (.plain (OpenSpec.ofChange nvtSaysSpec)) nvtSaysCard

/-- THE TIED CARD OF 'farlaw.IacWrites'. -/
def iacWritesCard : Claim7 := { stood := { row := iacWritesRow, standIns := [], harness := (true, "3c0e04ac8754241220b53c1b499804a2882824c985e4bdb46d4b4ed4aba3ce08"), looks := false }, kinds := [], alts := [], laidByText := true, laidKinds := [.data, .pinned], laidTests := true, laidLooks := .later }
def IacWritesCardSaid : Prop := Claim7.holds Tryd.pinned (.plain (OpenSpec.ofChange iacWritesSpec)) iacWritesCard

/-- THE SECOND FORM's CARD OF 'farlaw.MaskWrites'. -/
def maskWritesUptoCard : Claim7 := { stood := { row := maskWritesUptoRow, standIns := [], harness := (true, "3c0e04ac8754241220b53c1b499804a2882824c985e4bdb46d4b4ed4aba3ce08"), looks := false }, kinds := [], alts := [], laidByText := true, laidKinds := [.data, .pinned], laidTests := true, laidLooks := .later }
def MaskWritesUptoCardSaid : Prop := Claim7.holds Tryd.pinned (.plain (OpenSpec.upto maskWritesSpec)) maskWritesUptoCard

/-- THE SECOND FORM's CARD OF 'farlaw.UtfFeeds'. -/
def utfFeedsUptoCard : Claim7 := { stood := { row := utfFeedsUptoRow, standIns := [], harness := (true, "3c0e04ac8754241220b53c1b499804a2882824c985e4bdb46d4b4ed4aba3ce08"), looks := false }, kinds := [], alts := [], laidByText := true, laidKinds := [.data, .pinned], laidTests := true, laidLooks := .later }
def UtfFeedsUptoCardSaid : Prop := Claim7.holds Tryd.pinned (.plain (OpenSpec.upto utfFeedsSpec)) utfFeedsUptoCard

/-- THE SECOND FORM's CARD OF 'farlaw.ChoiceAnswers'. -/
def choiceAnswersUptoCard : Claim7 := { stood := { row := choiceAnswersUptoRow, standIns := [], harness := (true, "3c0e04ac8754241220b53c1b499804a2882824c985e4bdb46d4b4ed4aba3ce08"), looks := false }, kinds := [], alts := [], laidByText := true, laidKinds := [.data, .pinned], laidTests := true, laidLooks := .later }
def ChoiceAnswersUptoCardSaid : Prop := Claim7.holds Tryd.pinned (.plain (OpenSpec.upto choiceAnswersSpec)) choiceAnswersUptoCard

/-- THE SECOND FORM's CARD OF 'farlaw.NvtSays'. -/
def nvtSaysUptoCard : Claim7 := { stood := { row := nvtSaysUptoRow, standIns := [], harness := (true, "3c0e04ac8754241220b53c1b499804a2882824c985e4bdb46d4b4ed4aba3ce08"), looks := false }, kinds := [], alts := [], laidByText := true, laidKinds := [.data, .pinned], laidTests := true, laidLooks := .later }
def NvtSaysUptoCardSaid : Prop := Claim7.holds Tryd.pinned (.plain (OpenSpec.upto nvtSaysSpec)) nvtSaysUptoCard

/-- THE SECOND FORM's CARD OF 'farlaw.IacWrites'. -/
def iacWritesUptoCard : Claim7 := { stood := { row := iacWritesUptoRow, standIns := [], harness := (true, "3c0e04ac8754241220b53c1b499804a2882824c985e4bdb46d4b4ed4aba3ce08"), looks := false }, kinds := [], alts := [], laidByText := true, laidKinds := [.data, .pinned], laidTests := true, laidLooks := .later }
def IacWritesUptoCardSaid : Prop := Claim7.holds Tryd.pinned (.plain (OpenSpec.upto iacWritesSpec)) iacWritesUptoCard
end Rows
end Go.Proofs.YtgcnfcgnkfkpeaaDoor
