/-
  NARROWER THAN 'FOR EVERY INPUT', by the rows' own cells (each row's printed sentence says how): MaskWrites: laid · UtfFeeds: laid · ChoiceAnswers: laid · NvtSays: laid · IacWrites: laid.
  DERIVED. THE GIVEN ROWS OF THIS SEAT. 5 by the template 'for every input the law returns true; each argument reads behind the call as it read before'; 0 by the template 'total and deterministic' (their statements: YtgcnfcgnkfkpeaaDoorTotals.lean).
  GIVEN WITH THE SEED: the statements are not yours to turn. If you find one false, say at which input.
  Laid BY PROGRAM, IN A SANDBOX (cutbox-rows.mjs): the forced cells as the released guide's own fill.sh prints them over the translation ff9bab7d9f1f6f4b… (all of the seat's roots in one cut). By AI agents, Wed Nov 11 2026. No macro, syntax, notation, axiom, sorry.
-/
import Derived.Test.YtgcnfcgnkfkpeaaDoorChecked
import GoSem.PinnedTables
import GoSem.Claim
import GoSem.ClaimJoined
import GoSem.ClaimMapViews
import Derived.JoinedTies
import Derived.KernelRfl
namespace Go.Proofs.YtgcnfcgnkfkpeaaDoor
/- THE CELL 'sum', in the pinned program and in every row, IS THE sha256 OF THE DUMP (.gsa) THAT YtgcnfcgnkfkpeaaDoorProg.lean LOADS. Nothing in Lean hashes anything: it is a label: what it is worth is what the hold of that sum in a sandbox is worth. -/
noncomputable def Tryd.pinned : Pinned := { name := "ytgcnfcgnkfkpeaadoor", sum := "ff9bab7d9f1f6f4ba9f1c136c8117bd937685ec44fc6c0ac5461b1f5cc87a873", checked := Tryd.checked }
namespace Rows
def none {H : Type} : Left H := { results := [], args := [] }

/- WHAT THE LISTED PACKAGE-LEVEL VARIABLES READ AS WHEN THE CALL BEGINS. Each datum BY PROGRAM (the guide's laid-datum.mjs) off the statement by which the dump's own 'gosem.cut.vars' lays the variable. In a bare row this is a premise. The card (YtgcnfcgnkfkpeaaDoorCards.lean) ties it to the program's text. -/
def laid_unicode_utf8_acceptRanges {H : Type} : DataW H := .agg [.agg [.lit (.int .u8 128), .lit (.int .u8 191)], .agg [.lit (.int .u8 160), .lit (.int .u8 191)], .agg [.lit (.int .u8 128), .lit (.int .u8 159)], .agg [.lit (.int .u8 144), .lit (.int .u8 191)], .agg [.lit (.int .u8 128), .lit (.int .u8 143)], .agg [.lit (.int .u8 0), .lit (.int .u8 0)], .agg [.lit (.int .u8 0), .lit (.int .u8 0)], .agg [.lit (.int .u8 0), .lit (.int .u8 0)], .agg [.lit (.int .u8 0), .lit (.int .u8 0)], .agg [.lit (.int .u8 0), .lit (.int .u8 0)], .agg [.lit (.int .u8 0), .lit (.int .u8 0)], .agg [.lit (.int .u8 0), .lit (.int .u8 0)], .agg [.lit (.int .u8 0), .lit (.int .u8 0)], .agg [.lit (.int .u8 0), .lit (.int .u8 0)], .agg [.lit (.int .u8 0), .lit (.int .u8 0)], .agg [.lit (.int .u8 0), .lit (.int .u8 0)]]
/-- One of Go's own tables, pinned by name: the form's constant. -/
def laid_unicode_utf8_first : DataW Unit := Go.Pinned.utf8First

/-- 'farlaw.MaskWrites': WHATEVER THE INPUT: true; the input reads as it did. -/
def maskWritesSpec : ChangeSpec := { name := "maskWrites", fn := fun _ => fun
  | [d1, d2] => { results := [.lit (.bool true)], args := [d1, d2] }
  | _ => none }
def maskWritesRow : OpenClaim := { program := "ytgcnfcgnkfkpeaadoor", sum := "ff9bab7d9f1f6f4ba9f1c136c8117bd937685ec44fc6c0ac5461b1f5cc87a873", func := "farwriter/farlaw.MaskWrites", spec := "maskWrites", inPlace := ["internal/bytealg.IndexByteString", "internal/bytealg.IndexString"], named := ["unicode/utf8.first", "unicode/utf8.acceptRanges", "internal/bytealg.MaxLen"], apart := false, laid := [("unicode/utf8.acceptRanges", laid_unicode_utf8_acceptRanges), ("unicode/utf8.first", laid_unicode_utf8_first)] }
def MaskWritesSaid : Prop := maskWritesRow.holds Tryd.pinned (OpenSpec.ofChange maskWritesSpec)

/-- ITS FALSE NEIGHBOUR: 'it returns false'. Refute it at one input. -/
def maskWritesWrong : ChangeSpec := { name := "maskWrites", fn := fun _ => fun
  | [d1, d2] => { results := [.lit (.bool false)], args := [d1, d2] }
  | _ => none }
def MaskWritesWrongFalsely : Prop := maskWritesRow.holds Tryd.pinned (OpenSpec.ofChange maskWritesWrong)

/-- 'farlaw.UtfFeeds': WHATEVER THE INPUT: true; the input reads as it did. -/
def utfFeedsSpec : ChangeSpec := { name := "utfFeeds", fn := fun _ => fun
  | [d1, d2] => { results := [.lit (.bool true)], args := [d1, d2] }
  | _ => none }
def utfFeedsRow : OpenClaim := { program := "ytgcnfcgnkfkpeaadoor", sum := "ff9bab7d9f1f6f4ba9f1c136c8117bd937685ec44fc6c0ac5461b1f5cc87a873", func := "farwriter/farlaw.UtfFeeds", spec := "utfFeeds", inPlace := ["internal/abi.NoEscape", "internal/bytealg.MakeNoZero"], named := ["unicode/utf8.first", "unicode/utf8.acceptRanges"], apart := false, laid := [("unicode/utf8.acceptRanges", laid_unicode_utf8_acceptRanges), ("unicode/utf8.first", laid_unicode_utf8_first)] }
def UtfFeedsSaid : Prop := utfFeedsRow.holds Tryd.pinned (OpenSpec.ofChange utfFeedsSpec)

/-- ITS FALSE NEIGHBOUR: 'it returns false'. Refute it at one input. -/
def utfFeedsWrong : ChangeSpec := { name := "utfFeeds", fn := fun _ => fun
  | [d1, d2] => { results := [.lit (.bool false)], args := [d1, d2] }
  | _ => none }
def UtfFeedsWrongFalsely : Prop := utfFeedsRow.holds Tryd.pinned (OpenSpec.ofChange utfFeedsWrong)

/-- 'farlaw.ChoiceAnswers': WHATEVER THE INPUT: true; the input reads as it did. -/
def choiceAnswersSpec : ChangeSpec := { name := "choiceAnswers", fn := fun _ => fun
  | [d1, d2] => { results := [.lit (.bool true)], args := [d1, d2] }
  | _ => none }
def choiceAnswersRow : OpenClaim := { program := "ytgcnfcgnkfkpeaadoor", sum := "ff9bab7d9f1f6f4ba9f1c136c8117bd937685ec44fc6c0ac5461b1f5cc87a873", func := "farwriter/farlaw.ChoiceAnswers", spec := "choiceAnswers", inPlace := ["internal/bytealg.CountString", "internal/bytealg.IndexByteString", "internal/bytealg.IndexString"], unfollowed := true, recurses := true, named := ["unicode/utf8.first", "unicode/utf8.acceptRanges", "internal/bytealg.MaxLen"], apart := false, laid := [("unicode/utf8.acceptRanges", laid_unicode_utf8_acceptRanges), ("unicode/utf8.first", laid_unicode_utf8_first)] }
def ChoiceAnswersSaid : Prop := choiceAnswersRow.holds Tryd.pinned (OpenSpec.ofChange choiceAnswersSpec)

/-- ITS FALSE NEIGHBOUR: 'it returns false'. Refute it at one input. -/
def choiceAnswersWrong : ChangeSpec := { name := "choiceAnswers", fn := fun _ => fun
  | [d1, d2] => { results := [.lit (.bool false)], args := [d1, d2] }
  | _ => none }
def ChoiceAnswersWrongFalsely : Prop := choiceAnswersRow.holds Tryd.pinned (OpenSpec.ofChange choiceAnswersWrong)

/-- 'farlaw.NvtSays': WHATEVER THE INPUT: true; the input reads as it did. -/
def nvtSaysSpec : ChangeSpec := { name := "nvtSays", fn := fun _ => fun
  | [d1, d2, d3] => { results := [.lit (.bool true)], args := [d1, d2, d3] }
  | _ => none }
def nvtSaysRow : OpenClaim := { program := "ytgcnfcgnkfkpeaadoor", sum := "ff9bab7d9f1f6f4ba9f1c136c8117bd937685ec44fc6c0ac5461b1f5cc87a873", func := "farwriter/farlaw.NvtSays", spec := "nvtSays", inPlace := ["internal/bytealg.IndexByteString", "internal/bytealg.IndexString", "internal/bytealg.CountString", "internal/abi.NoEscape", "internal/bytealg.MakeNoZero"], named := ["internal/bytealg.MaxLen", "unicode/utf8.first", "unicode/utf8.acceptRanges"], apart := false, laid := [("unicode/utf8.acceptRanges", laid_unicode_utf8_acceptRanges), ("unicode/utf8.first", laid_unicode_utf8_first)] }
def NvtSaysSaid : Prop := nvtSaysRow.holds Tryd.pinned (OpenSpec.ofChange nvtSaysSpec)

/-- ITS FALSE NEIGHBOUR: 'it returns false'. Refute it at one input. -/
def nvtSaysWrong : ChangeSpec := { name := "nvtSays", fn := fun _ => fun
  | [d1, d2, d3] => { results := [.lit (.bool false)], args := [d1, d2, d3] }
  | _ => none }
def NvtSaysWrongFalsely : Prop := nvtSaysRow.holds Tryd.pinned (OpenSpec.ofChange nvtSaysWrong)

/-- 'farlaw.IacWrites': WHATEVER THE INPUT: true; the input reads as it did. -/
def iacWritesSpec : ChangeSpec := { name := "iacWrites", fn := fun _ => fun
  | [d1, d2] => { results := [.lit (.bool true)], args := [d1, d2] }
  | _ => none }
def iacWritesRow : OpenClaim := { program := "ytgcnfcgnkfkpeaadoor", sum := "ff9bab7d9f1f6f4ba9f1c136c8117bd937685ec44fc6c0ac5461b1f5cc87a873", func := "farwriter/farlaw.IacWrites", spec := "iacWrites", inPlace := ["internal/bytealg.CountString", "internal/bytealg.IndexByteString", "internal/bytealg.IndexString", "internal/abi.NoEscape", "internal/bytealg.MakeNoZero"], named := ["internal/bytealg.MaxLen", "unicode/utf8.first", "unicode/utf8.acceptRanges"], apart := false, laid := [("unicode/utf8.acceptRanges", laid_unicode_utf8_acceptRanges), ("unicode/utf8.first", laid_unicode_utf8_first)] }
def IacWritesSaid : Prop := iacWritesRow.holds Tryd.pinned (OpenSpec.ofChange iacWritesSpec)

/-- ITS FALSE NEIGHBOUR: 'it returns false'. Refute it at one input. -/
def iacWritesWrong : ChangeSpec := { name := "iacWrites", fn := fun _ => fun
  | [d1, d2] => { results := [.lit (.bool false)], args := [d1, d2] }
  | _ => none }
def IacWritesWrongFalsely : Prop := iacWritesRow.holds Tryd.pinned (OpenSpec.ofChange iacWritesWrong)

/- THE SECOND FORM. 'bulk': how many values and letters a reading holds, each counted each time it is reached (what is shared counts as often as it is met; a slice's spare places count too). A statement '..UptoSaid' is the law's where the arguments, and the package variables that the reading takes, are together of bulk at most 1048576: NARROWER than '..Said'. Prove '..Said' where nothing that the law and all that it calls make is longer than what came in: it says more and counts as full. Else prove '..UptoSaid'. A law counts once. -/
mutual
def uptoBulk {H : Type} : DataW H → Nat
  | .lit (.string bytes) => bytes.length + 1
  | .lit _ => 1
  | .nil => 1
  | .ptr d => uptoBulk d + 1
  | .slice elems spare => uptoBulkAll elems + uptoBulkAll spare + 1
  | .agg parts => uptoBulkAll parts + 1
  | .iface _ d => uptoBulk d + 1
  | .map entries => uptoBulkEntries entries + 1
  | .held _ => 1
def uptoBulkAll {H : Type} : List (DataW H) → Nat
  | [] => 0
  | d :: r => uptoBulk d + uptoBulkAll r
def uptoBulkEntries {H : Type} : List (Lit × DataW H) → Nat
  | [] => 0
  | x :: r => uptoBulkEntry x + uptoBulkEntries r
def uptoBulkEntry {H : Type} : Lit × DataW H → Nat
  | (.string bytes, d) => bytes.length + uptoBulk d + 1
  | (_, d) => uptoBulk d + 1
 end
def uptoSmall : (H : Type) → List (DataW H) → Bool := fun _ ds => decide (uptoBulkAll ds ≤ 1048576)
def OpenSpec.upto (s : _root_.Go.ChangeSpec) : _root_.Go.OpenSpec := { _root_.Go.OpenSpec.ofChange s with cond := some uptoSmall }

/-- 'farlaw.MaskWrites', WHERE WHAT IT READS IS OF BULK AT MOST 1048576: true; the input reads as it did. -/
def maskWritesUptoRow : OpenClaim := { program := "ytgcnfcgnkfkpeaadoor", sum := "ff9bab7d9f1f6f4ba9f1c136c8117bd937685ec44fc6c0ac5461b1f5cc87a873", func := "farwriter/farlaw.MaskWrites", spec := "maskWrites", inPlace := ["internal/bytealg.IndexByteString", "internal/bytealg.IndexString"], named := ["unicode/utf8.first", "unicode/utf8.acceptRanges", "internal/bytealg.MaxLen"], apart := false, laid := [("unicode/utf8.acceptRanges", laid_unicode_utf8_acceptRanges), ("unicode/utf8.first", laid_unicode_utf8_first)], narrowed := true }
def MaskWritesUptoSaid : Prop := maskWritesUptoRow.holds Tryd.pinned (OpenSpec.upto maskWritesSpec)

/-- 'farlaw.UtfFeeds', WHERE WHAT IT READS IS OF BULK AT MOST 1048576: true; the input reads as it did. -/
def utfFeedsUptoRow : OpenClaim := { program := "ytgcnfcgnkfkpeaadoor", sum := "ff9bab7d9f1f6f4ba9f1c136c8117bd937685ec44fc6c0ac5461b1f5cc87a873", func := "farwriter/farlaw.UtfFeeds", spec := "utfFeeds", inPlace := ["internal/abi.NoEscape", "internal/bytealg.MakeNoZero"], named := ["unicode/utf8.first", "unicode/utf8.acceptRanges"], apart := false, laid := [("unicode/utf8.acceptRanges", laid_unicode_utf8_acceptRanges), ("unicode/utf8.first", laid_unicode_utf8_first)], narrowed := true }
def UtfFeedsUptoSaid : Prop := utfFeedsUptoRow.holds Tryd.pinned (OpenSpec.upto utfFeedsSpec)

/-- 'farlaw.ChoiceAnswers', WHERE WHAT IT READS IS OF BULK AT MOST 1048576: true; the input reads as it did. -/
def choiceAnswersUptoRow : OpenClaim := { program := "ytgcnfcgnkfkpeaadoor", sum := "ff9bab7d9f1f6f4ba9f1c136c8117bd937685ec44fc6c0ac5461b1f5cc87a873", func := "farwriter/farlaw.ChoiceAnswers", spec := "choiceAnswers", inPlace := ["internal/bytealg.CountString", "internal/bytealg.IndexByteString", "internal/bytealg.IndexString"], unfollowed := true, recurses := true, named := ["unicode/utf8.first", "unicode/utf8.acceptRanges", "internal/bytealg.MaxLen"], apart := false, laid := [("unicode/utf8.acceptRanges", laid_unicode_utf8_acceptRanges), ("unicode/utf8.first", laid_unicode_utf8_first)], narrowed := true }
def ChoiceAnswersUptoSaid : Prop := choiceAnswersUptoRow.holds Tryd.pinned (OpenSpec.upto choiceAnswersSpec)

/-- 'farlaw.NvtSays', WHERE WHAT IT READS IS OF BULK AT MOST 1048576: true; the input reads as it did. -/
def nvtSaysUptoRow : OpenClaim := { program := "ytgcnfcgnkfkpeaadoor", sum := "ff9bab7d9f1f6f4ba9f1c136c8117bd937685ec44fc6c0ac5461b1f5cc87a873", func := "farwriter/farlaw.NvtSays", spec := "nvtSays", inPlace := ["internal/bytealg.IndexByteString", "internal/bytealg.IndexString", "internal/bytealg.CountString", "internal/abi.NoEscape", "internal/bytealg.MakeNoZero"], named := ["internal/bytealg.MaxLen", "unicode/utf8.first", "unicode/utf8.acceptRanges"], apart := false, laid := [("unicode/utf8.acceptRanges", laid_unicode_utf8_acceptRanges), ("unicode/utf8.first", laid_unicode_utf8_first)], narrowed := true }
def NvtSaysUptoSaid : Prop := nvtSaysUptoRow.holds Tryd.pinned (OpenSpec.upto nvtSaysSpec)

/-- 'farlaw.IacWrites', WHERE WHAT IT READS IS OF BULK AT MOST 1048576: true; the input reads as it did. -/
def iacWritesUptoRow : OpenClaim := { program := "ytgcnfcgnkfkpeaadoor", sum := "ff9bab7d9f1f6f4ba9f1c136c8117bd937685ec44fc6c0ac5461b1f5cc87a873", func := "farwriter/farlaw.IacWrites", spec := "iacWrites", inPlace := ["internal/bytealg.CountString", "internal/bytealg.IndexByteString", "internal/bytealg.IndexString", "internal/abi.NoEscape", "internal/bytealg.MakeNoZero"], named := ["internal/bytealg.MaxLen", "unicode/utf8.first", "unicode/utf8.acceptRanges"], apart := false, laid := [("unicode/utf8.acceptRanges", laid_unicode_utf8_acceptRanges), ("unicode/utf8.first", laid_unicode_utf8_first)], narrowed := true }
def IacWritesUptoSaid : Prop := iacWritesUptoRow.holds Tryd.pinned (OpenSpec.upto iacWritesSpec)

end Rows
end Go.Proofs.YtgcnfcgnkfkpeaaDoor
