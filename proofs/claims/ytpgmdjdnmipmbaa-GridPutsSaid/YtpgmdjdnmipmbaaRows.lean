/-
  No cell of these rows narrows 'for every input' (looked for: loops, veiled, ifaces, maps, wideKeys, modest, calm, conditions, laid).
  DERIVED. THE GIVEN ROWS OF THIS SEAT. 12 by the template 'for every input the law returns true; each argument reads behind the call as it read before'; 0 by the template 'total and deterministic' (their statements: YtpgmdjdnmipmbaaTotals.lean).
  GIVEN WITH THE SEED: the statements are not yours to turn. If you find one false, say at which input.
  Laid BY PROGRAM, IN A SANDBOX (cutbox-rows.mjs): the forced cells as the released guide's own fill.sh prints them over the translation 20168c57dc192b24… (all of the seat's roots in one cut). By AI agents, Wed Nov 11 2026. No macro, syntax, notation, axiom, sorry.
-/
import Derived.Test.YtpgmdjdnmipmbaaChecked
import GoSem.Claim
import GoSem.ClaimJoined
import GoSem.ClaimMapViews
import Derived.JoinedTies
import Derived.KernelRfl
namespace Go.Proofs.Ytpgmdjdnmipmbaa
/- THE CELL 'sum', in the pinned program and in every row, IS THE sha256 OF THE DUMP (.gsa) THAT YtpgmdjdnmipmbaaProg.lean LOADS. Nothing in Lean hashes anything: it is a label: what it is worth is what the hold of that sum in a sandbox is worth. -/
noncomputable def Try.pinned : Pinned := { name := "ytpgmdjdnmipmbaa", sum := "20168c57dc192b2472cda590533f132009d23fed50374d11ceb0e1abd6b256d4", checked := Try.checked }
namespace Rows
def none {H : Type} : Left H := { results := [], args := [] }

/-- 'farlaw.AboutAnswers': WHATEVER THE INPUT: true; the input reads as it did. -/
def aboutAnswersSpec : ChangeSpec := { name := "aboutAnswers", fn := fun _ => fun
  | [d1, d2] => { results := [.lit (.bool true)], args := [d1, d2] }
  | _ => none }
def aboutAnswersRow : OpenClaim := { program := "ytpgmdjdnmipmbaa", sum := "20168c57dc192b2472cda590533f132009d23fed50374d11ceb0e1abd6b256d4", func := "farwriter/farlaw.AboutAnswers", spec := "aboutAnswers", apart := false }
def AboutAnswersSaid : Prop := aboutAnswersRow.holds Try.pinned (OpenSpec.ofChange aboutAnswersSpec)

/-- ITS FALSE NEIGHBOUR: 'it returns false'. Refute it at one input. -/
def aboutAnswersWrong : ChangeSpec := { name := "aboutAnswers", fn := fun _ => fun
  | [d1, d2] => { results := [.lit (.bool false)], args := [d1, d2] }
  | _ => none }
def AboutAnswersWrongFalsely : Prop := aboutAnswersRow.holds Try.pinned (OpenSpec.ofChange aboutAnswersWrong)

/-- 'farlaw.AboutWalks': WHATEVER THE INPUT: true; the input reads as it did. -/
def aboutWalksSpec : ChangeSpec := { name := "aboutWalks", fn := fun _ => fun
  | [d1, d2] => { results := [.lit (.bool true)], args := [d1, d2] }
  | _ => none }
def aboutWalksRow : OpenClaim := { program := "ytpgmdjdnmipmbaa", sum := "20168c57dc192b2472cda590533f132009d23fed50374d11ceb0e1abd6b256d4", func := "farwriter/farlaw.AboutWalks", spec := "aboutWalks", apart := false }
def AboutWalksSaid : Prop := aboutWalksRow.holds Try.pinned (OpenSpec.ofChange aboutWalksSpec)

/-- ITS FALSE NEIGHBOUR: 'it returns false'. Refute it at one input. -/
def aboutWalksWrong : ChangeSpec := { name := "aboutWalks", fn := fun _ => fun
  | [d1, d2] => { results := [.lit (.bool false)], args := [d1, d2] }
  | _ => none }
def AboutWalksWrongFalsely : Prop := aboutWalksRow.holds Try.pinned (OpenSpec.ofChange aboutWalksWrong)

/-- 'farlaw.SlcTakes': WHATEVER THE INPUT: true; the input reads as it did. -/
def slcTakesSpec : ChangeSpec := { name := "slcTakes", fn := fun _ => fun
  | [d1, d2] => { results := [.lit (.bool true)], args := [d1, d2] }
  | _ => none }
def slcTakesRow : OpenClaim := { program := "ytpgmdjdnmipmbaa", sum := "20168c57dc192b2472cda590533f132009d23fed50374d11ceb0e1abd6b256d4", func := "farwriter/farlaw.SlcTakes", spec := "slcTakes", apart := false }
def SlcTakesSaid : Prop := slcTakesRow.holds Try.pinned (OpenSpec.ofChange slcTakesSpec)

/-- ITS FALSE NEIGHBOUR: 'it returns false'. Refute it at one input. -/
def slcTakesWrong : ChangeSpec := { name := "slcTakes", fn := fun _ => fun
  | [d1, d2] => { results := [.lit (.bool false)], args := [d1, d2] }
  | _ => none }
def SlcTakesWrongFalsely : Prop := slcTakesRow.holds Try.pinned (OpenSpec.ofChange slcTakesWrong)

/-- 'farlaw.SlcMeets': WHATEVER THE INPUT: true; the input reads as it did. -/
def slcMeetsSpec : ChangeSpec := { name := "slcMeets", fn := fun _ => fun
  | [d1, d2] => { results := [.lit (.bool true)], args := [d1, d2] }
  | _ => none }
def slcMeetsRow : OpenClaim := { program := "ytpgmdjdnmipmbaa", sum := "20168c57dc192b2472cda590533f132009d23fed50374d11ceb0e1abd6b256d4", func := "farwriter/farlaw.SlcMeets", spec := "slcMeets", apart := false }
def SlcMeetsSaid : Prop := slcMeetsRow.holds Try.pinned (OpenSpec.ofChange slcMeetsSpec)

/-- ITS FALSE NEIGHBOUR: 'it returns false'. Refute it at one input. -/
def slcMeetsWrong : ChangeSpec := { name := "slcMeets", fn := fun _ => fun
  | [d1, d2] => { results := [.lit (.bool false)], args := [d1, d2] }
  | _ => none }
def SlcMeetsWrongFalsely : Prop := slcMeetsRow.holds Try.pinned (OpenSpec.ofChange slcMeetsWrong)

/-- 'farlaw.QnegWants': WHATEVER THE INPUT: true; the input reads as it did. -/
def qnegWantsSpec : ChangeSpec := { name := "qnegWants", fn := fun _ => fun
  | [d1, d2, d3, d4] => { results := [.lit (.bool true)], args := [d1, d2, d3, d4] }
  | _ => none }
def qnegWantsRow : OpenClaim := { program := "ytpgmdjdnmipmbaa", sum := "20168c57dc192b2472cda590533f132009d23fed50374d11ceb0e1abd6b256d4", func := "farwriter/farlaw.QnegWants", spec := "qnegWants", apart := false }
def QnegWantsSaid : Prop := qnegWantsRow.holds Try.pinned (OpenSpec.ofChange qnegWantsSpec)

/-- ITS FALSE NEIGHBOUR: 'it returns false'. Refute it at one input. -/
def qnegWantsWrong : ChangeSpec := { name := "qnegWants", fn := fun _ => fun
  | [d1, d2, d3, d4] => { results := [.lit (.bool false)], args := [d1, d2, d3, d4] }
  | _ => none }
def QnegWantsWrongFalsely : Prop := qnegWantsRow.holds Try.pinned (OpenSpec.ofChange qnegWantsWrong)

/-- 'farlaw.QnegTakes': WHATEVER THE INPUT: true; the input reads as it did. -/
def qnegTakesSpec : ChangeSpec := { name := "qnegTakes", fn := fun _ => fun
  | [d1, d2] => { results := [.lit (.bool true)], args := [d1, d2] }
  | _ => none }
def qnegTakesRow : OpenClaim := { program := "ytpgmdjdnmipmbaa", sum := "20168c57dc192b2472cda590533f132009d23fed50374d11ceb0e1abd6b256d4", func := "farwriter/farlaw.QnegTakes", spec := "qnegTakes", apart := false }
def QnegTakesSaid : Prop := qnegTakesRow.holds Try.pinned (OpenSpec.ofChange qnegTakesSpec)

/-- ITS FALSE NEIGHBOUR: 'it returns false'. Refute it at one input. -/
def qnegTakesWrong : ChangeSpec := { name := "qnegTakes", fn := fun _ => fun
  | [d1, d2] => { results := [.lit (.bool false)], args := [d1, d2] }
  | _ => none }
def QnegTakesWrongFalsely : Prop := qnegTakesRow.holds Try.pinned (OpenSpec.ofChange qnegTakesWrong)

/-- 'farlaw.PageReads': WHATEVER THE INPUT: true; the input reads as it did. -/
def pageReadsSpec : ChangeSpec := { name := "pageReads", fn := fun _ => fun
  | [d1, d2, d3] => { results := [.lit (.bool true)], args := [d1, d2, d3] }
  | _ => none }
def pageReadsRow : OpenClaim := { program := "ytpgmdjdnmipmbaa", sum := "20168c57dc192b2472cda590533f132009d23fed50374d11ceb0e1abd6b256d4", func := "farwriter/farlaw.PageReads", spec := "pageReads", apart := false }
def PageReadsSaid : Prop := pageReadsRow.holds Try.pinned (OpenSpec.ofChange pageReadsSpec)

/-- ITS FALSE NEIGHBOUR: 'it returns false'. Refute it at one input. -/
def pageReadsWrong : ChangeSpec := { name := "pageReads", fn := fun _ => fun
  | [d1, d2, d3] => { results := [.lit (.bool false)], args := [d1, d2, d3] }
  | _ => none }
def PageReadsWrongFalsely : Prop := pageReadsRow.holds Try.pinned (OpenSpec.ofChange pageReadsWrong)

/-- 'farlaw.PenSgrs': WHATEVER THE INPUT: true; the input reads as it did. -/
def penSgrsSpec : ChangeSpec := { name := "penSgrs", fn := fun _ => fun
  | [d1, d2] => { results := [.lit (.bool true)], args := [d1, d2] }
  | _ => none }
def penSgrsRow : OpenClaim := { program := "ytpgmdjdnmipmbaa", sum := "20168c57dc192b2472cda590533f132009d23fed50374d11ceb0e1abd6b256d4", func := "farwriter/farlaw.PenSgrs", spec := "penSgrs", unfollowed := true, recurses := true, apart := false }
def PenSgrsSaid : Prop := penSgrsRow.holds Try.pinned (OpenSpec.ofChange penSgrsSpec)

/-- ITS FALSE NEIGHBOUR: 'it returns false'. Refute it at one input. -/
def penSgrsWrong : ChangeSpec := { name := "penSgrs", fn := fun _ => fun
  | [d1, d2] => { results := [.lit (.bool false)], args := [d1, d2] }
  | _ => none }
def PenSgrsWrongFalsely : Prop := penSgrsRow.holds Try.pinned (OpenSpec.ofChange penSgrsWrong)

/-- 'farlaw.WidthCuts': WHATEVER THE INPUT: true; the input reads as it did. -/
def widthCutsSpec : ChangeSpec := { name := "widthCuts", fn := fun _ => fun
  | [d1, d2] => { results := [.lit (.bool true)], args := [d1, d2] }
  | _ => none }
def widthCutsRow : OpenClaim := { program := "ytpgmdjdnmipmbaa", sum := "20168c57dc192b2472cda590533f132009d23fed50374d11ceb0e1abd6b256d4", func := "farwriter/farlaw.WidthCuts", spec := "widthCuts", apart := false }
def WidthCutsSaid : Prop := widthCutsRow.holds Try.pinned (OpenSpec.ofChange widthCutsSpec)

/-- ITS FALSE NEIGHBOUR: 'it returns false'. Refute it at one input. -/
def widthCutsWrong : ChangeSpec := { name := "widthCuts", fn := fun _ => fun
  | [d1, d2] => { results := [.lit (.bool false)], args := [d1, d2] }
  | _ => none }
def WidthCutsWrongFalsely : Prop := widthCutsRow.holds Try.pinned (OpenSpec.ofChange widthCutsWrong)

/-- 'farlaw.FlowSays': WHATEVER THE INPUT: true; the input reads as it did. -/
def flowSaysSpec : ChangeSpec := { name := "flowSays", fn := fun _ => fun
  | [d1, d2, d3] => { results := [.lit (.bool true)], args := [d1, d2, d3] }
  | _ => none }
def flowSaysRow : OpenClaim := { program := "ytpgmdjdnmipmbaa", sum := "20168c57dc192b2472cda590533f132009d23fed50374d11ceb0e1abd6b256d4", func := "farwriter/farlaw.FlowSays", spec := "flowSays", unfollowed := true, recurses := true, apart := false }
def FlowSaysSaid : Prop := flowSaysRow.holds Try.pinned (OpenSpec.ofChange flowSaysSpec)

/-- ITS FALSE NEIGHBOUR: 'it returns false'. Refute it at one input. -/
def flowSaysWrong : ChangeSpec := { name := "flowSays", fn := fun _ => fun
  | [d1, d2, d3] => { results := [.lit (.bool false)], args := [d1, d2, d3] }
  | _ => none }
def FlowSaysWrongFalsely : Prop := flowSaysRow.holds Try.pinned (OpenSpec.ofChange flowSaysWrong)

/-- 'farlaw.GridPuts': WHATEVER THE INPUT: true; the input reads as it did. -/
def gridPutsSpec : ChangeSpec := { name := "gridPuts", fn := fun _ => fun
  | [d1, d2, d3, d4, d5] => { results := [.lit (.bool true)], args := [d1, d2, d3, d4, d5] }
  | _ => none }
def gridPutsRow : OpenClaim := { program := "ytpgmdjdnmipmbaa", sum := "20168c57dc192b2472cda590533f132009d23fed50374d11ceb0e1abd6b256d4", func := "farwriter/farlaw.GridPuts", spec := "gridPuts", unfollowed := true, recurses := true, apart := false }
def GridPutsSaid : Prop := gridPutsRow.holds Try.pinned (OpenSpec.ofChange gridPutsSpec)

/-- ITS FALSE NEIGHBOUR: 'it returns false'. Refute it at one input. -/
def gridPutsWrong : ChangeSpec := { name := "gridPuts", fn := fun _ => fun
  | [d1, d2, d3, d4, d5] => { results := [.lit (.bool false)], args := [d1, d2, d3, d4, d5] }
  | _ => none }
def GridPutsWrongFalsely : Prop := gridPutsRow.holds Try.pinned (OpenSpec.ofChange gridPutsWrong)

/-- 'farlaw.GridSizes': WHATEVER THE INPUT: true; the input reads as it did. -/
def gridSizesSpec : ChangeSpec := { name := "gridSizes", fn := fun _ => fun
  | [d1, d2, d3, d4, d5] => { results := [.lit (.bool true)], args := [d1, d2, d3, d4, d5] }
  | _ => none }
def gridSizesRow : OpenClaim := { program := "ytpgmdjdnmipmbaa", sum := "20168c57dc192b2472cda590533f132009d23fed50374d11ceb0e1abd6b256d4", func := "farwriter/farlaw.GridSizes", spec := "gridSizes", unfollowed := true, recurses := true, apart := false }
def GridSizesSaid : Prop := gridSizesRow.holds Try.pinned (OpenSpec.ofChange gridSizesSpec)

/-- ITS FALSE NEIGHBOUR: 'it returns false'. Refute it at one input. -/
def gridSizesWrong : ChangeSpec := { name := "gridSizes", fn := fun _ => fun
  | [d1, d2, d3, d4, d5] => { results := [.lit (.bool false)], args := [d1, d2, d3, d4, d5] }
  | _ => none }
def GridSizesWrongFalsely : Prop := gridSizesRow.holds Try.pinned (OpenSpec.ofChange gridSizesWrong)

/- THE SECOND FORM. 'bulk': how many values and letters a reading holds, each counted each time it is reached (what is shared counts as often as it is met; a slice's spare places count too). A statement '..UptoSaid' is the law's where the arguments, and the package variables that the reading takes, are together of bulk at most 1048576: NARROWER than '..Said'. Prove '..Said' where nothing that the law and all that it calls make is longer than what came in: it says more and counts as full. Else prove '..UptoSaid'. A law counts once. -/
mutual
def uptoBulk {H : Type} : DataW H → Nat
  | .lit (.string bytes) => bytes.length + 1
  | .lit _ => 1
  | .nil => 1
  | .ptr d => uptoBulk d + 1
  | .slice elems spare => uptoBulkAll elems + uptoBulkAll spare + 1
  | .agg parts => uptoBulkAll parts + 1
  | .iface _ d => uptoBulk d + 1
  | .map entries => uptoBulkEntries entries + 1
  | .held _ => 1
def uptoBulkAll {H : Type} : List (DataW H) → Nat
  | [] => 0
  | d :: r => uptoBulk d + uptoBulkAll r
def uptoBulkEntries {H : Type} : List (Lit × DataW H) → Nat
  | [] => 0
  | x :: r => uptoBulkEntry x + uptoBulkEntries r
def uptoBulkEntry {H : Type} : Lit × DataW H → Nat
  | (.string bytes, d) => bytes.length + uptoBulk d + 1
  | (_, d) => uptoBulk d + 1
 end
def uptoSmall : (H : Type) → List (DataW H) → Bool := fun _ ds => decide (uptoBulkAll ds ≤ 1048576)
def OpenSpec.upto (s : _root_.Go.ChangeSpec) : _root_.Go.OpenSpec := { _root_.Go.OpenSpec.ofChange s with cond := some uptoSmall }

/-- 'farlaw.AboutAnswers', WHERE WHAT IT READS IS OF BULK AT MOST 1048576: true; the input reads as it did. -/
def aboutAnswersUptoRow : OpenClaim := { program := "ytpgmdjdnmipmbaa", sum := "20168c57dc192b2472cda590533f132009d23fed50374d11ceb0e1abd6b256d4", func := "farwriter/farlaw.AboutAnswers", spec := "aboutAnswers", apart := false, narrowed := true }
def AboutAnswersUptoSaid : Prop := aboutAnswersUptoRow.holds Try.pinned (OpenSpec.upto aboutAnswersSpec)

/-- 'farlaw.AboutWalks', WHERE WHAT IT READS IS OF BULK AT MOST 1048576: true; the input reads as it did. -/
def aboutWalksUptoRow : OpenClaim := { program := "ytpgmdjdnmipmbaa", sum := "20168c57dc192b2472cda590533f132009d23fed50374d11ceb0e1abd6b256d4", func := "farwriter/farlaw.AboutWalks", spec := "aboutWalks", apart := false, narrowed := true }
def AboutWalksUptoSaid : Prop := aboutWalksUptoRow.holds Try.pinned (OpenSpec.upto aboutWalksSpec)

/-- 'farlaw.SlcTakes', WHERE WHAT IT READS IS OF BULK AT MOST 1048576: true; the input reads as it did. -/
def slcTakesUptoRow : OpenClaim := { program := "ytpgmdjdnmipmbaa", sum := "20168c57dc192b2472cda590533f132009d23fed50374d11ceb0e1abd6b256d4", func := "farwriter/farlaw.SlcTakes", spec := "slcTakes", apart := false, narrowed := true }
def SlcTakesUptoSaid : Prop := slcTakesUptoRow.holds Try.pinned (OpenSpec.upto slcTakesSpec)

/-- 'farlaw.SlcMeets', WHERE WHAT IT READS IS OF BULK AT MOST 1048576: true; the input reads as it did. -/
def slcMeetsUptoRow : OpenClaim := { program := "ytpgmdjdnmipmbaa", sum := "20168c57dc192b2472cda590533f132009d23fed50374d11ceb0e1abd6b256d4", func := "farwriter/farlaw.SlcMeets", spec := "slcMeets", apart := false, narrowed := true }
def SlcMeetsUptoSaid : Prop := slcMeetsUptoRow.holds Try.pinned (OpenSpec.upto slcMeetsSpec)

/-- 'farlaw.QnegWants', WHERE WHAT IT READS IS OF BULK AT MOST 1048576: true; the input reads as it did. -/
def qnegWantsUptoRow : OpenClaim := { program := "ytpgmdjdnmipmbaa", sum := "20168c57dc192b2472cda590533f132009d23fed50374d11ceb0e1abd6b256d4", func := "farwriter/farlaw.QnegWants", spec := "qnegWants", apart := false, narrowed := true }
def QnegWantsUptoSaid : Prop := qnegWantsUptoRow.holds Try.pinned (OpenSpec.upto qnegWantsSpec)

/-- 'farlaw.QnegTakes', WHERE WHAT IT READS IS OF BULK AT MOST 1048576: true; the input reads as it did. -/
def qnegTakesUptoRow : OpenClaim := { program := "ytpgmdjdnmipmbaa", sum := "20168c57dc192b2472cda590533f132009d23fed50374d11ceb0e1abd6b256d4", func := "farwriter/farlaw.QnegTakes", spec := "qnegTakes", apart := false, narrowed := true }
def QnegTakesUptoSaid : Prop := qnegTakesUptoRow.holds Try.pinned (OpenSpec.upto qnegTakesSpec)

/-- 'farlaw.PageReads', WHERE WHAT IT READS IS OF BULK AT MOST 1048576: true; the input reads as it did. -/
def pageReadsUptoRow : OpenClaim := { program := "ytpgmdjdnmipmbaa", sum := "20168c57dc192b2472cda590533f132009d23fed50374d11ceb0e1abd6b256d4", func := "farwriter/farlaw.PageReads", spec := "pageReads", apart := false, narrowed := true }
def PageReadsUptoSaid : Prop := pageReadsUptoRow.holds Try.pinned (OpenSpec.upto pageReadsSpec)

/-- 'farlaw.PenSgrs', WHERE WHAT IT READS IS OF BULK AT MOST 1048576: true; the input reads as it did. -/
def penSgrsUptoRow : OpenClaim := { program := "ytpgmdjdnmipmbaa", sum := "20168c57dc192b2472cda590533f132009d23fed50374d11ceb0e1abd6b256d4", func := "farwriter/farlaw.PenSgrs", spec := "penSgrs", unfollowed := true, recurses := true, apart := false, narrowed := true }
def PenSgrsUptoSaid : Prop := penSgrsUptoRow.holds Try.pinned (OpenSpec.upto penSgrsSpec)

/-- 'farlaw.WidthCuts', WHERE WHAT IT READS IS OF BULK AT MOST 1048576: true; the input reads as it did. -/
def widthCutsUptoRow : OpenClaim := { program := "ytpgmdjdnmipmbaa", sum := "20168c57dc192b2472cda590533f132009d23fed50374d11ceb0e1abd6b256d4", func := "farwriter/farlaw.WidthCuts", spec := "widthCuts", apart := false, narrowed := true }
def WidthCutsUptoSaid : Prop := widthCutsUptoRow.holds Try.pinned (OpenSpec.upto widthCutsSpec)

/-- 'farlaw.FlowSays', WHERE WHAT IT READS IS OF BULK AT MOST 1048576: true; the input reads as it did. -/
def flowSaysUptoRow : OpenClaim := { program := "ytpgmdjdnmipmbaa", sum := "20168c57dc192b2472cda590533f132009d23fed50374d11ceb0e1abd6b256d4", func := "farwriter/farlaw.FlowSays", spec := "flowSays", unfollowed := true, recurses := true, apart := false, narrowed := true }
def FlowSaysUptoSaid : Prop := flowSaysUptoRow.holds Try.pinned (OpenSpec.upto flowSaysSpec)

/-- 'farlaw.GridPuts', WHERE WHAT IT READS IS OF BULK AT MOST 1048576: true; the input reads as it did. -/
def gridPutsUptoRow : OpenClaim := { program := "ytpgmdjdnmipmbaa", sum := "20168c57dc192b2472cda590533f132009d23fed50374d11ceb0e1abd6b256d4", func := "farwriter/farlaw.GridPuts", spec := "gridPuts", unfollowed := true, recurses := true, apart := false, narrowed := true }
def GridPutsUptoSaid : Prop := gridPutsUptoRow.holds Try.pinned (OpenSpec.upto gridPutsSpec)

/-- 'farlaw.GridSizes', WHERE WHAT IT READS IS OF BULK AT MOST 1048576: true; the input reads as it did. -/
def gridSizesUptoRow : OpenClaim := { program := "ytpgmdjdnmipmbaa", sum := "20168c57dc192b2472cda590533f132009d23fed50374d11ceb0e1abd6b256d4", func := "farwriter/farlaw.GridSizes", spec := "gridSizes", unfollowed := true, recurses := true, apart := false, narrowed := true }
def GridSizesUptoSaid : Prop := gridSizesUptoRow.holds Try.pinned (OpenSpec.upto gridSizesSpec)

end Rows
end Go.Proofs.Ytpgmdjdnmipmbaa
