/-
  No cell of these rows narrows 'for every input' (looked for: loops, veiled, ifaces, maps, wideKeys, modest, calm, conditions, laid).
  DERIVED. THE GIVEN ROWS OF THIS SEAT. 12 by the template 'for every input the law returns true; each argument reads behind the call as it read before'; 0 by the template 'total and deterministic' (their statements: YtkbkppoefgojaaaTotals.lean).
  GIVEN WITH THE SEED: the statements are not yours to turn. If you find one false, say at which input.
  Laid BY PROGRAM, IN A SANDBOX (cutbox-rows.mjs): the forced cells as the released guide's own fill.sh prints them over the translation 4b17cef829cb1f8f… (all of the seat's roots in one cut). By AI agents, Wed Nov 11 2026. No macro, syntax, notation, axiom, sorry.
-/
import Derived.Test.YtkbkppoefgojaaaChecked
import GoSem.Claim
import GoSem.ClaimJoined
import GoSem.ClaimMapViews
import Derived.JoinedTies
import Derived.KernelRfl
namespace Go.Proofs.Ytkbkppoefgojaaa
/- THE CELL 'sum', in the pinned program and in every row, IS THE sha256 OF THE DUMP (.gsa) THAT YtkbkppoefgojaaaProg.lean LOADS. Nothing in Lean hashes anything: it is a label: what it is worth is what the hold of that sum in a sandbox is worth. -/
noncomputable def Try.pinned : Pinned := { name := "ytkbkppoefgojaaa", sum := "4b17cef829cb1f8f933e375d74fb9d6ed6985b6594df03a415e89726fa56e0fd", checked := Try.checked }
namespace Rows
def none {H : Type} : Left H := { results := [], args := [] }

/-- 'farlaw.Names': WHATEVER THE INPUT: true; the input reads as it did. -/
def namesSpec : ChangeSpec := { name := "names", fn := fun _ => fun
  | [] => { results := [.lit (.bool true)], args := [] }
  | _ => none }
def namesRow : OpenClaim := { program := "ytkbkppoefgojaaa", sum := "4b17cef829cb1f8f933e375d74fb9d6ed6985b6594df03a415e89726fa56e0fd", func := "farwriter/farlaw.Names", spec := "names", apart := false }
def NamesSaid : Prop := namesRow.holds Try.pinned (OpenSpec.ofChange namesSpec)

/-- ITS FALSE NEIGHBOUR: 'it returns false'. Refute it at one input. -/
def namesWrong : ChangeSpec := { name := "names", fn := fun _ => fun
  | [] => { results := [.lit (.bool false)], args := [] }
  | _ => none }
def NamesWrongFalsely : Prop := namesRow.holds Try.pinned (OpenSpec.ofChange namesWrong)

/-- 'farlaw.AboutSizes': WHATEVER THE INPUT: true; the input reads as it did. -/
def aboutSizesSpec : ChangeSpec := { name := "aboutSizes", fn := fun _ => fun
  | [d1, d2, d3] => { results := [.lit (.bool true)], args := [d1, d2, d3] }
  | _ => none }
def aboutSizesRow : OpenClaim := { program := "ytkbkppoefgojaaa", sum := "4b17cef829cb1f8f933e375d74fb9d6ed6985b6594df03a415e89726fa56e0fd", func := "farwriter/farlaw.AboutSizes", spec := "aboutSizes", apart := false }
def AboutSizesSaid : Prop := aboutSizesRow.holds Try.pinned (OpenSpec.ofChange aboutSizesSpec)

/-- ITS FALSE NEIGHBOUR: 'it returns false'. Refute it at one input. -/
def aboutSizesWrong : ChangeSpec := { name := "aboutSizes", fn := fun _ => fun
  | [d1, d2, d3] => { results := [.lit (.bool false)], args := [d1, d2, d3] }
  | _ => none }
def AboutSizesWrongFalsely : Prop := aboutSizesRow.holds Try.pinned (OpenSpec.ofChange aboutSizesWrong)

/-- 'farlaw.MaskSays': WHATEVER THE INPUT: true; the input reads as it did. -/
def maskSaysSpec : ChangeSpec := { name := "maskSays", fn := fun _ => fun
  | [d1, d2, d3] => { results := [.lit (.bool true)], args := [d1, d2, d3] }
  | _ => none }
def maskSaysRow : OpenClaim := { program := "ytkbkppoefgojaaa", sum := "4b17cef829cb1f8f933e375d74fb9d6ed6985b6594df03a415e89726fa56e0fd", func := "farwriter/farlaw.MaskSays", spec := "maskSays", inPlace := ["internal/bytealg.IndexByteString"], apart := false }
def MaskSaysSaid : Prop := maskSaysRow.holds Try.pinned (OpenSpec.ofChange maskSaysSpec)

/-- ITS FALSE NEIGHBOUR: 'it returns false'. Refute it at one input. -/
def maskSaysWrong : ChangeSpec := { name := "maskSays", fn := fun _ => fun
  | [d1, d2, d3] => { results := [.lit (.bool false)], args := [d1, d2, d3] }
  | _ => none }
def MaskSaysWrongFalsely : Prop := maskSaysRow.holds Try.pinned (OpenSpec.ofChange maskSaysWrong)

/-- 'farlaw.WidthSays': WHATEVER THE INPUT: true; the input reads as it did. -/
def widthSaysSpec : ChangeSpec := { name := "widthSays", fn := fun _ => fun
  | [d1, d2] => { results := [.lit (.bool true)], args := [d1, d2] }
  | _ => none }
def widthSaysRow : OpenClaim := { program := "ytkbkppoefgojaaa", sum := "4b17cef829cb1f8f933e375d74fb9d6ed6985b6594df03a415e89726fa56e0fd", func := "farwriter/farlaw.WidthSays", spec := "widthSays", apart := false }
def WidthSaysSaid : Prop := widthSaysRow.holds Try.pinned (OpenSpec.ofChange widthSaysSpec)

/-- ITS FALSE NEIGHBOUR: 'it returns false'. Refute it at one input. -/
def widthSaysWrong : ChangeSpec := { name := "widthSays", fn := fun _ => fun
  | [d1, d2] => { results := [.lit (.bool false)], args := [d1, d2] }
  | _ => none }
def WidthSaysWrongFalsely : Prop := widthSaysRow.holds Try.pinned (OpenSpec.ofChange widthSaysWrong)

/-- 'farlaw.TabsGo': WHATEVER THE INPUT: true; the input reads as it did. -/
def tabsGoSpec : ChangeSpec := { name := "tabsGo", fn := fun _ => fun
  | [d1, d2, d3, d4] => { results := [.lit (.bool true)], args := [d1, d2, d3, d4] }
  | _ => none }
def tabsGoRow : OpenClaim := { program := "ytkbkppoefgojaaa", sum := "4b17cef829cb1f8f933e375d74fb9d6ed6985b6594df03a415e89726fa56e0fd", func := "farwriter/farlaw.TabsGo", spec := "tabsGo", apart := false }
def TabsGoSaid : Prop := tabsGoRow.holds Try.pinned (OpenSpec.ofChange tabsGoSpec)

/-- ITS FALSE NEIGHBOUR: 'it returns false'. Refute it at one input. -/
def tabsGoWrong : ChangeSpec := { name := "tabsGo", fn := fun _ => fun
  | [d1, d2, d3, d4] => { results := [.lit (.bool false)], args := [d1, d2, d3, d4] }
  | _ => none }
def TabsGoWrongFalsely : Prop := tabsGoRow.holds Try.pinned (OpenSpec.ofChange tabsGoWrong)

/-- 'farlaw.PageSays': WHATEVER THE INPUT: true; the input reads as it did. -/
def pageSaysSpec : ChangeSpec := { name := "pageSays", fn := fun _ => fun
  | [d1, d2, d3] => { results := [.lit (.bool true)], args := [d1, d2, d3] }
  | _ => none }
def pageSaysRow : OpenClaim := { program := "ytkbkppoefgojaaa", sum := "4b17cef829cb1f8f933e375d74fb9d6ed6985b6594df03a415e89726fa56e0fd", func := "farwriter/farlaw.PageSays", spec := "pageSays", apart := false }
def PageSaysSaid : Prop := pageSaysRow.holds Try.pinned (OpenSpec.ofChange pageSaysSpec)

/-- ITS FALSE NEIGHBOUR: 'it returns false'. Refute it at one input. -/
def pageSaysWrong : ChangeSpec := { name := "pageSays", fn := fun _ => fun
  | [d1, d2, d3] => { results := [.lit (.bool false)], args := [d1, d2, d3] }
  | _ => none }
def PageSaysWrongFalsely : Prop := pageSaysRow.holds Try.pinned (OpenSpec.ofChange pageSaysWrong)

/-- 'farlaw.QnegTables': WHATEVER THE INPUT: true; the input reads as it did. -/
def qnegTablesSpec : ChangeSpec := { name := "qnegTables", fn := fun _ => fun
  | [d1, d2, d3] => { results := [.lit (.bool true)], args := [d1, d2, d3] }
  | _ => none }
def qnegTablesRow : OpenClaim := { program := "ytkbkppoefgojaaa", sum := "4b17cef829cb1f8f933e375d74fb9d6ed6985b6594df03a415e89726fa56e0fd", func := "farwriter/farlaw.QnegTables", spec := "qnegTables", apart := false }
def QnegTablesSaid : Prop := qnegTablesRow.holds Try.pinned (OpenSpec.ofChange qnegTablesSpec)

/-- ITS FALSE NEIGHBOUR: 'it returns false'. Refute it at one input. -/
def qnegTablesWrong : ChangeSpec := { name := "qnegTables", fn := fun _ => fun
  | [d1, d2, d3] => { results := [.lit (.bool false)], args := [d1, d2, d3] }
  | _ => none }
def QnegTablesWrongFalsely : Prop := qnegTablesRow.holds Try.pinned (OpenSpec.ofChange qnegTablesWrong)

/-- 'farlaw.PressPastes': WHATEVER THE INPUT: true; the input reads as it did. -/
def pressPastesSpec : ChangeSpec := { name := "pressPastes", fn := fun _ => fun
  | [d1, d2] => { results := [.lit (.bool true)], args := [d1, d2] }
  | _ => none }
def pressPastesRow : OpenClaim := { program := "ytkbkppoefgojaaa", sum := "4b17cef829cb1f8f933e375d74fb9d6ed6985b6594df03a415e89726fa56e0fd", func := "farwriter/farlaw.PressPastes", spec := "pressPastes", apart := false }
def PressPastesSaid : Prop := pressPastesRow.holds Try.pinned (OpenSpec.ofChange pressPastesSpec)

/-- ITS FALSE NEIGHBOUR: 'it returns false'. Refute it at one input. -/
def pressPastesWrong : ChangeSpec := { name := "pressPastes", fn := fun _ => fun
  | [d1, d2] => { results := [.lit (.bool false)], args := [d1, d2] }
  | _ => none }
def PressPastesWrongFalsely : Prop := pressPastesRow.holds Try.pinned (OpenSpec.ofChange pressPastesWrong)

/-- 'farlaw.PenChanges': WHATEVER THE INPUT: true; the input reads as it did. -/
def penChangesSpec : ChangeSpec := { name := "penChanges", fn := fun _ => fun
  | [d1, d2] => { results := [.lit (.bool true)], args := [d1, d2] }
  | _ => none }
def penChangesRow : OpenClaim := { program := "ytkbkppoefgojaaa", sum := "4b17cef829cb1f8f933e375d74fb9d6ed6985b6594df03a415e89726fa56e0fd", func := "farwriter/farlaw.PenChanges", spec := "penChanges", apart := false }
def PenChangesSaid : Prop := penChangesRow.holds Try.pinned (OpenSpec.ofChange penChangesSpec)

/-- ITS FALSE NEIGHBOUR: 'it returns false'. Refute it at one input. -/
def penChangesWrong : ChangeSpec := { name := "penChanges", fn := fun _ => fun
  | [d1, d2] => { results := [.lit (.bool false)], args := [d1, d2] }
  | _ => none }
def PenChangesWrongFalsely : Prop := penChangesRow.holds Try.pinned (OpenSpec.ofChange penChangesWrong)

/-- 'farlaw.QnegWants': WHATEVER THE INPUT: true; the input reads as it did. -/
def qnegWantsSpec : ChangeSpec := { name := "qnegWants", fn := fun _ => fun
  | [d1, d2, d3, d4] => { results := [.lit (.bool true)], args := [d1, d2, d3, d4] }
  | _ => none }
def qnegWantsRow : OpenClaim := { program := "ytkbkppoefgojaaa", sum := "4b17cef829cb1f8f933e375d74fb9d6ed6985b6594df03a415e89726fa56e0fd", func := "farwriter/farlaw.QnegWants", spec := "qnegWants", apart := false }
def QnegWantsSaid : Prop := qnegWantsRow.holds Try.pinned (OpenSpec.ofChange qnegWantsSpec)

/-- ITS FALSE NEIGHBOUR: 'it returns false'. Refute it at one input. -/
def qnegWantsWrong : ChangeSpec := { name := "qnegWants", fn := fun _ => fun
  | [d1, d2, d3, d4] => { results := [.lit (.bool false)], args := [d1, d2, d3, d4] }
  | _ => none }
def QnegWantsWrongFalsely : Prop := qnegWantsRow.holds Try.pinned (OpenSpec.ofChange qnegWantsWrong)

/-- 'farlaw.FindSays': WHATEVER THE INPUT: true; the input reads as it did. -/
def findSaysSpec : ChangeSpec := { name := "findSays", fn := fun _ => fun
  | [d1, d2] => { results := [.lit (.bool true)], args := [d1, d2] }
  | _ => none }
def findSaysRow : OpenClaim := { program := "ytkbkppoefgojaaa", sum := "4b17cef829cb1f8f933e375d74fb9d6ed6985b6594df03a415e89726fa56e0fd", func := "farwriter/farlaw.FindSays", spec := "findSays", apart := false }
def FindSaysSaid : Prop := findSaysRow.holds Try.pinned (OpenSpec.ofChange findSaysSpec)

/-- ITS FALSE NEIGHBOUR: 'it returns false'. Refute it at one input. -/
def findSaysWrong : ChangeSpec := { name := "findSays", fn := fun _ => fun
  | [d1, d2] => { results := [.lit (.bool false)], args := [d1, d2] }
  | _ => none }
def FindSaysWrongFalsely : Prop := findSaysRow.holds Try.pinned (OpenSpec.ofChange findSaysWrong)

/-- 'farlaw.AboutAnswers': WHATEVER THE INPUT: true; the input reads as it did. -/
def aboutAnswersSpec : ChangeSpec := { name := "aboutAnswers", fn := fun _ => fun
  | [d1, d2] => { results := [.lit (.bool true)], args := [d1, d2] }
  | _ => none }
def aboutAnswersRow : OpenClaim := { program := "ytkbkppoefgojaaa", sum := "4b17cef829cb1f8f933e375d74fb9d6ed6985b6594df03a415e89726fa56e0fd", func := "farwriter/farlaw.AboutAnswers", spec := "aboutAnswers", apart := false }
def AboutAnswersSaid : Prop := aboutAnswersRow.holds Try.pinned (OpenSpec.ofChange aboutAnswersSpec)

/-- ITS FALSE NEIGHBOUR: 'it returns false'. Refute it at one input. -/
def aboutAnswersWrong : ChangeSpec := { name := "aboutAnswers", fn := fun _ => fun
  | [d1, d2] => { results := [.lit (.bool false)], args := [d1, d2] }
  | _ => none }
def AboutAnswersWrongFalsely : Prop := aboutAnswersRow.holds Try.pinned (OpenSpec.ofChange aboutAnswersWrong)

/- THE SECOND FORM. 'bulk': how many values and letters a reading holds, each counted each time it is reached (what is shared counts as often as it is met; a slice's spare places count too). A statement '..UptoSaid' is the law's where the arguments, and the package variables that the reading takes, are together of bulk at most 1048576: NARROWER than '..Said'. Prove '..Said' where nothing that the law and all that it calls make is longer than what came in: it says more and counts as full. Else prove '..UptoSaid'. A law counts once. -/
mutual
def uptoBulk {H : Type} : DataW H → Nat
  | .lit (.string bytes) => bytes.length + 1
  | .lit _ => 1
  | .nil => 1
  | .ptr d => uptoBulk d + 1
  | .slice elems spare => uptoBulkAll elems + uptoBulkAll spare + 1
  | .agg parts => uptoBulkAll parts + 1
  | .iface _ d => uptoBulk d + 1
  | .map entries => uptoBulkEntries entries + 1
  | .held _ => 1
def uptoBulkAll {H : Type} : List (DataW H) → Nat
  | [] => 0
  | d :: r => uptoBulk d + uptoBulkAll r
def uptoBulkEntries {H : Type} : List (Lit × DataW H) → Nat
  | [] => 0
  | x :: r => uptoBulkEntry x + uptoBulkEntries r
def uptoBulkEntry {H : Type} : Lit × DataW H → Nat
  | (.string bytes, d) => bytes.length + uptoBulk d + 1
  | (_, d) => uptoBulk d + 1
 end
def uptoSmall : (H : Type) → List (DataW H) → Bool := fun _ ds => decide (uptoBulkAll ds ≤ 1048576)
def OpenSpec.upto (s : _root_.Go.ChangeSpec) : _root_.Go.OpenSpec := { _root_.Go.OpenSpec.ofChange s with cond := some uptoSmall }

/-- 'farlaw.Names', WHERE WHAT IT READS IS OF BULK AT MOST 1048576: true; the input reads as it did. -/
def namesUptoRow : OpenClaim := { program := "ytkbkppoefgojaaa", sum := "4b17cef829cb1f8f933e375d74fb9d6ed6985b6594df03a415e89726fa56e0fd", func := "farwriter/farlaw.Names", spec := "names", apart := false, narrowed := true }
def NamesUptoSaid : Prop := namesUptoRow.holds Try.pinned (OpenSpec.upto namesSpec)

/-- 'farlaw.AboutSizes', WHERE WHAT IT READS IS OF BULK AT MOST 1048576: true; the input reads as it did. -/
def aboutSizesUptoRow : OpenClaim := { program := "ytkbkppoefgojaaa", sum := "4b17cef829cb1f8f933e375d74fb9d6ed6985b6594df03a415e89726fa56e0fd", func := "farwriter/farlaw.AboutSizes", spec := "aboutSizes", apart := false, narrowed := true }
def AboutSizesUptoSaid : Prop := aboutSizesUptoRow.holds Try.pinned (OpenSpec.upto aboutSizesSpec)

/-- 'farlaw.MaskSays', WHERE WHAT IT READS IS OF BULK AT MOST 1048576: true; the input reads as it did. -/
def maskSaysUptoRow : OpenClaim := { program := "ytkbkppoefgojaaa", sum := "4b17cef829cb1f8f933e375d74fb9d6ed6985b6594df03a415e89726fa56e0fd", func := "farwriter/farlaw.MaskSays", spec := "maskSays", inPlace := ["internal/bytealg.IndexByteString"], apart := false, narrowed := true }
def MaskSaysUptoSaid : Prop := maskSaysUptoRow.holds Try.pinned (OpenSpec.upto maskSaysSpec)

/-- 'farlaw.WidthSays', WHERE WHAT IT READS IS OF BULK AT MOST 1048576: true; the input reads as it did. -/
def widthSaysUptoRow : OpenClaim := { program := "ytkbkppoefgojaaa", sum := "4b17cef829cb1f8f933e375d74fb9d6ed6985b6594df03a415e89726fa56e0fd", func := "farwriter/farlaw.WidthSays", spec := "widthSays", apart := false, narrowed := true }
def WidthSaysUptoSaid : Prop := widthSaysUptoRow.holds Try.pinned (OpenSpec.upto widthSaysSpec)

/-- 'farlaw.TabsGo', WHERE WHAT IT READS IS OF BULK AT MOST 1048576: true; the input reads as it did. -/
def tabsGoUptoRow : OpenClaim := { program := "ytkbkppoefgojaaa", sum := "4b17cef829cb1f8f933e375d74fb9d6ed6985b6594df03a415e89726fa56e0fd", func := "farwriter/farlaw.TabsGo", spec := "tabsGo", apart := false, narrowed := true }
def TabsGoUptoSaid : Prop := tabsGoUptoRow.holds Try.pinned (OpenSpec.upto tabsGoSpec)

/-- 'farlaw.PageSays', WHERE WHAT IT READS IS OF BULK AT MOST 1048576: true; the input reads as it did. -/
def pageSaysUptoRow : OpenClaim := { program := "ytkbkppoefgojaaa", sum := "4b17cef829cb1f8f933e375d74fb9d6ed6985b6594df03a415e89726fa56e0fd", func := "farwriter/farlaw.PageSays", spec := "pageSays", apart := false, narrowed := true }
def PageSaysUptoSaid : Prop := pageSaysUptoRow.holds Try.pinned (OpenSpec.upto pageSaysSpec)

/-- 'farlaw.QnegTables', WHERE WHAT IT READS IS OF BULK AT MOST 1048576: true; the input reads as it did. -/
def qnegTablesUptoRow : OpenClaim := { program := "ytkbkppoefgojaaa", sum := "4b17cef829cb1f8f933e375d74fb9d6ed6985b6594df03a415e89726fa56e0fd", func := "farwriter/farlaw.QnegTables", spec := "qnegTables", apart := false, narrowed := true }
def QnegTablesUptoSaid : Prop := qnegTablesUptoRow.holds Try.pinned (OpenSpec.upto qnegTablesSpec)

/-- 'farlaw.PressPastes', WHERE WHAT IT READS IS OF BULK AT MOST 1048576: true; the input reads as it did. -/
def pressPastesUptoRow : OpenClaim := { program := "ytkbkppoefgojaaa", sum := "4b17cef829cb1f8f933e375d74fb9d6ed6985b6594df03a415e89726fa56e0fd", func := "farwriter/farlaw.PressPastes", spec := "pressPastes", apart := false, narrowed := true }
def PressPastesUptoSaid : Prop := pressPastesUptoRow.holds Try.pinned (OpenSpec.upto pressPastesSpec)

/-- 'farlaw.PenChanges', WHERE WHAT IT READS IS OF BULK AT MOST 1048576: true; the input reads as it did. -/
def penChangesUptoRow : OpenClaim := { program := "ytkbkppoefgojaaa", sum := "4b17cef829cb1f8f933e375d74fb9d6ed6985b6594df03a415e89726fa56e0fd", func := "farwriter/farlaw.PenChanges", spec := "penChanges", apart := false, narrowed := true }
def PenChangesUptoSaid : Prop := penChangesUptoRow.holds Try.pinned (OpenSpec.upto penChangesSpec)

/-- 'farlaw.QnegWants', WHERE WHAT IT READS IS OF BULK AT MOST 1048576: true; the input reads as it did. -/
def qnegWantsUptoRow : OpenClaim := { program := "ytkbkppoefgojaaa", sum := "4b17cef829cb1f8f933e375d74fb9d6ed6985b6594df03a415e89726fa56e0fd", func := "farwriter/farlaw.QnegWants", spec := "qnegWants", apart := false, narrowed := true }
def QnegWantsUptoSaid : Prop := qnegWantsUptoRow.holds Try.pinned (OpenSpec.upto qnegWantsSpec)

/-- 'farlaw.FindSays', WHERE WHAT IT READS IS OF BULK AT MOST 1048576: true; the input reads as it did. -/
def findSaysUptoRow : OpenClaim := { program := "ytkbkppoefgojaaa", sum := "4b17cef829cb1f8f933e375d74fb9d6ed6985b6594df03a415e89726fa56e0fd", func := "farwriter/farlaw.FindSays", spec := "findSays", apart := false, narrowed := true }
def FindSaysUptoSaid : Prop := findSaysUptoRow.holds Try.pinned (OpenSpec.upto findSaysSpec)

/-- 'farlaw.AboutAnswers', WHERE WHAT IT READS IS OF BULK AT MOST 1048576: true; the input reads as it did. -/
def aboutAnswersUptoRow : OpenClaim := { program := "ytkbkppoefgojaaa", sum := "4b17cef829cb1f8f933e375d74fb9d6ed6985b6594df03a415e89726fa56e0fd", func := "farwriter/farlaw.AboutAnswers", spec := "aboutAnswers", apart := false, narrowed := true }
def AboutAnswersUptoSaid : Prop := aboutAnswersUptoRow.holds Try.pinned (OpenSpec.upto aboutAnswersSpec)

end Rows
end Go.Proofs.Ytkbkppoefgojaaa
