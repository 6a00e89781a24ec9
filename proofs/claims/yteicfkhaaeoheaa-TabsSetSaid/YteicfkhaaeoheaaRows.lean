/-
  No cell of these rows narrows 'for every input' (looked for: loops, veiled, ifaces, maps, wideKeys, modest, calm, conditions, laid).
  DERIVED. THE GIVEN ROWS OF THIS SEAT. 5 by the template 'for every input the law returns true; each argument reads behind the call as it read before'; 0 by the template 'total and deterministic' (their statements: YteicfkhaaeoheaaTotals.lean).
  GIVEN WITH THE SEED: the statements are not yours to turn. If you find one false, say at which input.
  Laid BY PROGRAM, IN A SANDBOX (cutbox-rows.mjs): the forced cells as the released guide's own fill.sh prints them over the translation 653fa88150b8f909… (all of the seat's roots in one cut). By AI agents, Wed Nov 11 2026. No macro, syntax, notation, axiom, sorry.
-/
import Derived.Test.YteicfkhaaeoheaaChecked
import GoSem.Claim
import GoSem.ClaimJoined
import GoSem.ClaimMapViews
import Derived.JoinedTies
import Derived.KernelRfl
namespace Go.Proofs.Yteicfkhaaeoheaa
/- THE CELL 'sum', in the pinned program and in every row, IS THE sha256 OF THE DUMP (.gsa) THAT YteicfkhaaeoheaaProg.lean LOADS. Nothing in Lean hashes anything: it is a label: what it is worth is what the hold of that sum in a sandbox is worth. -/
noncomputable def Try.pinned : Pinned := { name := "yteicfkhaaeoheaa", sum := "653fa88150b8f90979c0a97eb21e07971f518243a9443016aa38029ea9f82a1f", checked := Try.checked }
namespace Rows
def none {H : Type} : Left H := { results := [], args := [] }

/-- 'farlaw.FindOn': WHATEVER THE INPUT: true; the input reads as it did. -/
def findOnSpec : ChangeSpec := { name := "findOn", fn := fun _ => fun
  | [d1, d2] => { results := [.lit (.bool true)], args := [d1, d2] }
  | _ => none }
def findOnRow : OpenClaim := { program := "yteicfkhaaeoheaa", sum := "653fa88150b8f90979c0a97eb21e07971f518243a9443016aa38029ea9f82a1f", func := "farwriter/farlaw.FindOn", spec := "findOn", unfollowed := true, recurses := true, apart := false }
def FindOnSaid : Prop := findOnRow.holds Try.pinned (OpenSpec.ofChange findOnSpec)

/-- ITS FALSE NEIGHBOUR: 'it returns false'. Refute it at one input. -/
def findOnWrong : ChangeSpec := { name := "findOn", fn := fun _ => fun
  | [d1, d2] => { results := [.lit (.bool false)], args := [d1, d2] }
  | _ => none }
def FindOnWrongFalsely : Prop := findOnRow.holds Try.pinned (OpenSpec.ofChange findOnWrong)

/-- 'farlaw.ClipSays': WHATEVER THE INPUT: true; the input reads as it did. -/
def clipSaysSpec : ChangeSpec := { name := "clipSays", fn := fun _ => fun
  | [d1, d2, d3, d4] => { results := [.lit (.bool true)], args := [d1, d2, d3, d4] }
  | _ => none }
def clipSaysRow : OpenClaim := { program := "yteicfkhaaeoheaa", sum := "653fa88150b8f90979c0a97eb21e07971f518243a9443016aa38029ea9f82a1f", func := "farwriter/farlaw.ClipSays", spec := "clipSays", unfollowed := true, recurses := true, apart := false }
def ClipSaysSaid : Prop := clipSaysRow.holds Try.pinned (OpenSpec.ofChange clipSaysSpec)

/-- ITS FALSE NEIGHBOUR: 'it returns false'. Refute it at one input. -/
def clipSaysWrong : ChangeSpec := { name := "clipSays", fn := fun _ => fun
  | [d1, d2, d3, d4] => { results := [.lit (.bool false)], args := [d1, d2, d3, d4] }
  | _ => none }
def ClipSaysWrongFalsely : Prop := clipSaysRow.holds Try.pinned (OpenSpec.ofChange clipSaysWrong)

/-- 'farlaw.ChoiceAsks': WHATEVER THE INPUT: true; the input reads as it did. -/
def choiceAsksSpec : ChangeSpec := { name := "choiceAsks", fn := fun _ => fun
  | [d1, d2] => { results := [.lit (.bool true)], args := [d1, d2] }
  | _ => none }
def choiceAsksRow : OpenClaim := { program := "yteicfkhaaeoheaa", sum := "653fa88150b8f90979c0a97eb21e07971f518243a9443016aa38029ea9f82a1f", func := "farwriter/farlaw.ChoiceAsks", spec := "choiceAsks", inPlace := ["internal/bytealg.IndexByteString", "internal/bytealg.IndexString", "internal/abi.NoEscape", "internal/bytealg.MakeNoZero"], unfollowed := true, recurses := true, named := ["internal/bytealg.MaxLen"], apart := false }
def ChoiceAsksSaid : Prop := choiceAsksRow.holds Try.pinned (OpenSpec.ofChange choiceAsksSpec)

/-- ITS FALSE NEIGHBOUR: 'it returns false'. Refute it at one input. -/
def choiceAsksWrong : ChangeSpec := { name := "choiceAsks", fn := fun _ => fun
  | [d1, d2] => { results := [.lit (.bool false)], args := [d1, d2] }
  | _ => none }
def ChoiceAsksWrongFalsely : Prop := choiceAsksRow.holds Try.pinned (OpenSpec.ofChange choiceAsksWrong)

/-- 'farlaw.ScreenSizes': WHATEVER THE INPUT: true; the input reads as it did. -/
def screenSizesSpec : ChangeSpec := { name := "screenSizes", fn := fun _ => fun
  | [d1, d2, d3] => { results := [.lit (.bool true)], args := [d1, d2, d3] }
  | _ => none }
def screenSizesRow : OpenClaim := { program := "yteicfkhaaeoheaa", sum := "653fa88150b8f90979c0a97eb21e07971f518243a9443016aa38029ea9f82a1f", func := "farwriter/farlaw.ScreenSizes", spec := "screenSizes", unfollowed := true, recurses := true, apart := false }
def ScreenSizesSaid : Prop := screenSizesRow.holds Try.pinned (OpenSpec.ofChange screenSizesSpec)

/-- ITS FALSE NEIGHBOUR: 'it returns false'. Refute it at one input. -/
def screenSizesWrong : ChangeSpec := { name := "screenSizes", fn := fun _ => fun
  | [d1, d2, d3] => { results := [.lit (.bool false)], args := [d1, d2, d3] }
  | _ => none }
def ScreenSizesWrongFalsely : Prop := screenSizesRow.holds Try.pinned (OpenSpec.ofChange screenSizesWrong)

/-- 'farlaw.TabsSet': WHATEVER THE INPUT: true; the input reads as it did. -/
def tabsSetSpec : ChangeSpec := { name := "tabsSet", fn := fun _ => fun
  | [d1, d2, d3] => { results := [.lit (.bool true)], args := [d1, d2, d3] }
  | _ => none }
def tabsSetRow : OpenClaim := { program := "yteicfkhaaeoheaa", sum := "653fa88150b8f90979c0a97eb21e07971f518243a9443016aa38029ea9f82a1f", func := "farwriter/farlaw.TabsSet", spec := "tabsSet", unfollowed := true, recurses := true, apart := false }
def TabsSetSaid : Prop := tabsSetRow.holds Try.pinned (OpenSpec.ofChange tabsSetSpec)

/-- ITS FALSE NEIGHBOUR: 'it returns false'. Refute it at one input. -/
def tabsSetWrong : ChangeSpec := { name := "tabsSet", fn := fun _ => fun
  | [d1, d2, d3] => { results := [.lit (.bool false)], args := [d1, d2, d3] }
  | _ => none }
def TabsSetWrongFalsely : Prop := tabsSetRow.holds Try.pinned (OpenSpec.ofChange tabsSetWrong)

/- THE SECOND FORM. 'bulk': how many values and letters a reading holds, each counted each time it is reached (what is shared counts as often as it is met; a slice's spare places count too). A statement '..UptoSaid' is the law's where the arguments, and the package variables that the reading takes, are together of bulk at most 1048576: NARROWER than '..Said'. Prove '..Said' where nothing that the law and all that it calls make is longer than what came in: it says more and counts as full. Else prove '..UptoSaid'. A law counts once. -/
mutual
def uptoBulk {H : Type} : DataW H → Nat
  | .lit (.string bytes) => bytes.length + 1
  | .lit _ => 1
  | .nil => 1
  | .ptr d => uptoBulk d + 1
  | .slice elems spare => uptoBulkAll elems + uptoBulkAll spare + 1
  | .agg parts => uptoBulkAll parts + 1
  | .iface _ d => uptoBulk d + 1
  | .map entries => uptoBulkEntries entries + 1
  | .held _ => 1
def uptoBulkAll {H : Type} : List (DataW H) → Nat
  | [] => 0
  | d :: r => uptoBulk d + uptoBulkAll r
def uptoBulkEntries {H : Type} : List (Lit × DataW H) → Nat
  | [] => 0
  | x :: r => uptoBulkEntry x + uptoBulkEntries r
def uptoBulkEntry {H : Type} : Lit × DataW H → Nat
  | (.string bytes, d) => bytes.length + uptoBulk d + 1
  | (_, d) => uptoBulk d + 1
 end
def uptoSmall : (H : Type) → List (DataW H) → Bool := fun _ ds => decide (uptoBulkAll ds ≤ 1048576)
def OpenSpec.upto (s : _root_.Go.ChangeSpec) : _root_.Go.OpenSpec := { _root_.Go.OpenSpec.ofChange s with cond := some uptoSmall }

/-- 'farlaw.FindOn', WHERE WHAT IT READS IS OF BULK AT MOST 1048576: true; the input reads as it did. -/
def findOnUptoRow : OpenClaim := { program := "yteicfkhaaeoheaa", sum := "653fa88150b8f90979c0a97eb21e07971f518243a9443016aa38029ea9f82a1f", func := "farwriter/farlaw.FindOn", spec := "findOn", unfollowed := true, recurses := true, apart := false, narrowed := true }
def FindOnUptoSaid : Prop := findOnUptoRow.holds Try.pinned (OpenSpec.upto findOnSpec)

/-- 'farlaw.ClipSays', WHERE WHAT IT READS IS OF BULK AT MOST 1048576: true; the input reads as it did. -/
def clipSaysUptoRow : OpenClaim := { program := "yteicfkhaaeoheaa", sum := "653fa88150b8f90979c0a97eb21e07971f518243a9443016aa38029ea9f82a1f", func := "farwriter/farlaw.ClipSays", spec := "clipSays", unfollowed := true, recurses := true, apart := false, narrowed := true }
def ClipSaysUptoSaid : Prop := clipSaysUptoRow.holds Try.pinned (OpenSpec.upto clipSaysSpec)

/-- 'farlaw.ChoiceAsks', WHERE WHAT IT READS IS OF BULK AT MOST 1048576: true; the input reads as it did. -/
def choiceAsksUptoRow : OpenClaim := { program := "yteicfkhaaeoheaa", sum := "653fa88150b8f90979c0a97eb21e07971f518243a9443016aa38029ea9f82a1f", func := "farwriter/farlaw.ChoiceAsks", spec := "choiceAsks", inPlace := ["internal/bytealg.IndexByteString", "internal/bytealg.IndexString", "internal/abi.NoEscape", "internal/bytealg.MakeNoZero"], unfollowed := true, recurses := true, named := ["internal/bytealg.MaxLen"], apart := false, narrowed := true }
def ChoiceAsksUptoSaid : Prop := choiceAsksUptoRow.holds Try.pinned (OpenSpec.upto choiceAsksSpec)

/-- 'farlaw.ScreenSizes', WHERE WHAT IT READS IS OF BULK AT MOST 1048576: true; the input reads as it did. -/
def screenSizesUptoRow : OpenClaim := { program := "yteicfkhaaeoheaa", sum := "653fa88150b8f90979c0a97eb21e07971f518243a9443016aa38029ea9f82a1f", func := "farwriter/farlaw.ScreenSizes", spec := "screenSizes", unfollowed := true, recurses := true, apart := false, narrowed := true }
def ScreenSizesUptoSaid : Prop := screenSizesUptoRow.holds Try.pinned (OpenSpec.upto screenSizesSpec)

/-- 'farlaw.TabsSet', WHERE WHAT IT READS IS OF BULK AT MOST 1048576: true; the input reads as it did. -/
def tabsSetUptoRow : OpenClaim := { program := "yteicfkhaaeoheaa", sum := "653fa88150b8f90979c0a97eb21e07971f518243a9443016aa38029ea9f82a1f", func := "farwriter/farlaw.TabsSet", spec := "tabsSet", unfollowed := true, recurses := true, apart := false, narrowed := true }
def TabsSetUptoSaid : Prop := tabsSetUptoRow.holds Try.pinned (OpenSpec.upto tabsSetSpec)

end Rows
end Go.Proofs.Yteicfkhaaeoheaa
