/-
  No cell of these rows narrows 'for every input' (looked for: loops, veiled, ifaces, maps, wideKeys, modest, calm, conditions, laid).
  DERIVED. THE GIVEN ROWS OF THIS SEAT. 7 by the template 'for every input the law returns true; each argument reads behind the call as it read before'; 0 by the template 'total and deterministic' (their statements: YtgcnfcgnkfkpeaaTotals.lean).
  GIVEN WITH THE SEED: the statements are not yours to turn. If you find one false, say at which input.
  Laid BY PROGRAM, IN A SANDBOX (cutbox-rows.mjs): the forced cells as the released guide's own fill.sh prints them over the translation 91f94fdbd5a14fed… (all of the seat's roots in one cut). By AI agents, Wed Nov 11 2026. No macro, syntax, notation, axiom, sorry.
-/
import Derived.Test.YtgcnfcgnkfkpeaaChecked
import GoSem.Claim
import GoSem.ClaimJoined
import GoSem.ClaimMapViews
import Derived.JoinedTies
import Derived.KernelRfl
namespace Go.Proofs.Ytgcnfcgnkfkpeaa
/- THE CELL 'sum', in the pinned program and in every row, IS THE sha256 OF THE DUMP (.gsa) THAT YtgcnfcgnkfkpeaaProg.lean LOADS. Nothing in Lean hashes anything: it is a label: what it is worth is what the hold of that sum in a sandbox is worth. -/
noncomputable def Try.pinned : Pinned := { name := "ytgcnfcgnkfkpeaa", sum := "91f94fdbd5a14fedccc0083a570a1da7d059b4ae3a161f95c8780b3c21fcfd25", checked := Try.checked }
namespace Rows
def none {H : Type} : Left H := { results := [], args := [] }

/-- 'farlaw.FlowSays': WHATEVER THE INPUT: true; the input reads as it did. -/
def flowSaysSpec : ChangeSpec := { name := "flowSays", fn := fun _ => fun
  | [d1, d2, d3] => { results := [.lit (.bool true)], args := [d1, d2, d3] }
  | _ => none }
def flowSaysRow : OpenClaim := { program := "ytgcnfcgnkfkpeaa", sum := "91f94fdbd5a14fedccc0083a570a1da7d059b4ae3a161f95c8780b3c21fcfd25", func := "farwriter/farlaw.FlowSays", spec := "flowSays", unfollowed := true, recurses := true, apart := false }
def FlowSaysSaid : Prop := flowSaysRow.holds Try.pinned (OpenSpec.ofChange flowSaysSpec)

/-- ITS FALSE NEIGHBOUR: 'it returns false'. Refute it at one input. -/
def flowSaysWrong : ChangeSpec := { name := "flowSays", fn := fun _ => fun
  | [d1, d2, d3] => { results := [.lit (.bool false)], args := [d1, d2, d3] }
  | _ => none }
def FlowSaysWrongFalsely : Prop := flowSaysRow.holds Try.pinned (OpenSpec.ofChange flowSaysWrong)

/-- 'farlaw.GridSizes': WHATEVER THE INPUT: true; the input reads as it did. -/
def gridSizesSpec : ChangeSpec := { name := "gridSizes", fn := fun _ => fun
  | [d1, d2, d3, d4, d5] => { results := [.lit (.bool true)], args := [d1, d2, d3, d4, d5] }
  | _ => none }
def gridSizesRow : OpenClaim := { program := "ytgcnfcgnkfkpeaa", sum := "91f94fdbd5a14fedccc0083a570a1da7d059b4ae3a161f95c8780b3c21fcfd25", func := "farwriter/farlaw.GridSizes", spec := "gridSizes", unfollowed := true, recurses := true, apart := false }
def GridSizesSaid : Prop := gridSizesRow.holds Try.pinned (OpenSpec.ofChange gridSizesSpec)

/-- ITS FALSE NEIGHBOUR: 'it returns false'. Refute it at one input. -/
def gridSizesWrong : ChangeSpec := { name := "gridSizes", fn := fun _ => fun
  | [d1, d2, d3, d4, d5] => { results := [.lit (.bool false)], args := [d1, d2, d3, d4, d5] }
  | _ => none }
def GridSizesWrongFalsely : Prop := gridSizesRow.holds Try.pinned (OpenSpec.ofChange gridSizesWrong)

/-- 'farlaw.UtfWrites': WHATEVER THE INPUT: true; the input reads as it did. -/
def utfWritesSpec : ChangeSpec := { name := "utfWrites", fn := fun _ => fun
  | [d1, d2] => { results := [.lit (.bool true)], args := [d1, d2] }
  | _ => none }
def utfWritesRow : OpenClaim := { program := "ytgcnfcgnkfkpeaa", sum := "91f94fdbd5a14fedccc0083a570a1da7d059b4ae3a161f95c8780b3c21fcfd25", func := "farwriter/farlaw.UtfWrites", spec := "utfWrites", inPlace := ["internal/abi.NoEscape", "internal/bytealg.MakeNoZero"], apart := false }
def UtfWritesSaid : Prop := utfWritesRow.holds Try.pinned (OpenSpec.ofChange utfWritesSpec)

/-- ITS FALSE NEIGHBOUR: 'it returns false'. Refute it at one input. -/
def utfWritesWrong : ChangeSpec := { name := "utfWrites", fn := fun _ => fun
  | [d1, d2] => { results := [.lit (.bool false)], args := [d1, d2] }
  | _ => none }
def UtfWritesWrongFalsely : Prop := utfWritesRow.holds Try.pinned (OpenSpec.ofChange utfWritesWrong)

/-- 'farlaw.ChoiceAsks': WHATEVER THE INPUT: true; the input reads as it did. -/
def choiceAsksSpec : ChangeSpec := { name := "choiceAsks", fn := fun _ => fun
  | [d1, d2] => { results := [.lit (.bool true)], args := [d1, d2] }
  | _ => none }
def choiceAsksRow : OpenClaim := { program := "ytgcnfcgnkfkpeaa", sum := "91f94fdbd5a14fedccc0083a570a1da7d059b4ae3a161f95c8780b3c21fcfd25", func := "farwriter/farlaw.ChoiceAsks", spec := "choiceAsks", inPlace := ["internal/bytealg.IndexByteString", "internal/bytealg.IndexString", "internal/abi.NoEscape", "internal/bytealg.MakeNoZero"], unfollowed := true, recurses := true, named := ["internal/bytealg.MaxLen"], apart := false }
def ChoiceAsksSaid : Prop := choiceAsksRow.holds Try.pinned (OpenSpec.ofChange choiceAsksSpec)

/-- ITS FALSE NEIGHBOUR: 'it returns false'. Refute it at one input. -/
def choiceAsksWrong : ChangeSpec := { name := "choiceAsks", fn := fun _ => fun
  | [d1, d2] => { results := [.lit (.bool false)], args := [d1, d2] }
  | _ => none }
def ChoiceAsksWrongFalsely : Prop := choiceAsksRow.holds Try.pinned (OpenSpec.ofChange choiceAsksWrong)

/-- 'farlaw.FindOn': WHATEVER THE INPUT: true; the input reads as it did. -/
def findOnSpec : ChangeSpec := { name := "findOn", fn := fun _ => fun
  | [d1, d2] => { results := [.lit (.bool true)], args := [d1, d2] }
  | _ => none }
def findOnRow : OpenClaim := { program := "ytgcnfcgnkfkpeaa", sum := "91f94fdbd5a14fedccc0083a570a1da7d059b4ae3a161f95c8780b3c21fcfd25", func := "farwriter/farlaw.FindOn", spec := "findOn", unfollowed := true, recurses := true, apart := false }
def FindOnSaid : Prop := findOnRow.holds Try.pinned (OpenSpec.ofChange findOnSpec)

/-- ITS FALSE NEIGHBOUR: 'it returns false'. Refute it at one input. -/
def findOnWrong : ChangeSpec := { name := "findOn", fn := fun _ => fun
  | [d1, d2] => { results := [.lit (.bool false)], args := [d1, d2] }
  | _ => none }
def FindOnWrongFalsely : Prop := findOnRow.holds Try.pinned (OpenSpec.ofChange findOnWrong)

/-- 'farlaw.ClipSays': WHATEVER THE INPUT: true; the input reads as it did. -/
def clipSaysSpec : ChangeSpec := { name := "clipSays", fn := fun _ => fun
  | [d1, d2, d3, d4] => { results := [.lit (.bool true)], args := [d1, d2, d3, d4] }
  | _ => none }
def clipSaysRow : OpenClaim := { program := "ytgcnfcgnkfkpeaa", sum := "91f94fdbd5a14fedccc0083a570a1da7d059b4ae3a161f95c8780b3c21fcfd25", func := "farwriter/farlaw.ClipSays", spec := "clipSays", unfollowed := true, recurses := true, apart := false }
def ClipSaysSaid : Prop := clipSaysRow.holds Try.pinned (OpenSpec.ofChange clipSaysSpec)

/-- ITS FALSE NEIGHBOUR: 'it returns false'. Refute it at one input. -/
def clipSaysWrong : ChangeSpec := { name := "clipSays", fn := fun _ => fun
  | [d1, d2, d3, d4] => { results := [.lit (.bool false)], args := [d1, d2, d3, d4] }
  | _ => none }
def ClipSaysWrongFalsely : Prop := clipSaysRow.holds Try.pinned (OpenSpec.ofChange clipSaysWrong)

/-- 'farlaw.GridMoves': WHATEVER THE INPUT: true; the input reads as it did. -/
def gridMovesSpec : ChangeSpec := { name := "gridMoves", fn := fun _ => fun
  | [d1, d2, d3, d4, d5, d6] => { results := [.lit (.bool true)], args := [d1, d2, d3, d4, d5, d6] }
  | _ => none }
def gridMovesRow : OpenClaim := { program := "ytgcnfcgnkfkpeaa", sum := "91f94fdbd5a14fedccc0083a570a1da7d059b4ae3a161f95c8780b3c21fcfd25", func := "farwriter/farlaw.GridMoves", spec := "gridMoves", unfollowed := true, recurses := true, apart := false }
def GridMovesSaid : Prop := gridMovesRow.holds Try.pinned (OpenSpec.ofChange gridMovesSpec)

/-- ITS FALSE NEIGHBOUR: 'it returns false'. Refute it at one input. -/
def gridMovesWrong : ChangeSpec := { name := "gridMoves", fn := fun _ => fun
  | [d1, d2, d3, d4, d5, d6] => { results := [.lit (.bool false)], args := [d1, d2, d3, d4, d5, d6] }
  | _ => none }
def GridMovesWrongFalsely : Prop := gridMovesRow.holds Try.pinned (OpenSpec.ofChange gridMovesWrong)

/- THE SECOND FORM. 'bulk': how many values and letters a reading holds, each counted each time it is reached (what is shared counts as often as it is met; a slice's spare places count too). A statement '..UptoSaid' is the law's where the arguments, and the package variables that the reading takes, are together of bulk at most 1048576: NARROWER than '..Said'. Prove '..Said' where nothing that the law and all that it calls make is longer than what came in: it says more and counts as full. Else prove '..UptoSaid'. A law counts once. -/
mutual
def uptoBulk {H : Type} : DataW H → Nat
  | .lit (.string bytes) => bytes.length + 1
  | .lit _ => 1
  | .nil => 1
  | .ptr d => uptoBulk d + 1
  | .slice elems spare => uptoBulkAll elems + uptoBulkAll spare + 1
  | .agg parts => uptoBulkAll parts + 1
  | .iface _ d => uptoBulk d + 1
  | .map entries => uptoBulkEntries entries + 1
  | .held _ => 1
def uptoBulkAll {H : Type} : List (DataW H) → Nat
  | [] => 0
  | d :: r => uptoBulk d + uptoBulkAll r
def uptoBulkEntries {H : Type} : List (Lit × DataW H) → Nat
  | [] => 0
  | x :: r => uptoBulkEntry x + uptoBulkEntries r
def uptoBulkEntry {H : Type} : Lit × DataW H → Nat
  | (.string bytes, d) => bytes.length + uptoBulk d + 1
  | (_, d) => uptoBulk d + 1
 end
def uptoSmall : (H : Type) → List (DataW H) → Bool := fun _ ds => decide (uptoBulkAll ds ≤ 1048576)
def OpenSpec.upto (s : _root_.Go.ChangeSpec) : _root_.Go.OpenSpec := { _root_.Go.OpenSpec.ofChange s with cond := some uptoSmall }

/-- 'farlaw.FlowSays', WHERE WHAT IT READS IS OF BULK AT MOST 1048576: true; the input reads as it did. -/
def flowSaysUptoRow : OpenClaim := { program := "ytgcnfcgnkfkpeaa", sum := "91f94fdbd5a14fedccc0083a570a1da7d059b4ae3a161f95c8780b3c21fcfd25", func := "farwriter/farlaw.FlowSays", spec := "flowSays", unfollowed := true, recurses := true, apart := false, narrowed := true }
def FlowSaysUptoSaid : Prop := flowSaysUptoRow.holds Try.pinned (OpenSpec.upto flowSaysSpec)

/-- 'farlaw.GridSizes', WHERE WHAT IT READS IS OF BULK AT MOST 1048576: true; the input reads as it did. -/
def gridSizesUptoRow : OpenClaim := { program := "ytgcnfcgnkfkpeaa", sum := "91f94fdbd5a14fedccc0083a570a1da7d059b4ae3a161f95c8780b3c21fcfd25", func := "farwriter/farlaw.GridSizes", spec := "gridSizes", unfollowed := true, recurses := true, apart := false, narrowed := true }
def GridSizesUptoSaid : Prop := gridSizesUptoRow.holds Try.pinned (OpenSpec.upto gridSizesSpec)

/-- 'farlaw.UtfWrites', WHERE WHAT IT READS IS OF BULK AT MOST 1048576: true; the input reads as it did. -/
def utfWritesUptoRow : OpenClaim := { program := "ytgcnfcgnkfkpeaa", sum := "91f94fdbd5a14fedccc0083a570a1da7d059b4ae3a161f95c8780b3c21fcfd25", func := "farwriter/farlaw.UtfWrites", spec := "utfWrites", inPlace := ["internal/abi.NoEscape", "internal/bytealg.MakeNoZero"], apart := false, narrowed := true }
def UtfWritesUptoSaid : Prop := utfWritesUptoRow.holds Try.pinned (OpenSpec.upto utfWritesSpec)

/-- 'farlaw.ChoiceAsks', WHERE WHAT IT READS IS OF BULK AT MOST 1048576: true; the input reads as it did. -/
def choiceAsksUptoRow : OpenClaim := { program := "ytgcnfcgnkfkpeaa", sum := "91f94fdbd5a14fedccc0083a570a1da7d059b4ae3a161f95c8780b3c21fcfd25", func := "farwriter/farlaw.ChoiceAsks", spec := "choiceAsks", inPlace := ["internal/bytealg.IndexByteString", "internal/bytealg.IndexString", "internal/abi.NoEscape", "internal/bytealg.MakeNoZero"], unfollowed := true, recurses := true, named := ["internal/bytealg.MaxLen"], apart := false, narrowed := true }
def ChoiceAsksUptoSaid : Prop := choiceAsksUptoRow.holds Try.pinned (OpenSpec.upto choiceAsksSpec)

/-- 'farlaw.FindOn', WHERE WHAT IT READS IS OF BULK AT MOST 1048576: true; the input reads as it did. -/
def findOnUptoRow : OpenClaim := { program := "ytgcnfcgnkfkpeaa", sum := "91f94fdbd5a14fedccc0083a570a1da7d059b4ae3a161f95c8780b3c21fcfd25", func := "farwriter/farlaw.FindOn", spec := "findOn", unfollowed := true, recurses := true, apart := false, narrowed := true }
def FindOnUptoSaid : Prop := findOnUptoRow.holds Try.pinned (OpenSpec.upto findOnSpec)

/-- 'farlaw.ClipSays', WHERE WHAT IT READS IS OF BULK AT MOST 1048576: true; the input reads as it did. -/
def clipSaysUptoRow : OpenClaim := { program := "ytgcnfcgnkfkpeaa", sum := "91f94fdbd5a14fedccc0083a570a1da7d059b4ae3a161f95c8780b3c21fcfd25", func := "farwriter/farlaw.ClipSays", spec := "clipSays", unfollowed := true, recurses := true, apart := false, narrowed := true }
def ClipSaysUptoSaid : Prop := clipSaysUptoRow.holds Try.pinned (OpenSpec.upto clipSaysSpec)

/-- 'farlaw.GridMoves', WHERE WHAT IT READS IS OF BULK AT MOST 1048576: true; the input reads as it did. -/
def gridMovesUptoRow : OpenClaim := { program := "ytgcnfcgnkfkpeaa", sum := "91f94fdbd5a14fedccc0083a570a1da7d059b4ae3a161f95c8780b3c21fcfd25", func := "farwriter/farlaw.GridMoves", spec := "gridMoves", unfollowed := true, recurses := true, apart := false, narrowed := true }
def GridMovesUptoSaid : Prop := gridMovesUptoRow.holds Try.pinned (OpenSpec.upto gridMovesSpec)

end Rows
end Go.Proofs.Ytgcnfcgnkfkpeaa
