/- farref.Width: a walk over its table, and that it agrees with width.Of. -/
import Derived.Test.YteicfkhaaeoheaaDoorWidth
namespace Go.Proofs.YteicfkhaaeoheaaDoor
open Go.RowKit Go.Fw


theorem refTo_succ (n : Int) (k : Nat) (hk : k < 34) : refTo n (k + 1) = if (refTab.getD k (0, 0)).1 ≤ n then (refTab.getD k (0, 0)).2 else refTo n k := by
  have hl : k < refTab.length := hk
  unfold refTo
  rw [List.take_succ_eq_append_getElem hl, List.foldl_append]
  simp only [List.foldl_cons, List.foldl_nil, List.getD, List.getElem?_eq_getElem hl, Option.getD_some]


end Go.Proofs.YteicfkhaaeoheaaDoor
