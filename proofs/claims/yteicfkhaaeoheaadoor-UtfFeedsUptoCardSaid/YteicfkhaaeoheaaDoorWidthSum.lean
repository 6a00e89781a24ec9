/- The sums of widths on both sides. -/
import Derived.Test.YteicfkhaaeoheaaDoorWidthRef
namespace Go.Proofs.YteicfkhaaeoheaaDoor
open Go.RowKit Go.Fw

theorem refWidth_bd (n : Int) : 0 ≤ refWidth n ∧ refWidth n ≤ 2 := by
  unfold refWidth refTo
  split
  · have : ∀ (l : List (Int × Int)) (w : Int), (∀ x ∈ l, 0 ≤ x.2 ∧ x.2 ≤ 2) → 0 ≤ w ∧ w ≤ 2 → 0 ≤ l.foldl (fun w x => if x.1 ≤ n then x.2 else w) w ∧ l.foldl (fun w x => if x.1 ≤ n then x.2 else w) w ≤ 2 := by
      intro l
      induction l with
      | nil => intro w _ h; exact h
      | cons x l ih =>
        intro w hl h
        rw [List.foldl_cons]
        refine ih _ (fun y hy => hl y (by simp [hy])) ?_
        have := hl x (by simp)
        split <;> omega
    exact this _ _ (by decide) (by omega)
  · omega
def widthSum (l : List Int) : Int := (l.map widthOf).sum
theorem widthSum_succ (l : List Int) (k : Nat) (hk : k < l.length) : widthSum (l.take (k + 1)) = widthSum (l.take k) + widthOf (l.getD k 0) := by
  unfold widthSum
  rw [List.take_succ_eq_append_getElem hk]
  rw [List.map_append, List.sum_append]
  simp only [List.map_cons, List.map_nil, List.sum_cons, List.sum_nil, List.getD, List.getElem?_eq_getElem hk, Option.getD_some, Int.add_zero]
theorem widthSum_bd (l : List Int) : 0 ≤ widthSum l ∧ widthSum l ≤ 2 * l.length := by
  unfold widthSum
  induction l with
  | nil => simp
  | cons x l ih => have := widthOf_bd x; simp only [List.map_cons, List.sum_cons, List.length_cons]; omega
def refWidths (l : List Int) : Int := (l.map refWidth).sum
theorem refWidths_succ (l : List Int) (k : Nat) (hk : k < l.length) : refWidths (l.take (k + 1)) = refWidths (l.take k) + refWidth (l.getD k 0) := by
  unfold refWidths
  rw [List.take_succ_eq_append_getElem hk]
  rw [List.map_append, List.sum_append]
  simp only [List.map_cons, List.map_nil, List.sum_cons, List.sum_nil, List.getD, List.getElem?_eq_getElem hk, Option.getD_some, Int.add_zero]
theorem refWidths_bd (l : List Int) : 0 ≤ refWidths l ∧ refWidths l ≤ 2 * l.length := by
  unfold refWidths
  induction l with
  | nil => simp
  | cons x l ih => have := refWidth_bd x; simp only [List.map_cons, List.sum_cons, List.length_cons]; omega

end Go.Proofs.YteicfkhaaeoheaaDoor
