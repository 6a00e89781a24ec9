/- The walks of width and of what the document's side says of widths, and that the two agree. -/
import Derived.Test.YteicfkhaaeoheaaDoorAbout
namespace Go.Proofs.YteicfkhaaeoheaaDoor
open Go.RowKit Go.Fw

def inTab (n : Int) (l : List (Int × Int)) : Bool := l.any fun x => decide (x.1 ≤ n ∧ n ≤ x.2)
def inNo (n : Int) (l : List (Int × Int)) (k : Nat) : Prop := ∀ j, j < k → ¬ ((l.getD j (0, 0)).1 ≤ n ∧ n ≤ (l.getD j (0, 0)).2)
theorem inTab_yes (n : Int) (l : List (Int × Int)) (k : Nat) (hk : k < l.length) (h : (l.getD k (0, 0)).1 ≤ n ∧ n ≤ (l.getD k (0, 0)).2) : inTab n l = true := by
  unfold inTab
  rw [List.any_eq_true]
  simp only [List.getD, List.getElem?_eq_getElem hk, Option.getD_some] at h
  exact ⟨l[k], List.getElem_mem hk, by simpa using h⟩
theorem inTab_no (n : Int) (l : List (Int × Int)) (h : inNo n l l.length) : inTab n l = false := by
  unfold inTab
  rw [List.any_eq_false]
  intro x hx
  obtain ⟨j, hj, rfl⟩ := List.getElem_of_mem hx
  have := h j hj
  simp only [List.getD, List.getElem?_eq_getElem hj, Option.getD_some] at this
  simpa using this


def noneTab : List (Int × Int) := [(0, 31), (127, 159), (768, 879), (8203, 8207), (55296, 57343), (65024, 65039)]
def twoTab : List (Int × Int) := [(4352, 4447), (11904, 12350), (12353, 19903), (19968, 42191), (44032, 55203), (63744, 64255), (65072, 65135), (65280, 65376), (65504, 65510), (127744, 128591), (129280, 129535), (131072, 262141)]
def refTab : List (Int × Int) := [(0, 0), (32, 1), (127, 0), (160, 1), (768, 0), (880, 1), (4352, 2), (4448, 1), (8203, 0), (8208, 1), (11904, 2), (12351, 1), (12353, 2), (19904, 1), (19968, 2), (42192, 1), (44032, 2), (55204, 1), (63744, 2), (64256, 1), (65024, 0), (65040, 1), (65072, 2), (65136, 1), (65280, 2), (65377, 1), (65504, 2), (65511, 1), (127744, 2), (128592, 1), (129280, 2), (129536, 1), (131072, 2), (262142, 1)]
def isRune (n : Int) : Bool := decide ((0 ≤ n ∧ n ≤ 55295) ∨ (57344 ≤ n ∧ n ≤ 1114111))
def widthOf (n : Int) : Int := if n < 0 ∨ 1114111 < n ∨ inTab n noneTab = true then 0 else if inTab n twoTab = true then 2 else 1
def refTo (n : Int) (k : Nat) : Int := (refTab.take k).foldl (fun w x => if x.1 ≤ n then x.2 else w) 0
def refWidth (n : Int) : Int := if isRune n = true then refTo n 34 else 0
theorem widthOf_bd (n : Int) : 0 ≤ widthOf n ∧ widthOf n ≤ 2 := by unfold widthOf; split <;> (try split) <;> omega

def tabParts (l : List (Int × Int)) : List (Nat × Value) := l.zipIdx.map fun (x, i) => (i, .agg #[.int .i64 x.1, .int .i64 x.2])
def tabCells (l : List (Int × Int)) : Array Value := (flat2 l).toArray
theorem tabCells_toList (l : List (Int × Int)) : (tabCells l).toList = flat2 l := rfl

set_option maxRecDepth 100000 in
theorem isRune_any (n : Int) (w : World) :
    Calls Tryd.prog 68 #[.int .i64 n] w fun e w' => e = .returned (.bool (isRune n)) ∧ w = w' := by
  by_cases h1 : 0 ≤ n ∧ n ≤ 55295
  · have Hfin : Hid (isRune n = true) := by unfold Hid isRune; simp; omega
    go_enter Tryd.func68, Tryd.ntmps68
    go_wp2_with (go_at_call 59; refine (between_t _ _ _ _ (by omega)).mono ?_; rintro e w' ⟨rfl, rfl⟩)
    go_ret
    exact ⟨ret_bool Hfin.out.symm, rfl⟩
  · by_cases h2 : 57344 ≤ n ∧ n ≤ 1114111
    · have Hfin : Hid (isRune n = true) := by unfold Hid isRune; simp; omega
      go_enter Tryd.func68, Tryd.ntmps68
      go_wp2_with (go_at_call 59; (first | refine (between_t _ _ _ _ (by omega)).mono ?_ | refine (between_f _ _ _ _ (by omega)).mono ?_); rintro e w' ⟨rfl, rfl⟩)
      go_ret
      exact ⟨ret_bool Hfin.out.symm, rfl⟩
    · have Hfin : Hid (isRune n = false) := by unfold Hid isRune; simp; omega
      go_enter Tryd.func68, Tryd.ntmps68
      go_wp2_with (go_at_call 59; (first | refine (between_t _ _ _ _ (by omega)).mono ?_ | refine (between_f _ _ _ _ (by omega)).mono ?_); rintro e w' ⟨rfl, rfl⟩)
      go_ret
      exact ⟨ret_bool Hfin.out.symm, rfl⟩

end Go.Proofs.YteicfkhaaeoheaaDoor
