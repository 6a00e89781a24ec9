/- Small letters and others: plain. -/
import Derived.Lib.Replace
namespace Go.Fw
open Go
/-- A byte as choice.upper leaves it. -/
def upI (x : Int) : Int := if 97 ≤ x ∧ x ≤ 122 then x - 32 else x
theorem up_like (x y : Int) : (x ≠ y ∧ (max x y - min x y ≠ 32 ∨ ¬ (97 ≤ max x y ∧ max x y ≤ 122))) ↔ ¬ upI x = upI y := by
  unfold upI
  constructor
  · intro h
    split <;> split <;> omega
  · intro h
    split at h <;> split at h <;> omega
theorem upI_bd {x : Int} (h : 0 ≤ x ∧ x ≤ 255) : 0 ≤ upI x ∧ upI x ≤ 255 := by
  unfold upI
  split <;> omega
/-- Two lists that are equal but for the case of letters, place by place. -/
theorem like_iff {a b : List Int} (hl : a.length = b.length) : a.map upI = b.map upI ↔ ∀ i, i < a.length → upI (a.getD i 0) = upI (b.getD i 0) := by
  constructor
  · intro h i hi
    have h2 := congrArg (fun l => l[i]?) h
    simp only [List.getElem?_map] at h2
    rw [List.getElem?_eq_getElem hi, List.getElem?_eq_getElem (by omega)] at h2
    rw [List.getD_eq_getElem?_getD, List.getD_eq_getElem?_getD, List.getElem?_eq_getElem hi, List.getElem?_eq_getElem (by omega)]
    exact Option.some.inj h2
  · intro h
    apply List.ext_getElem
    · simp [hl]
    · intro i h1 h2
      rw [List.length_map] at h1 h2
      have h3 := h i h1
      rw [List.getD_eq_getElem?_getD, List.getD_eq_getElem?_getD, List.getElem?_eq_getElem h1, List.getElem?_eq_getElem (by omega)] at h3
      simpa using h3
end Go.Fw
