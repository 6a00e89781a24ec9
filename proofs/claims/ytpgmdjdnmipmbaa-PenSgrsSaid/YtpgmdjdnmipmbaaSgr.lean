/- What a run of numbers makes of a pen: plain. -/
import Derived.Test.YtpgmdjdnmipmbaaSx20
import Derived.Test.YtpgmdjdnmipmbaaPen
namespace Go.Fw
open Go Go.RowKit Go.Sx
abbrev Tri := Int × Int × Int
def flagI (n : Int) : Int := [0, 1, 2, 4, 8, 16, 0, 32, 64, 128].getD n.toNat 0
/-- One number. -/
def oneP (t : Tri) (n : Int) : Tri :=
  if n = 0 then (0, 0, 0)
  else if n ≤ 9 then (ior t.1 (flagI n), t.2.1, t.2.2)
  else if n = 22 then (iclr t.1 3, t.2.1, t.2.2)
  else if 23 ≤ n ∧ n ≤ 29 then (iclr t.1 (flagI (n - 20)), t.2.1, t.2.2)
  else if 30 ≤ n ∧ n ≤ 37 then (t.1, n - 29, t.2.2)
  else if n = 39 then (t.1, 0, t.2.2)
  else if 90 ≤ n ∧ n ≤ 97 then (t.1, n - 81, t.2.2)
  else if 40 ≤ n ∧ n ≤ 47 then (t.1, t.2.1, n - 39)
  else if n = 49 then (t.1, t.2.1, 0)
  else if 100 ≤ n ∧ n ≤ 107 then (t.1, t.2.1, n - 91)
  else t
/-- A colour told by several numbers, and how many. -/
def extL (l : List Int) : Int × Nat :=
  if 2 ≤ l.length ∧ l.getD 0 0 = 5 ∧ l.getD 1 0 < 256 then (max (l.getD 1 0) 0 + 1, 2)
  else if 4 ≤ l.length ∧ l.getD 0 0 = 2 ∧ (l.getD 1 0 < 256 ∧ l.getD 2 0 < 256 ∧ l.getD 3 0 < 256) then (16777216 + 65536 * max (l.getD 1 0) 0 + 256 * max (l.getD 2 0) 0 + max (l.getD 3 0) 0, 4)
  else (0, 0)
def setC (t : Tri) (n c : Int) : Tri := if n = 38 then (t.1, c, t.2.2) else (t.1, t.2.1, c)
def sgrF : Nat → Tri → List Int → Tri
  | 0, t, _ => t
  | _ + 1, t, [] => t
  | k + 1, t, a :: r => if max a 0 = 38 ∨ max a 0 = 48 then (if (extL r).2 = 0 then t else sgrF k (setC t (max a 0) (extL r).1) (r.drop (extL r).2)) else sgrF k (oneP t (max a 0)) r
def mxL (l : List Int) : List Int := l.map (max · 0)
theorem mxL_len (l : List Int) : (mxL l).length = l.length := by simp [mxL]
theorem mxL_getD (l : List Int) (k : Nat) : (mxL l).getD k 0 = max (l.getD k 0) 0 := by
  unfold mxL
  simp only [List.getD_eq_getElem?_getD, List.getElem?_map]
  cases l[k]? <;> simp
theorem extL_mx (l : List Int) : extL (mxL l) = extL l := by
  unfold extL
  simp only [mxL_len, mxL_getD]
  have e : ∀ x : Int, max (max x 0) 0 = max x 0 := fun x => by omega
  have e5 : (max (l.getD 0 0) 0 = 5) = (l.getD 0 0 = 5) := by apply propext; omega
  have e2 : (max (l.getD 0 0) 0 = 2) = (l.getD 0 0 = 2) := by apply propext; omega
  have el : ∀ x : Int, (max x 0 < 256) = (x < 256) := fun x => by apply propext; omega
  simp only [e, e5, e2, el]
theorem extL_2 (l : List Int) : (extL l).2 = 0 ∨ (extL l).2 = 2 ∧ 2 ≤ l.length ∨ (extL l).2 = 4 ∧ 4 ≤ l.length := by
  unfold extL
  split
  · exact .inr (.inl ⟨rfl, by omega⟩)
  · split
    · exact .inr (.inr ⟨rfl, by omega⟩)
    · exact .inl rfl
theorem extL_bd (l : List Int) : 0 ≤ (extL l).1 ∧ (extL l).1 ≤ 33554431 := by
  unfold extL
  split
  · dsimp only; omega
  · split
    · dsimp only; omega
    · decide
theorem sgrF_mx : ∀ (k : Nat) (t : Tri) (l : List Int), sgrF k t (mxL l) = sgrF k t l
  | 0, _, _ => rfl
  | _ + 1, _, [] => rfl
  | k + 1, t, a :: r => by
    have e : max (max a 0) 0 = max a 0 := by omega
    show (if max (max a 0) 0 = 38 ∨ max (max a 0) 0 = 48 then (if (extL (mxL r)).2 = 0 then t else sgrF k (setC t (max (max a 0) 0) (extL (mxL r)).1) ((mxL r).drop (extL (mxL r)).2)) else sgrF k (oneP t (max (max a 0) 0)) (mxL r)) = _
    rw [e, extL_mx, sgrF_mx k _ r, show (mxL r).drop (extL r).2 = mxL (r.drop (extL r).2) from by simp [mxL], sgrF_mx k _ _]
    rfl
/-- Enough is enough. -/
theorem sgrF_more : ∀ (k j : Nat) (t : Tri) (l : List Int), l.length ≤ k → sgrF (k + j) t l = sgrF k t l
  | 0, j, t, l, h => by
    obtain rfl : l = [] := List.eq_nil_of_length_eq_zero (by omega)
    cases j <;> rfl
  | k + 1, j, t, [], _ => by
    rw [show k + 1 + j = (k + j) + 1 from by omega]
    rfl
  | k + 1, j, t, a :: r, h => by
    have hr : r.length ≤ k := by simpa using h
    rw [show k + 1 + j = (k + j) + 1 from by omega]
    show (if max a 0 = 38 ∨ max a 0 = 48 then (if (extL r).2 = 0 then t else sgrF (k + j) (setC t (max a 0) (extL r).1) (r.drop (extL r).2)) else sgrF (k + j) (oneP t (max a 0)) r) = (if max a 0 = 38 ∨ max a 0 = 48 then (if (extL r).2 = 0 then t else sgrF k (setC t (max a 0) (extL r).1) (r.drop (extL r).2)) else sgrF k (oneP t (max a 0)) r)
    rw [sgrF_more k j _ r hr, sgrF_more k j _ (r.drop _) (by rw [List.length_drop]; omega)]
def sgrL (t : Tri) (l : List Int) : Tri := sgrF l.length t l
theorem sgrL_nil (t : Tri) : sgrL t [] = t := rfl
theorem sgrL_cons (t : Tri) (a : Int) (r : List Int) : sgrL t (a :: r) = if max a 0 = 38 ∨ max a 0 = 48 then (if (extL r).2 = 0 then t else sgrL (setC t (max a 0) (extL r).1) (r.drop (extL r).2)) else sgrL (oneP t (max a 0)) r := by
  unfold sgrL
  show (if max a 0 = 38 ∨ max a 0 = 48 then (if (extL r).2 = 0 then t else sgrF r.length (setC t (max a 0) (extL r).1) (r.drop (extL r).2)) else sgrF r.length (oneP t (max a 0)) r) = _
  rw [show sgrF r.length (setC t (max a 0) (extL r).1) (r.drop (extL r).2) = sgrF (r.drop (extL r).2).length (setC t (max a 0) (extL r).1) (r.drop (extL r).2) from by
    have h := extL_2 r
    have hl : (r.drop (extL r).2).length ≤ r.length := by rw [List.length_drop]; omega
    obtain ⟨j, hj⟩ := Nat.le.dest hl
    rw [← hj, sgrF_more _ _ _ _ (Nat.le_refl _)]]
theorem sgrL_mx (t : Tri) (l : List Int) : sgrL t (mxL l) = sgrL t l := by
  unfold sgrL
  rw [mxL_len, sgrF_mx]
/-- The flags stay flags. -/
def flB (t : Tri) : Prop := 0 ≤ t.1 ∧ t.1 ≤ 255
attribute [irreducible] sgrL
end Go.Fw
