/- Lines and their rows: plain. -/
import Derived.Test.YtgcnfcgnkfkpeaaCut
import Derived.Test.YtgcnfcgnkfkpeaaSx24
namespace Go.Proofs.Ytgcnfcgnkfkpeaa
open Go Go.RowKit Go.Fw Go.Sx
/-- The rows of a line: what stands in the row so far, and what is to come. -/
def fl (w : Int) : List Int → List Int → List (List Int × Bool)
  | cur, [] => [(cur, false)]
  | cur, c :: r => if w - refWidths cur < refWidth c then (cur, true) :: fl w [c] r else fl w (cur ++ [c]) r
theorem refWidths_snoc (l : List Int) (c : Int) : refWidths (l ++ [c]) = refWidths l + refWidth c := by simp [refWidths]
theorem refWidths_nil : refWidths [] = 0 := rfl
theorem fl_cut {w : Int} (hw : 2 ≤ w) : ∀ (r cur : List Int) (k : Nat), refWidths cur ≤ w → IsCut (cur ++ r) w k → fl w cur r = if k = (cur ++ r).length then [(cur ++ r, false)] else ((cur ++ r).take k, true) :: fl w [] ((cur ++ r).drop k)
  | [], cur, k, hc, hk => by
    have h1 : k = (cur ++ []).length := by
      rcases Nat.lt_or_ge k (cur ++ []).length with h | h
      · have := hk.2.2 (cur ++ []).length h (Nat.le_refl _)
        rw [List.take_length, List.append_nil] at this
        omega
      · have := hk.1
        omega
    rw [if_pos h1, List.append_nil]
    rfl
  | c :: r, cur, k, hc, hk => by
    have ht : (cur ++ c :: r).take cur.length = cur := by simp
    have hg : (cur ++ c :: r).getD cur.length 0 = c := by simp
    by_cases h : w - refWidths cur < refWidth c
    · have e := hk.at (i := cur.length) (by simp) (by rw [ht]; exact hc) (by rw [ht, hg]; omega)
      subst e
      have hb := refWidth_bd c
      rw [if_neg (by simp), ht, List.drop_left]
      show (if w - refWidths cur < refWidth c then (cur, true) :: fl w [c] r else fl w (cur ++ [c]) r) = _
      rw [if_pos h]
      congr 1
      show _ = (if w - refWidths [] < refWidth c then ([], true) :: fl w [c] r else fl w ([] ++ [c]) r)
      rw [refWidths_nil, if_neg (by omega)]
      rfl
    · have e : cur ++ c :: r = (cur ++ [c]) ++ r := by simp
      rw [e] at hk ⊢
      rw [← fl_cut hw r (cur ++ [c]) k (by rw [refWidths_snoc]; omega) hk]
      show (if w - refWidths cur < refWidth c then (cur, true) :: fl w [c] r else fl w (cur ++ [c]) r) = _
      rw [if_neg h]
theorem fl_step {w : Int} (hw : 2 ≤ w) {l : List Int} {k : Nat} (hk : IsCut l w k) : fl w [] l = if k = l.length then [(l, false)] else (l.take k, true) :: fl w [] (l.drop k) := fl_cut hw l [] k (by rw [refWidths_nil]; omega) hk
theorem cut_pos {w : Int} (hw : 2 ≤ w) {l : List Int} {k : Nat} (hk : IsCut l w k) (hl : 0 < l.length) : 0 < k := by
  rcases Nat.eq_zero_or_pos k with h | h
  · subst h
    exfalso
    have h1 := hk.2.2 1 (by omega) hl
    match l, hl with
    | c :: r, _ =>
      have hb := refWidth_bd c
      simp only [List.take_succ_cons, List.take_zero] at h1
      have : refWidths [c] = refWidth c := by simp [refWidths]
      omega
  · exact h
theorem fl_len (w : Int) : ∀ (r cur : List Int), (fl w cur r).length ≤ r.length + 1
  | [], cur => Nat.le_refl _
  | c :: r, cur => by
    show (if w - refWidths cur < refWidth c then (cur, true) :: fl w [c] r else fl w (cur ++ [c]) r).length ≤ _
    split
    · have := fl_len w r [c]
      simp only [List.length_cons]
      omega
    · have := fl_len w r (cur ++ [c])
      simp only [List.length_cons]
      omega
def flow (w : Int) (ls : List (List Int)) : List (List Int × Bool) := ls.flatMap (fl w [])
def lens (ls : List (List Int)) : Nat := (ls.map (·.length)).sum
theorem lens_snoc (ls : List (List Int)) (l : List Int) : lens (ls ++ [l]) = lens ls + l.length := by simp [lens]
theorem flow_len (w : Int) : ∀ ls : List (List Int), (flow w ls).length ≤ lens ls + ls.length
  | [] => Nat.le_refl _
  | l :: ls => by
    have h1 := fl_len w l []
    have h2 := flow_len w ls
    have e : flow w (l :: ls) = fl w [] l ++ flow w ls := rfl
    have e2 : lens (l :: ls) = l.length + lens ls := by simp [lens]
    rw [e, e2, List.length_append, List.length_cons]
    omega
theorem flow_snoc (w : Int) (ls : List (List Int)) (l : List Int) : flow w (ls ++ [l]) = flow w ls ++ fl w [] l := by simp [flow]
theorem lens_take {ls : List (List Int)} {k : Nat} : lens (ls.take k) ≤ lens ls := by
  have : lens ls = lens (ls.take k) + lens (ls.drop k) := by
    unfold lens
    rw [← List.sum_append, ← List.map_append, List.take_append_drop]
  omega
theorem lens_mem {ls : List (List Int)} {l : List Int} (h : l ∈ ls) : l.length ≤ lens ls := by
  obtain ⟨k, hk⟩ := List.mem_iff_getElem?.1 h
  have := lens_take (ls := ls) (k := k + 1)
  rw [take_snoc hk, lens_snoc] at this
  omega
/-- The lines of rows: the line so far, and the rows to come. -/
def un : List Int → List (List Int × Bool) → List (List Int)
  | _, [] => []
  | cur, (r, s) :: rs => if s then un (cur ++ r) rs else (cur ++ r) :: un [] rs
end Go.Proofs.Ytgcnfcgnkfkpeaa
