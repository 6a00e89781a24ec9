/- The sums of widths on both sides. -/
import Derived.Test.YtpgmdjdnmipmbaaWidthRef
namespace Go.Proofs.Ytpgmdjdnmipmbaa
open Go.RowKit Go.Fw

theorem refWidth_bd (n : Int) : 0 ≤ refWidth n ∧ refWidth n ≤ 2 := by
  unfold refWidth refTo
  split
  · have : ∀ (l : List (Int × Int)) (w : Int), (∀ x ∈ l, 0 ≤ x.2 ∧ x.2 ≤ 2) → 0 ≤ w ∧ w ≤ 2 → 0 ≤ l.foldl (fun w x => if x.1 ≤ n then x.2 else w) w ∧ l.foldl (fun w x => if x.1 ≤ n then x.2 else w) w ≤ 2 := by
      intro l
      induction l with
      | nil => intro w _ h; exact h
      | cons x l ih =>
        intro w hl h
        rw [List.foldl_cons]
        refine ih _ (fun y hy => hl y (by simp [hy])) ?_
        have := hl x (by simp)
        split <;> omega
    exact this _ _ (by decide) (by omega)
  · omega
def refWidths (l : List Int) : Int := (l.map refWidth).sum
theorem refWidths_succ (l : List Int) (k : Nat) (hk : k < l.length) : refWidths (l.take (k + 1)) = refWidths (l.take k) + refWidth (l.getD k 0) := by
  unfold refWidths
  rw [List.take_succ_eq_append_getElem hk]
  rw [List.map_append, List.sum_append]
  simp only [List.map_cons, List.map_nil, List.sum_cons, List.sum_nil, List.getD, List.getElem?_eq_getElem hk, Option.getD_some, Int.add_zero]
theorem refWidths_bd (l : List Int) : 0 ≤ refWidths l ∧ refWidths l ≤ 2 * l.length := by
  unfold refWidths
  induction l with
  | nil => simp
  | cons x l ih => have := refWidth_bd x; simp only [List.map_cons, List.sum_cons, List.length_cons]; omega
set_option maxRecDepth 100000 in
set_option maxHeartbeats 400000 in
theorem refWidths_any (l : List Int) (a : Option Addr) (m c : Nat) (w : World) (hm : m = l.length) (hl : m ≤ 140737488355328) (h : At w a (ints l)) :
    Calls Try.prog 50 #[.slice a m c] w fun e w' => e = .returned (.int .i64 (refWidths l)) ∧ Below w.heap.size w w' := by
  have Hm := Lib.hid hm
  clear hm
  go_enter Try.func50, Try.ntmps50
  go_wp2
  go_loopw [3, 8] (fun v i wr => ∃ k : Nat, k ≤ m ∧ i = .int .i64 k ∧ v = .int .i64 (refWidths (l.take k)) ∧ Below w.heap.size w wr) (fun _ i _ => m - (intOf i).toNat)
  case atStart => exact ⟨0, Nat.zero_le _, rfl, by simp [refWidths], Below.refl _ _⟩
  case round =>
    obtain ⟨k, hk, rfl, rfl, hbl⟩ := hrel
    by_cases hlt : k < m
    · obtain ⟨b, o, ha, hb, hc⟩ := h.int (i := k) (by rw [← Hm.out]; exact hlt)
      rw [ha]
      have hx := (hbl.cell (p := ⟨b, o + k, none⟩) hb).trans (hc k (by rw [← Hm.out]; exact hlt))
      clear hc ha
      obtain ⟨x, hX⟩ : ∃ x, x = l.getD k 0 := ⟨_, rfl⟩
      rw [← hX] at hx
      have HX := Lib.hid hX
      clear hX
      have hb0 := refWidths_bd (l.take k)
      have hbx := refWidth_bd x
      have hlk : (l.take k).length ≤ k := List.length_take_le _ _
      go_wp2_with fail
      refine (refWidth_any x _).mono ?_
      rintro e w2 ⟨rfl, hb2⟩
      go_wp2_with fail
      go_roundw
      case rel => exact ⟨k + 1, by omega, by go_num, by rw [refWidths_succ l k (by rw [← Hm.out]; exact hlt), ← HX.out], hbl.trans (hb2.mono hbl.size)⟩
      case measure => simp [intOf]; omega
    · obtain rfl : k = m := by omega
      go_wp2
      go_ret
      exact ⟨ret_int (by rw [List.take_of_length_le (by rw [← Hm.out]; exact Nat.le_refl _)]), hbl⟩

end Go.Proofs.Ytpgmdjdnmipmbaa
