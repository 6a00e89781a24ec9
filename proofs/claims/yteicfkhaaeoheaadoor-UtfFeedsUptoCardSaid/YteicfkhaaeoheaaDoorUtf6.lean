/- UTF-8, from the front: plain. -/
import Derived.Test.YteicfkhaaeoheaaDoorUtf5
import Derived.Shelf.Unicode.DecodeAny
import Derived.Lib.DecodeN
namespace Go.Proofs.YteicfkhaaeoheaaDoor
open Go Go.RowKit Go.Fw Go.Sx
theorem get_nums (s : ByteArray) (k : Nat) (h : k < s.size) : (((s.get! k).toNat : Nat) : Int) = (nums s).getD k 0 := by
  have h2 : k < s.data.size := h
  have e : s.get! k = s.data[k] := by
    cases s with
    | mk d => exact getElem!_pos d k h2
  rw [e]
  unfold nums
  rw [List.getD_eq_getElem?_getD, List.getElem?_map, Array.getElem?_toList, Array.getElem?_eq_getElem h2]
  rfl
theorem val_t2 {L : List Int} (h : 2 ≤ L.length) : valU (L.take 2) = 64 * (L.getD 0 0 % 64) + L.getD 1 0 % 64 := by
  match L, h with
  | a :: b :: r, _ => rfl
theorem val_t3 {L : List Int} (h : 3 ≤ L.length) : valU (L.take 3) = 64 * (64 * (L.getD 0 0 % 32) + L.getD 1 0 % 64) + L.getD 2 0 % 64 := by
  match L, h with
  | a :: b :: c :: r, _ => rfl
theorem val_t4 {L : List Int} (h : 4 ≤ L.length) : valU (L.take 4) = 64 * (64 * (64 * (L.getD 0 0 % 16) + L.getD 1 0 % 64) + L.getD 2 0 % 64) + L.getD 3 0 % 64 := by
  match L, h with
  | a :: b :: c :: d :: r, _ => rfl
theorem dec_whole (s : ByteArray) (h : (longU (nums s)).2 = true) : (((Lib.decodeGo s).1 : Nat) : Int) = valU ((nums s).take (longU (nums s)).1.toNat) := by
  have hl := nums_length s
  have g := get_nums s
  have v2 := val_t2 (L := nums s)
  have v3 := val_t3 (L := nums s)
  have v4 := val_t4 (L := nums s)
  unfold longU at h ⊢
  generalize hn0 : needU ((nums s).getD 0 0) = nu at *
  have hw := needU_ways ((nums s).getD 0 0)
  rw [hn0] at hw
  have g0 := g 0
  have g1 := g 1
  have g2 := g 2
  have g3 := g 3
  rw [hl] at *
  by_cases h1 : nu.1 = 0
  · rw [if_pos h1] at h; cases h
  · rw [if_neg h1] at h ⊢
    by_cases h2 : ¬ (2 ≤ s.size ∧ nu.2.1 ≤ (nums s).getD 1 0 ∧ (nums s).getD 1 0 ≤ nu.2.2)
    · rw [if_pos h2] at h; cases h
    · rw [if_neg h2] at h ⊢
      have h2 := Classical.not_not.1 h2
      have hs0 : ¬ s.size = 0 := by omega
      unfold Lib.decodeGo
      rw [if_neg hs0]
      rw [Lib.decode_at, Nat.sub_zero]
      simp only [Nat.zero_add]
      generalize (s.get! 0).toNat = x0 at *
      generalize (s.get! 1).toNat = x1 at *
      generalize (s.get! 2).toNat = x2 at *
      generalize (s.get! 3).toNat = x3 at *
      by_cases h3 : ¬ (2 ≤ nu.1 ∧ 3 ≤ s.size ∧ 128 ≤ (nums s).getD 2 0 ∧ (nums s).getD 2 0 ≤ 191)
      · rw [if_pos h3] at h ⊢
        rw [show ((2 : Int), decide (nu.1 < 2)).1.toNat = 2 from rfl, v2 (by omega)]
        have h := of_decide_eq_true h
        clear v2 v3 v4 g hn0
        generalize (nums s).getD 0 0 = a at *
        generalize (nums s).getD 1 0 = b at *
        generalize (nums s).getD 2 0 = c at *
        generalize (nums s).getD 3 0 = d at *
        have g0 := g0 (by omega)
        have g1 := g1 (by omega)
        have hw : 194 ≤ a ∧ a ≤ 223 ∧ nu = (1, 128, 191) := by
          rcases hw with ⟨h1, h2, hn⟩ | ⟨h1, hn⟩ | ⟨h1, hn⟩ | ⟨h1, h2, h3, hn⟩ | ⟨h1, hn⟩ | ⟨h1, hn⟩ | ⟨h1, h2, hn⟩ | ⟨h1, hn⟩
          · exact ⟨h1, h2, hn⟩
          all_goals (subst hn; first | exact absurd rfl h1 | (simp only at h h1; omega))
        obtain ⟨hw1, hw2, hn⟩ := hw
        subst hn
        simp only at h2
        clear h3 h h1 g2 g3 hl
        unfold Lib.decodeN
        rw [if_neg (by omega), if_pos (by omega), if_pos (by omega)]
        simp only
        omega
      · rw [if_neg h3] at h ⊢
        have h3 := Classical.not_not.1 h3
        by_cases h4 : ¬ (3 ≤ nu.1 ∧ 4 ≤ s.size ∧ 128 ≤ (nums s).getD 3 0 ∧ (nums s).getD 3 0 ≤ 191)
        · rw [if_pos h4] at h ⊢
          rw [show ((3 : Int), decide (nu.1 < 3)).1.toNat = 3 from rfl, v3 (by omega)]
          have h := of_decide_eq_true h
          clear v2 v3 v4 g hn0
          generalize (nums s).getD 0 0 = a at *
          generalize (nums s).getD 1 0 = b at *
          generalize (nums s).getD 2 0 = c at *
          generalize (nums s).getD 3 0 = d at *
          have g0 := g0 (by omega)
          have g1 := g1 (by omega)
          have g2 := g2 (by omega)
          have hw : 224 ≤ a ∧ a ≤ 239 ∧ 128 ≤ b ∧ b ≤ 191 ∧ (a = 224 → 160 ≤ b) ∧ (a = 237 → b ≤ 159) := by
            rcases hw with ⟨h1, h2, hn⟩ | ⟨h1, hn⟩ | ⟨h1, hn⟩ | ⟨h1, h2, h3, hn⟩ | ⟨h1, hn⟩ | ⟨h1, hn⟩ | ⟨h1, h2, hn⟩ | ⟨h1, hn⟩
            all_goals (subst hn; first | exact absurd rfl h1 | (simp only at h h1 h2 h3; omega))
          clear h4 h h1 g3 hl
          unfold Lib.decodeN
          rw [if_neg (by omega), if_neg (by omega), if_pos (by omega), if_pos (by omega)]
          simp only
          omega
        · rw [if_neg h4] at h ⊢
          have h4 := Classical.not_not.1 h4
          rw [show ((4 : Int), true).1.toNat = 4 from rfl, v4 (by omega)]
          clear v2 v3 v4 g hn0 h
          generalize (nums s).getD 0 0 = a at *
          generalize (nums s).getD 1 0 = b at *
          generalize (nums s).getD 2 0 = c at *
          generalize (nums s).getD 3 0 = d at *
          have g0 := g0 (by omega)
          have g1 := g1 (by omega)
          have g2 := g2 (by omega)
          have g3 := g3 (by omega)
          have hw : 240 ≤ a ∧ a ≤ 244 ∧ 128 ≤ b ∧ b ≤ 191 ∧ (a = 240 → 144 ≤ b) ∧ (a = 244 → b ≤ 143) := by
            rcases hw with ⟨h1, h2, hn⟩ | ⟨h1, hn⟩ | ⟨h1, hn⟩ | ⟨h1, h2, h3, hn⟩ | ⟨h1, hn⟩ | ⟨h1, hn⟩ | ⟨h1, h2, hn⟩ | ⟨h1, hn⟩
            all_goals (subst hn; first | exact absurd rfl h1 | (simp only at h1 h2 h3 h4; omega))
          clear h1 hl
          unfold Lib.decodeN
          rw [if_neg (by omega), if_neg (by omega), if_neg (by omega), if_pos (by omega), if_pos (by omega)]
          simp only
          omega
theorem beg_take (L : List Int) (h : (longU L).2 = false) (k : Nat) (h1 : 1 ≤ k) (h2 : k ≤ L.length) (h3 : k ≤ 3) : begU (L.take k) = decide ((k : Int) ≤ (longU L).1) := by
  refine Bool.eq_iff_iff.2 ?_
  rw [begU_iff _ (fun e => by have := congrArg List.length e; rw [List.length_take, List.length_nil] at this; omega), decide_eq_true_eq]
  unfold partU
  have hk : k = 1 ∨ k = 2 ∨ k = 3 := by omega
  match L, h2 with
  | [], h2 => simp at h2; omega
  | [a], h2 =>
    obtain rfl : k = 1 := by simp at h2; omega
    rcases needU_ways a with ⟨h1, h2, hn⟩ | ⟨h1, hn⟩ | ⟨h1, hn⟩ | ⟨h1, h2, h3, hn⟩ | ⟨h1, hn⟩ | ⟨h1, hn⟩ | ⟨h1, h2, hn⟩ | ⟨h1, hn⟩ <;> simp [longU, hn] at h ⊢
  | [a, b], h2 =>
    have hk : k = 1 ∨ k = 2 := by simp at h2; omega
    rcases hk with rfl | rfl <;> rcases needU_ways a with ⟨h1, h2, hn⟩ | ⟨h1, hn⟩ | ⟨h1, hn⟩ | ⟨h1, h2, h3, hn⟩ | ⟨h1, hn⟩ | ⟨h1, hn⟩ | ⟨h1, h2, hn⟩ | ⟨h1, hn⟩ <;> simp [longU, hn] at h ⊢ <;> (try split) <;> simp_all <;> omega
  | a :: b :: c :: r, h2 =>
    rcases hk with rfl | rfl | rfl <;> rcases needU_ways a with ⟨h1, h2, hn⟩ | ⟨h1, hn⟩ | ⟨h1, hn⟩ | ⟨h1, h2, h3, hn⟩ | ⟨h1, hn⟩ | ⟨h1, hn⟩ | ⟨h1, h2, hn⟩ | ⟨h1, hn⟩ <;> simp [longU, hn] at h ⊢ <;> (repeat' split) <;> simp_all <;> omega
theorem wf_t1 {L : List Int} (h : 1 ≤ L.length) : wfU (L.take 1) = decide (0 ≤ L.getD 0 0 ∧ L.getD 0 0 < 128) := by
  match L, h with
  | a :: r, _ => rfl
theorem wf_t2 {L : List Int} (h : 2 ≤ L.length) : wfU (L.take 2) = decide (194 ≤ L.getD 0 0 ∧ L.getD 0 0 ≤ 223 ∧ 128 ≤ L.getD 1 0 ∧ L.getD 1 0 ≤ 191) := by
  match L, h with
  | a :: b :: r, _ => rfl
theorem wf_t3 {L : List Int} (h : 3 ≤ L.length) : wfU (L.take 3) = decide (224 ≤ L.getD 0 0 ∧ L.getD 0 0 ≤ 239 ∧ 128 ≤ L.getD 1 0 ∧ L.getD 1 0 ≤ 191 ∧ 128 ≤ L.getD 2 0 ∧ L.getD 2 0 ≤ 191 ∧ (L.getD 0 0 = 224 → 160 ≤ L.getD 1 0) ∧ (L.getD 0 0 = 237 → L.getD 1 0 ≤ 159)) := by
  match L, h with
  | a :: b :: c :: r, _ => rfl
theorem wf_t4 {L : List Int} (h : 4 ≤ L.length) : wfU (L.take 4) = decide (240 ≤ L.getD 0 0 ∧ L.getD 0 0 ≤ 244 ∧ 128 ≤ L.getD 1 0 ∧ L.getD 1 0 ≤ 191 ∧ 128 ≤ L.getD 2 0 ∧ L.getD 2 0 ≤ 191 ∧ 128 ≤ L.getD 3 0 ∧ L.getD 3 0 ≤ 191 ∧ (L.getD 0 0 = 240 → 144 ≤ L.getD 1 0) ∧ (L.getD 0 0 = 244 → L.getD 1 0 ≤ 143)) := by
  match L, h with
  | a :: b :: c :: d :: r, _ => rfl
theorem wf_low (L : List Int) (h00 : 0 ≤ L.getD 0 0) (h0 : L.getD 0 0 < 128) (k : Nat) (h1 : 1 ≤ k) (h2 : k ≤ L.length) (h4 : k ≤ 4) : wfU (L.take k) = decide (k = 1) := by
  have hk : k = 1 ∨ k = 2 ∨ k = 3 ∨ k = 4 := by omega
  rcases hk with rfl | rfl | rfl | rfl
  · rw [wf_t1 h2]; exact decide_eq_true ⟨h00, h0⟩
  · rw [wf_t2 h2]; exact decide_eq_false (by omega)
  · rw [wf_t3 h2]; exact decide_eq_false (by omega)
  · rw [wf_t4 h2]; exact decide_eq_false (by omega)
theorem wf_high (L : List Int) (h0 : ¬ L.getD 0 0 < 128) (k : Nat) (h1 : 1 ≤ k) (h2 : k ≤ L.length) (h4 : k ≤ 4) : wfU (L.take k) = ((longU L).2 && decide ((k : Int) = (longU L).1)) := by
  have hk : k = 1 ∨ k = 2 ∨ k = 3 ∨ k = 4 := by omega
  unfold longU
  generalize hn0 : needU (L.getD 0 0) = nu
  have hw := needU_ways (L.getD 0 0)
  rw [hn0] at hw
  refine Bool.eq_iff_iff.2 ?_
  rcases hk with rfl | rfl | rfl | rfl
  · rw [wf_t1 h2, decide_eq_true_eq]
    generalize L.getD 0 0 = a at *
    generalize L.getD 1 0 = b at *
    generalize L.getD 2 0 = c at *
    generalize L.getD 3 0 = d at *
    rcases hw with ⟨h1, h2, hn⟩ | ⟨h1, hn⟩ | ⟨h1, hn⟩ | ⟨h1, h2, h3, hn⟩ | ⟨h1, hn⟩ | ⟨h1, hn⟩ | ⟨h1, h2, hn⟩ | ⟨h1, hn⟩ <;> subst hn <;> simp only at * <;> (repeat' split) <;> first | (simp; done) | (simp; omega) | omega | (simp_all; done) | (simp_all; omega)
  · rw [wf_t2 h2, decide_eq_true_eq]
    generalize L.getD 0 0 = a at *
    generalize L.getD 1 0 = b at *
    generalize L.getD 2 0 = c at *
    generalize L.getD 3 0 = d at *
    rcases hw with ⟨h1, h2, hn⟩ | ⟨h1, hn⟩ | ⟨h1, hn⟩ | ⟨h1, h2, h3, hn⟩ | ⟨h1, hn⟩ | ⟨h1, hn⟩ | ⟨h1, h2, hn⟩ | ⟨h1, hn⟩ <;> subst hn <;> simp only at * <;> (repeat' split) <;> first | (simp; done) | (simp; omega) | omega | (simp_all; done) | (simp_all; omega)
  · rw [wf_t3 h2, decide_eq_true_eq]
    generalize L.getD 0 0 = a at *
    generalize L.getD 1 0 = b at *
    generalize L.getD 2 0 = c at *
    generalize L.getD 3 0 = d at *
    rcases hw with ⟨h1, h2, hn⟩ | ⟨h1, hn⟩ | ⟨h1, hn⟩ | ⟨h1, h2, h3, hn⟩ | ⟨h1, hn⟩ | ⟨h1, hn⟩ | ⟨h1, h2, hn⟩ | ⟨h1, hn⟩ <;> subst hn <;> simp only at * <;> (repeat' split) <;> first | (simp; done) | (simp; omega) | omega | (simp_all; done) | (simp_all; omega)
  · rw [wf_t4 h2, decide_eq_true_eq]
    generalize L.getD 0 0 = a at *
    generalize L.getD 1 0 = b at *
    generalize L.getD 2 0 = c at *
    generalize L.getD 3 0 = d at *
    rcases hw with ⟨h1, h2, hn⟩ | ⟨h1, hn⟩ | ⟨h1, hn⟩ | ⟨h1, h2, h3, hn⟩ | ⟨h1, hn⟩ | ⟨h1, hn⟩ | ⟨h1, h2, hn⟩ | ⟨h1, hn⟩ <;> subst hn <;> simp only at * <;> (repeat' split) <;> first | (simp; done) | (simp; omega) | omega | (simp_all; done) | (simp_all; omega)
theorem long_bound (L : List Int) (h : L ≠ []) : 0 ≤ (longU L).1 ∧ (longU L).1 ≤ 4 ∧ (longU L).1 ≤ L.length ∧ ((longU L).2 = true → 2 ≤ (longU L).1) ∧ ((longU L).2 = false → (longU L).1 ≤ 3) := by
  have hl : 1 ≤ L.length := by cases L; exact absurd rfl h; simp
  unfold longU
  split
  · simp
  · split
    · simp; omega
    · rename_i _ h2
      have h2 := Classical.not_not.1 h2
      split
      · simp; omega
      · rename_i h3
        have h3 := Classical.not_not.1 h3
        split
        · simp; omega
        · rename_i h4
          have h4 := Classical.not_not.1 h4
          simp; omega
end Go.Proofs.YteicfkhaaeoheaaDoor
