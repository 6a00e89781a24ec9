/- Flags, bit by bit: the two ways to tell which are lost and which are new. -/
import Derived.Test.YtkbkppoefgojaaaPen2
namespace Go.Proofs.Ytkbkppoefgojaaa
open Go Go.RowKit Go.Fw Go.Sx
theorem bit_lt (a b : Nat) : a % 2 < b % 2 ↔ a % 2 = 0 ∧ b % 2 = 1 := by omega
theorem clr_bit (f t i : Nat) (ht : t < 2 ^ 64) : (f &&& (18446744073709551615 - t)).testBit i = (f.testBit i && (decide (i < 64) && !t.testBit i)) := by
  have h := Nat.testBit_two_pow_sub_succ ht i
  rw [show (18446744073709551615 : Nat) - t = 2 ^ 64 - (t + 1) from by omega, Nat.testBit_and, h]
theorem clr_ne (f t : Nat) (hf : f < 256) (ht : t < 256) : ¬ (f &&& (18446744073709551615 - t)) = 0 ↔ ∃ j, j < 8 ∧ t / 2 ^ j % 2 < f / 2 ^ j % 2 := by
  constructor
  · intro h
    obtain ⟨i, hi⟩ := Nat.exists_testBit_of_ne_zero h
    rw [clr_bit f t i (by omega)] at hi
    simp only [Bool.and_eq_true, Bool.not_eq_true', decide_eq_true_eq] at hi
    obtain ⟨h1, h2, h3⟩ := hi
    have h8 : i < 8 := by
      rcases Nat.lt_or_ge i 8 with h | h
      · exact h
      · have : f < 2 ^ i := Nat.lt_of_lt_of_le hf (by have := Nat.pow_le_pow_right (n := 2) (by omega) h; omega)
        rw [Nat.testBit_lt_two_pow this] at h1
        cases h1
    refine ⟨i, h8, ?_⟩
    rw [Nat.testBit_eq_decide_div_mod_eq, decide_eq_true_eq] at h1
    rw [Nat.testBit_eq_decide_div_mod_eq, decide_eq_false_iff_not] at h3
    omega
  · rintro ⟨j, hj, hlt⟩ h0
    have h := clr_bit f t j (by omega)
    rw [h0, Nat.zero_testBit, Nat.testBit_eq_decide_div_mod_eq, Nat.testBit_eq_decide_div_mod_eq] at h
    have h1 : f / 2 ^ j % 2 = 1 := by omega
    have h2 : ¬ t / 2 ^ j % 2 = 1 := by omega
    simp [h1, h2] at h
    omega
theorem new_ne (g t j : Nat) (ht : t < 256) (hg : g < 256) (hj : j < 8) : ¬ ((2 ^ j &&& t) &&& (18446744073709551615 - g)) = 0 ↔ g / 2 ^ j % 2 < t / 2 ^ j % 2 := by
  rw [Nat.and_comm (2 ^ j) t, nat_bit]
  rcases Nat.mod_two_eq_zero_or_one (t / 2 ^ j) with h | h
  · rw [h]; simp
  · rw [h, Nat.one_mul]
    constructor
    · intro hne
      obtain ⟨i, hi⟩ := Nat.exists_testBit_of_ne_zero hne
      rw [clr_bit _ g i (by omega)] at hi
      simp only [Bool.and_eq_true, Bool.not_eq_true', decide_eq_true_eq, Nat.testBit_two_pow] at hi
      obtain ⟨rfl, h2, h3⟩ := hi
      rw [Nat.testBit_eq_decide_div_mod_eq, decide_eq_false_iff_not] at h3
      omega
    · intro hlt h0
      have h' := clr_bit (2 ^ j) g j (by omega)
      rw [h0, Nat.zero_testBit, Nat.testBit_eq_decide_div_mod_eq (x := g)] at h'
      have h2 : ¬ g / 2 ^ j % 2 = 1 := by omega
      simp [h2] at h'
      omega
theorem two_div (f : Int) (j : Nat) (h0 : 0 ≤ f) : f / two j % 2 = ((f.toNat / 2 ^ j % 2 : Nat) : Int) := by
  obtain ⟨m, rfl⟩ := Int.eq_ofNat_of_zero_le h0
  unfold two
  rw [Int.toNat_natCast, Int.toNat_natCast]
  rfl
def fewB (f t : Int) (k : Nat) : Bool := (List.range k).any fun j : Nat => decide (f / two j % 2 > t / two j % 2)
theorem fewB_succ (f t : Int) (k : Nat) : fewB f t (k + 1) = (fewB f t k || decide (f / two k % 2 > t / two k % 2)) := by
  unfold fewB; rw [List.range_succ, List.any_append]; simp
theorem fewB_8 (f t : Int) (h1 : 0 ≤ f ∧ f ≤ 255) (h2 : 0 ≤ t ∧ t ≤ 255) : fewB f t 8 = true ↔ ¬ iclr f t = 0 := by
  have h := clr_ne f.toNat t.toNat (by omega) (by omega)
  rw [iclr_eq]
  unfold fewB
  rw [List.any_eq_true]
  constructor
  · rintro ⟨j, hj, hd⟩
    rw [List.mem_range] at hj
    rw [decide_eq_true_eq, two_div f j h1.1, two_div t j h2.1] at hd
    have := h.2 ⟨j, hj, by omega⟩
    omega
  · intro hne
    obtain ⟨j, hj, hd⟩ := h.1 (by omega)
    refine ⟨j, List.mem_range.2 hj, ?_⟩
    rw [decide_eq_true_eq, two_div f j h1.1, two_div t j h2.1]
    omega
def flagN (j : Nat) : Nat := [1, 2, 3, 4, 5, 7, 8, 9].getD j 0
def flagsR (g t : Int) (k : Nat) : List Int := (List.range k).flatMap fun j : Nat => if g / two j % 2 < t / two j % 2 then [(flagN j : Int)] else []
theorem flagsR_succ (g t : Int) (k : Nat) : flagsR g t (k + 1) = flagsR g t k ++ if g / two k % 2 < t / two k % 2 then [(flagN k : Int)] else [] := by
  unfold flagsR; rw [List.range_succ, List.flatMap_append]; simp
theorem flagsR_len (g t : Int) (k : Nat) : (flagsR g t k).length ≤ k := by
  induction k with
  | zero => simp [flagsR]
  | succ k ih => rw [flagsR_succ, List.length_append]; split <;> simp <;> omega
theorem flagT_bit (g t : Int) (h1 : 0 ≤ g ∧ g ≤ 255) (h2 : 0 ≤ t ∧ t ≤ 255) (j n : Nat) (hj : j < 8) (hn : flagAt n = 2 ^ j) : flagT g t n = decide (g / two j % 2 < t / two j % 2) := by
  unfold flagT
  rw [decide_eq_decide, iclr_eq, iand_eq, hn, two_div g j h1.1, two_div t j h2.1]
  have := new_ne g.toNat t.toNat j (by omega) (by omega) hj
  rw [Int.toNat_natCast, Int.toNat_natCast]
  omega
theorem flags_same (g t : Int) (h1 : 0 ≤ g ∧ g ≤ 255) (h2 : 0 ≤ t ∧ t ≤ 255) : flagsR g t 8 = flagsL g t 10 := by
  have e6 : flagT g t 6 = false := by
    unfold flagT
    rw [decide_eq_false_iff_not, iclr_eq, iand_eq]
    simp [flagAt]
  have e := fun j n hj hn => flagT_bit g t h1 h2 j n hj hn
  have b1 := e 0 1 (by decide) rfl
  have b2 := e 1 2 (by decide) rfl
  have b3 := e 2 3 (by decide) rfl
  have b4 := e 3 4 (by decide) rfl
  have b5 := e 4 5 (by decide) rfl
  have b7 := e 5 7 (by decide) rfl
  have b8 := e 6 8 (by decide) rfl
  have b9 := e 7 9 (by decide) rfl
  have s := fun k hk => flagsL_succ g t k hk
  rw [s 9 (by decide), s 8 (by decide), s 7 (by decide), s 6 (by decide), s 5 (by decide), s 4 (by decide), s 3 (by decide), s 2 (by decide), s 1 (by decide), flagsL_one, b1, b2, b3, b4, b5, e6, b7, b8, b9]
  rw [flagsR_succ, flagsR_succ, flagsR_succ, flagsR_succ, flagsR_succ, flagsR_succ, flagsR_succ, flagsR_succ]
  simp only [flagsR, List.range_zero, List.flatMap_nil, decide_eq_true_eq, Bool.false_eq_true, if_false, List.append_nil]
  rfl
end Go.Proofs.Ytkbkppoefgojaaa
