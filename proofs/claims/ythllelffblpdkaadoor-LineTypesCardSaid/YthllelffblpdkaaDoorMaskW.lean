/- Bits of bytes and of words: plain. -/
import Derived.Test.YthllelffblpdkaaDoorSxB
import Derived.Laws.BitsAllLaws
namespace Go.Fw
open Go Go.RowKit Go.Sx
/-- Bits to a byte, the first one the highest: by doubling. -/
def hornB (β : Nat → Bool) : Nat → Int
  | 0 => 0
  | k + 1 => 2 * hornB β k + (if β k = true then 1 else 0)
/-- Bits to a byte, one by one. -/
def chainB (β : Nat → Bool) : Nat → Int
  | 0 => 0
  | k + 1 => if β k = true then ibits .or .u8 (chainB β k) (128 / pw k) else chainB β k
theorem hornB_bd (β : Nat → Bool) : ∀ k, 0 ≤ hornB β k ∧ hornB β k < pw k
  | 0 => by rw [pw_eq]; exact ⟨Int.le_refl 0, show (0 : Int) < 2 ^ 0 by decide⟩
  | k + 1 => by
    have h := hornB_bd β k
    have e : pw (k + 1) = 2 * pw k := by rw [pw_eq, pw_eq, Int.pow_succ, Int.mul_comm]
    unfold hornB
    rw [e]
    split <;> omega
theorem or_low : ∀ k : Fin 8, ∀ h : Fin 128, h.val < 2 ^ k.val → ((h.val * 2 ^ (8 - k.val)) ||| (128 / 2 ^ k.val)) = (2 * h.val + 1) * 2 ^ (7 - k.val) := by decide +kernel
theorem u8_or_nat {p q : Nat} (hp : p < 256) (hq : q < 256) : ibits .or .u8 (p : Int) (q : Int) = ((p ||| q : Nat) : Int) := by
  rw [ibits_eq]
  unfold bits
  show IntKind.u8.wrap (((BitVec.ofInt 8 (p : Int)) ||| (BitVec.ofInt 8 (q : Int))).toNat : Int) = _
  rw [BitVec.toNat_or, ofInt_u8 p hp, ofInt_u8 q hq]
  have : p ||| q < 2 ^ 8 := Nat.or_lt_two_pow hp hq
  exact IntWalk.u8_in _ (by omega)
theorem pw_nat (k : Nat) : pw k = ((2 ^ k : Nat) : Int) := by rw [pw_eq]; simp
theorem chain_horn (β : Nat → Bool) : ∀ k, k ≤ 8 → chainB β k = hornB β k * pw (8 - k)
  | 0, _ => by show (0 : Int) = 0 * _; rw [Int.zero_mul]
  | k + 1, hk => by
    have ih := chain_horn β k (by omega)
    have hb := hornB_bd β k
    have e : pw (8 - k) = 2 * pw (8 - (k + 1)) := by
      rw [show 8 - k = (8 - (k + 1)) + 1 from by omega, pw_eq, pw_eq, Int.pow_succ, Int.mul_comm]
    show (if β k = true then ibits .or .u8 (chainB β k) (128 / pw k) else chainB β k) = (2 * hornB β k + (if β k = true then 1 else 0)) * pw (8 - (k + 1))
    split
    · obtain ⟨h, hh⟩ := Int.eq_ofNat_of_zero_le hb.1
      rw [ih, hh]
      rw [hh, pw_nat] at hb
      have hlt : h < 2 ^ k := by omega
      have h128 : 2 ^ k ≤ 128 := by
        have : 2 ^ k ≤ 2 ^ 7 := Nat.pow_le_pow_right (by omega) (by omega)
        omega
      have ho := or_low ⟨k, by omega⟩ ⟨h, by omega⟩ hlt
      simp only at ho
      have e1 : (h : Int) * pw (8 - k) = ((h * 2 ^ (8 - k) : Nat) : Int) := by rw [pw_nat]; simp
      have e2 : (128 : Int) / pw k = ((128 / 2 ^ k : Nat) : Int) := by rw [pw_nat]; simp
      have hm : h * 2 ^ (8 - k) < 256 := by
        have h1 : h * 2 ^ (8 - k) < 2 ^ k * 2 ^ (8 - k) := Nat.mul_lt_mul_of_pos_right hlt (Nat.two_pow_pos _)
        rw [← Nat.pow_add, show k + (8 - k) = 8 from by omega] at h1
        exact h1
      have h2 : 128 / 2 ^ k < 256 := by
        have := Nat.div_le_self 128 (2 ^ k)
        omega
      rw [e1, e2, u8_or_nat hm h2, ho, pw_nat]
      rw [show 8 - (k + 1) = 7 - k from by omega]
      simp
    · rw [ih, e, Int.add_zero, Int.mul_left_comm, Int.mul_assoc]
theorem chain_8 (β : Nat → Bool) : chainB β 8 = hornB β 8 := by
  rw [chain_horn β 8 (by omega), show 8 - 8 = 0 from rfl, pw_eq]
  simp
theorem chain_bd (β : Nat → Bool) (k : Nat) (hk : k ≤ 8) : 0 ≤ chainB β k ∧ chainB β k ≤ 255 := by
  have hb := hornB_bd β k
  rw [chain_horn β k hk]
  have hp := pw_pos (8 - k)
  have e : pw k * pw (8 - k) = 256 := by
    rw [pw_eq, pw_eq, ← Int.pow_add, show k + (8 - k) = 8 from by omega]; rfl
  refine ⟨Int.mul_nonneg hb.1 (Int.le_of_lt hp), ?_⟩
  have : hornB β k * pw (8 - k) < pw k * pw (8 - k) := Int.mul_lt_mul_of_pos_right hb.2 hp
  omega
/-- Bits to a word, the first one the lowest. -/
def wordB (β : Nat → Bool) : Nat → Int
  | 0 => 0
  | k + 1 => if β k = true then wordB β k + pw k else wordB β k
theorem wordB_bd (β : Nat → Bool) : ∀ k, 0 ≤ wordB β k ∧ wordB β k < pw k
  | 0 => by rw [pw_eq]; exact ⟨Int.le_refl 0, show (0 : Int) < 2 ^ 0 by decide⟩
  | k + 1 => by
    have h := wordB_bd β k
    have e : pw (k + 1) = 2 * pw k := by rw [pw_eq, pw_eq, Int.pow_succ, Int.mul_comm]
    unfold wordB
    rw [e]
    split <;> omega
theorem u64_or_new (β : Nat → Bool) (k : Nat) (hk : k ≤ 63) : ibits .or .u64 (wordB β k) (pw k) = wordB β k + pw k := by
  have hb := wordB_bd β k
  have h63 := pw_63 hk
  obtain ⟨h, hh⟩ := Int.eq_ofNat_of_zero_le hb.1
  rw [hh] at hb ⊢
  rw [pw_nat] at hb h63 ⊢
  have hlt : h < 2 ^ k := by omega
  rw [ibits_eq]
  unfold bits
  show IntKind.u64.wrap (((BitVec.ofInt 64 (h : Int)) ||| (BitVec.ofInt 64 ((2 ^ k : Nat) : Int))).toNat : Int) = _
  rw [BitVec.toNat_or, ofInt_u64 h (by omega), ofInt_u64 (2 ^ k) (by omega)]
  have e : h ||| 2 ^ k = h + 2 ^ k := by
    rw [Nat.or_comm, Nat.add_comm]
    have := Nat.two_pow_add_eq_or_of_lt hlt 1
    rw [Nat.mul_one] at this
    exact this.symm
  rw [e]
  rw [show ((h + 2 ^ k : Nat) : Int) = (h : Int) + ((2 ^ k : Nat) : Int) from by simp]
  exact IntWalk.u64_in _ (by omega)
/-- A byte's bit, tested by a mask or by division. -/
theorem byte_bit : ∀ c : Fin 256, ∀ k : Fin 8, (c.val &&& (128 / 2 ^ k.val) = 0) = ¬ (c.val / 2 ^ (7 - k.val) % 2 = 1) := by
  intro c k
  apply propext
  revert c k
  decide +kernel
end Go.Fw
