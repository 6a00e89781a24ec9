/- Sets of columns as four words: a column set or cleared. Plain. -/
import Derived.Test.YteicfkhaaeoheaaMask
import Derived.Test.YteicfkhaaeoheaaSx28
import Derived.Laws.BitsAllLaws
namespace Go.Fw
open Go Go.RowKit Go.Sx
theorem u64_clr (a b : Nat) (h1 : a < 18446744073709551616) (h3 : b < 18446744073709551616) : bits .andNot .u64 (a : Int) (b : Int) = ((a &&& (18446744073709551615 - b) : Nat) : Int) := by
  have hm : (BitVec.ofInt 64 (a : Int)).toNat = a := ofInt_u64 a h1
  have hk : (BitVec.ofInt 64 (b : Int)).toNat = b := ofInt_u64 b h3
  have hlt : a &&& (18446744073709551615 - b) ≤ a := Nat.and_le_left
  unfold bits
  show IntKind.u64.wrap (((BitVec.ofInt 64 (a : Int)) &&& ~~~ (BitVec.ofInt 64 (b : Int))).toNat : Int) = _
  rw [BitVec.toNat_and, BitVec.toNat_not, hm, hk]
  show IntKind.u64.wrap ((a &&& (18446744073709551615 - b) : Nat) : Int) = _
  exact IntWalk.u64_in _ (by omega)
theorem testBit_clr (a k i : Nat) (hk : k < 64) (hi : i < 64) : (a &&& (18446744073709551615 - 2 ^ k)).testBit i = (a.testBit i && !decide (i = k)) := by
  rw [Nat.testBit_and]
  congr 1
  rw [show 18446744073709551615 - 2 ^ k = 2 ^ 64 - (2 ^ k + 1) from by rw [show (2 : Nat) ^ 64 = 18446744073709551616 from rfl]; omega, Nat.testBit_two_pow_sub_succ (Nat.pow_lt_pow_right (by omega) hk), Nat.testBit_two_pow]
  simp [hi, eq_comm]
theorem testBit_set (a k i : Nat) : (a ||| 2 ^ k).testBit i = (a.testBit i || decide (i = k)) := by
  rw [Nat.testBit_or, Nat.testBit_two_pow]
  congr 1
  simp [eq_comm]
end Go.Fw
namespace Go.Proofs.Yteicfkhaaeoheaa
open Go Go.RowKit Go.Fw Go.Sx
/-- The four words as cells. -/
def wordsL (f : Nat → Nat) : List Value := [.int .u64 (f 0), .int .u64 (f 1), .int .u64 (f 2), .int .u64 (f 3)]
def Wf (f : Nat → Nat) : Prop := ∀ j, j < 4 → f j < 18446744073709551616
theorem wordsL_at (f : Nat → Nat) (j : Nat) (h : j < 4) : (wordsL f)[j]? = some (.int .u64 (f j)) := by
  match j, h with
  | 0, _ => rfl
  | 1, _ => rfl
  | 2, _ => rfl
  | 3, _ => rfl
def clrF (f : Nat → Nat) (c : Nat) : Nat → Nat := fun j => if j = c / 64 then f j &&& (18446744073709551615 - 2 ^ (c % 64)) else f j
def setF (f : Nat → Nat) (c : Nat) : Nat → Nat := fun j => if j = c / 64 then f j ||| 2 ^ (c % 64) else f j
theorem wordsL_set (f g : Nat → Nat) (j : Nat) (h : j < 4) (hg : ∀ i, i ≠ j → g i = f i) : (wordsL f).set j (.int .u64 (g j)) = wordsL g := by
  match j, h with
  | 0, _ => simp [wordsL, hg 1 (by omega), hg 2 (by omega), hg 3 (by omega)]
  | 1, _ => simp [wordsL, hg 0 (by omega), hg 2 (by omega), hg 3 (by omega)]
  | 2, _ => simp [wordsL, hg 0 (by omega), hg 1 (by omega), hg 3 (by omega)]
  | 3, _ => simp [wordsL, hg 0 (by omega), hg 1 (by omega), hg 2 (by omega)]
theorem pw_nat (k : Nat) (h : k < 64) : pw k = ((2 ^ k : Nat) : Int) ∧ 2 ^ k < 18446744073709551616 := ⟨by rw [pw_eq]; simp, Nat.pow_lt_pow_right (a := 2) (by omega) h⟩
theorem clr_word (f : Nat → Nat) (c : Nat) (hf : Wf f) (hc : c < 256) : ibits .andNot .u64 (f (c / 64)) (pw (c % 64)) = clrF f c (c / 64) ∧ Wf (clrF f c) := by
  obtain ⟨h1, h2⟩ := pw_nat (c % 64) (by omega)
  refine ⟨?_, fun j hj => ?_⟩
  · rw [ibits_eq, h1, u64_clr _ _ (hf _ (by omega)) h2]
    unfold clrF; rw [if_pos rfl]
  · unfold clrF
    split
    · exact Nat.lt_of_le_of_lt Nat.and_le_left (hf j hj)
    · exact hf j hj
theorem set_word (f : Nat → Nat) (c : Nat) (hf : Wf f) (hc : c < 256) : ibits .or .u64 (f (c / 64)) (pw (c % 64)) = setF f c (c / 64) ∧ Wf (setF f c) := by
  obtain ⟨h1, h2⟩ := pw_nat (c % 64) (by omega)
  refine ⟨?_, fun j hj => ?_⟩
  · rw [ibits_eq, h1, u64_or_nat _ _ (hf _ (by omega)) h2]
    unfold setF; rw [if_pos rfl]
  · unfold setF
    split
    · exact Nat.or_lt_two_pow (n := 64) (hf j hj) h2
    · exact hf j hj
theorem bit_clr (f : Nat → Nat) (c b : Nat) : bitOf (clrF f c) b = (bitOf f b && !decide (b = c)) := by
  unfold bitOf clrF
  by_cases h : b / 64 = c / 64
  · rw [if_pos h, testBit_clr _ _ _ (by omega) (by omega)]
    congr 2
    rw [decide_eq_decide]; omega
  · rw [if_neg h]
    have : ¬ b = c := fun e => h (by rw [e])
    simp [this]
theorem bit_set (f : Nat → Nat) (c b : Nat) : bitOf (setF f c) b = (bitOf f b || decide (b = c)) := by
  unfold bitOf setF
  by_cases h : b / 64 = c / 64
  · rw [if_pos h, testBit_set]
    congr 1
    rw [decide_eq_decide]; omega
  · rw [if_neg h]
    have : ¬ b = c := fun e => h (by rw [e])
    simp [this]
theorem map_filter_cast (l : List Nat) (p : Nat → Bool) (q : Int → Bool) (h : ∀ b ∈ l, p b = q (b : Int)) : (l.filter p).map (fun b : Nat => (b : Int)) = (l.map fun b : Nat => (b : Int)).filter q := by
  rw [List.filter_map]
  congr 1
  exact List.filter_congr fun b hb => h b hb
/-- What is left of the columns. -/
theorem mask_clr (f : Nat → Nat) (c : Nat) : maskTo (clrF f c) 256 = (maskTo f 256).filter (fun x => !decide (x = (c : Int))) := by
  unfold maskTo
  rw [List.filter_map, List.filter_filter]
  congr 1
  refine List.filter_congr fun b _ => ?_
  rw [bit_clr, Bool.and_comm]
  congr 2
  show decide (b = c) = decide ((b : Int) = (c : Int))
  rw [decide_eq_decide]
  omega
theorem mask_sorted (f : Nat → Nat) (k : Nat) : (maskTo f k).Pairwise (· < ·) := by
  unfold maskTo
  rw [List.pairwise_map]
  exact (List.pairwise_lt_range.sublist List.filter_sublist).imp fun h => by omega
theorem mask_mem (f : Nat → Nat) (k : Nat) (x : Int) : x ∈ maskTo f k ↔ ∃ b : Nat, x = b ∧ b < k ∧ bitOf f b = true := by
  unfold maskTo
  simp only [List.mem_map, List.mem_filter, List.mem_range]
  constructor
  · rintro ⟨b, ⟨h1, h2⟩, rfl⟩; exact ⟨b, rfl, h1, h2⟩
  · rintro ⟨b, rfl, h1, h2⟩; exact ⟨b, ⟨h1, h2⟩, rfl⟩
theorem sorted_unique : ∀ {l m : List Int}, l.Pairwise (· < ·) → m.Pairwise (· < ·) → (∀ x, x ∈ l ↔ x ∈ m) → l = m
  | [], [], _, _, _ => rfl
  | [], y :: m, _, _, h => absurd ((h y).2 List.mem_cons_self) (by simp)
  | x :: l, [], _, _, h => absurd ((h x).1 List.mem_cons_self) (by simp)
  | x :: l, y :: m, hl, hm, h => by
    obtain ⟨h1, hl'⟩ := List.pairwise_cons.1 hl
    obtain ⟨h2, hm'⟩ := List.pairwise_cons.1 hm
    have e : x = y := by
      rcases List.mem_cons.1 ((h x).1 List.mem_cons_self) with e | hx
      · exact e
      · rcases List.mem_cons.1 ((h y).2 List.mem_cons_self) with e | hy
        · exact e.symm
        · have := h1 y hy; have := h2 x hx; omega
    subst e
    congr 1
    refine sorted_unique hl' hm' fun z => ?_
    constructor
    · intro hz
      rcases List.mem_cons.1 ((h z).1 (List.mem_cons_of_mem _ hz)) with e | h3
      · have := h1 z hz; omega
      · exact h3
    · intro hz
      rcases List.mem_cons.1 ((h z).2 (List.mem_cons_of_mem _ hz)) with e | h3
      · have := h2 z hz; omega
      · exact h3
/-- Sorted with the column put in. -/
theorem mask_set (f : Nat → Nat) (c : Nat) (hc : c < 256) : maskTo (setF (clrF f c) c) 256 = (maskTo (clrF f c) 256 ++ [(c : Int)]).mergeSort (fun x y => decide (x ≤ y)) := by
  have hp := List.mergeSort_perm (maskTo (clrF f c) 256 ++ [(c : Int)]) (fun x y => decide (x ≤ y))
  have hs := List.pairwise_mergeSort (le := fun x y : Int => decide (x ≤ y)) (fun a b c h1 h2 => by simp at *; omega) (fun a b => by simp; omega) (maskTo (clrF f c) 256 ++ [(c : Int)])
  have hnd : (maskTo (clrF f c) 256 ++ [(c : Int)]).Nodup := by
    rw [List.nodup_append]
    refine ⟨(mask_sorted _ _).imp fun h => by omega, by simp, ?_⟩
    intro x hx y hy
    simp only [List.mem_singleton] at hy
    subst hy
    obtain ⟨b, rfl, -, hb⟩ := (mask_mem _ _ _).1 hx
    rw [bit_clr] at hb
    simp at hb
    omega
  have hnd2 := (hp.nodup_iff).2 hnd
  refine sorted_unique (mask_sorted _ _) ?_ fun x => ?_
  · refine (hs.and hnd2).imp fun h => ?_
    have h1 := of_decide_eq_true h.1
    have h2 := h.2
    omega
  · rw [hp.mem_iff, List.mem_append, mask_mem, mask_mem, List.mem_singleton]
    constructor
    · rintro ⟨b, rfl, hb, h⟩
      rw [bit_set] at h
      by_cases e : b = c
      · exact .inr (by rw [e])
      · left
        refine ⟨b, rfl, hb, ?_⟩
        simpa [e] using h
    · rintro (⟨b, rfl, hb, h⟩ | rfl)
      · exact ⟨b, rfl, hb, by rw [bit_set, h]; rfl⟩
      · exact ⟨c, rfl, hc, by rw [bit_set]; simp⟩
end Go.Proofs.Yteicfkhaaeoheaa
