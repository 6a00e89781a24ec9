/- The walks of mask: sets of bytes as four words of 64 bits. -/
import Derived.Test.YteicfkhaaeoheaaAbout
import Derived.Test.YteicfkhaaeoheaaBase2
import Derived.StillTailTactics
import Derived.RegionTactic
import Derived.ChangeAlike
namespace Go.Proofs.Yteicfkhaaeoheaa
open Go.RowKit Go.Fw

/-- Four words, as cells. -/
def Words (C : Array Value) (f : Nat → Nat) : Prop := C.size = 4 ∧ ∀ j, j < 4 → C[j]? = some (.int .u64 (f j)) ∧ f j < 18446744073709551616
def bitOf (f : Nat → Nat) (b : Nat) : Bool := (f (b / 64)).testBit (b % 64)

theorem and1 (x k : Nat) (hx : x < 18446744073709551616) : (bits .and .u64 ((x : Int) / 2 ^ k) 1 == 1) = decide (x / 2 ^ k % 2 = 1) := by
  have hq : x / 2 ^ k < 18446744073709551616 := Nat.lt_of_le_of_lt (Nat.div_le_self _ _) hx
  have h := u64_and_nat (x / 2 ^ k) 1 hq (by omega)
  have e : ((x / 2 ^ k : Nat) : Int) = (x : Int) / 2 ^ k := by rw [Int.natCast_ediv]; simp
  rw [e] at h
  rw [show (1 : Int) = ((1 : Nat) : Int) from rfl, h, Nat.and_one_is_mod, Bool.eq_iff_iff]
  simp only [beq_iff_eq, decide_eq_true_eq]
  omega
theorem divbit (x p : Nat) (hx : x < 18446744073709551616) : ((IntKind.u64.wrap ((x : Int) / (p : Int))).tmod 2 == 1) = decide (x / p % 2 = 1) := by
  have hq : x / p < 18446744073709551616 := Nat.lt_of_le_of_lt (Nat.div_le_self _ _) hx
  have e : (x : Int) / (p : Int) = ((x / p : Nat) : Int) := by rw [Int.natCast_ediv]
  rw [e]
  clear e
  generalize x / p = q at *
  rw [IntWalk.u64_in _ (by omega), Int.tmod_eq_emod_of_nonneg (by omega), Bool.eq_iff_iff]
  simp only [beq_iff_eq, decide_eq_true_eq]
  omega
theorem testBit_mod (x k : Nat) : x.testBit k = decide (x / 2 ^ k % 2 = 1) := by
  rw [Nat.testBit_eq_decide_div_mod_eq]

theorem bytesOf_one (k : Nat) (h : k < 256) : bytesOf [(k : Int)] = strOfNums [(k : Int)] := by
  unfold bytesOf
  rw [List.map_cons, List.map_nil, Int.emod_eq_of_lt (by omega) (by omega)]



/-- The members of a set below k, rising. -/
def maskTo (f : Nat → Nat) (k : Nat) : List Int := ((List.range k).filter (bitOf f)).map (fun b : Nat => (b : Int))
theorem maskTo_succ (f : Nat → Nat) (k : Nat) : maskTo f (k + 1) = if bitOf f k = true then maskTo f k ++ [(k : Int)] else maskTo f k := by
  unfold maskTo
  rw [List.range_succ, List.filter_append]
  cases h : bitOf f k <;> simp [h]
theorem maskTo_len (f : Nat → Nat) (k : Nat) : (maskTo f k).length ≤ k := by
  unfold maskTo
  rw [List.length_map]
  exact Nat.le_trans (List.length_filter_le _ _) (by simp)
theorem maskTo_mem (f : Nat → Nat) (k : Nat) : ∀ x ∈ maskTo f k, 0 ≤ x ∧ x < k := by
  intro x hx
  unfold maskTo at hx
  simp only [List.mem_map, List.mem_filter, List.mem_range] at hx
  obtain ⟨b, ⟨hb, _⟩, rfl⟩ := hx
  omega



/-- The words of the set of the first k bytes of a text. -/
def ofTo (l : List UInt8) (k : Nat) (j : Nat) : Nat := (l.take k).foldl (fun acc c => if c.toNat / 64 = j then acc ||| 2 ^ (c.toNat % 64) else acc) 0

theorem words_one {C : Array Value} {f : Nat → Nat} (hC : Words C f) : C.all (·.oneCell') = true := by
  rw [Array.all_eq_true]
  intro i hi
  have h := (hC.2 i (by rw [hC.1] at hi; exact hi)).1
  rw [Array.getElem?_eq_getElem hi] at h
  rw [Option.some.inj h]
  rfl
theorem words_zero (l : List UInt8) : Words #[.int .u64 0, .int .u64 0, .int .u64 0, .int .u64 0] (ofTo l 0) := by
  refine ⟨rfl, fun j hj => ?_⟩
  have e : ofTo l 0 j = 0 := by simp [ofTo]
  rw [e]
  match j, hj with
  | 0, _ => exact ⟨rfl, by omega⟩
  | 1, _ => exact ⟨rfl, by omega⟩
  | 2, _ => exact ⟨rfl, by omega⟩
  | 3, _ => exact ⟨rfl, by omega⟩
theorem ofTo_step (l : List UInt8) (k c : Nat) (hk : k < l.length) (hc : l[k].toNat = c) {C : Array Value} (hC : Words C (ofTo l k)) :
    Words (C.setIfInBounds (c / 64) (.int .u64 (bits .or .u64 (ofTo l k (c / 64) : Nat) (IntKind.u64.wrap (2 ^ (c % 64)))))) (ofTo l (k + 1)) := by
  have hc256 : c < 256 := by rw [← hc]; exact UInt8.toNat_lt _
  obtain ⟨hs, hC⟩ := hC
  have hp : 2 ^ (c % 64) < 18446744073709551616 := Nat.pow_lt_pow_right (a := 2) (by omega) (show c % 64 < 64 by omega)
  have hw : IntKind.u64.wrap ((2 : Int) ^ (c % 64)) = ((2 ^ (c % 64) : Nat) : Int) := by
    have e : ((2 : Int) ^ (c % 64)) = ((2 ^ (c % 64) : Nat) : Int) := by simp
    rw [e]
    generalize 2 ^ (c % 64) = q at *
    exact IntWalk.u64_in _ (by omega)
  have hstep : ∀ j, ofTo l (k + 1) j = if c / 64 = j then ofTo l k j ||| 2 ^ (c % 64) else ofTo l k j := by
    intro j
    unfold ofTo
    rw [List.take_succ_eq_append_getElem hk, List.foldl_append]
    simp only [List.foldl_cons, List.foldl_nil, hc]
  refine ⟨by simpa using hs, fun j hj => ?_⟩
  rw [hstep j, Array.getElem?_setIfInBounds]
  by_cases h : c / 64 = j
  · subst h
    rw [if_pos rfl, if_pos (by omega), if_pos rfl, hw]
    have hx := (hC (c / 64) hj).2
    refine ⟨?_, Nat.or_lt_two_pow (n := 64) hx hp⟩
    rw [u64_or_nat _ _ hx hp]
  · rw [if_neg h, if_neg h]
    exact hC j hj


end Go.Proofs.Yteicfkhaaeoheaa
