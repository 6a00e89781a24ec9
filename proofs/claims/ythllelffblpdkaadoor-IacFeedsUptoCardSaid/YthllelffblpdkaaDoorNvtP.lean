/- Replacing one byte everywhere: plain. -/
import Derived.Lib.Replace
namespace Go.Fw
open Go Go.Lib
theorem replaceK_one (c : UInt8) (new : List UInt8) : ∀ s : List UInt8, replaceK [c] new (s.count c) s = s.flatMap (fun b => if b = c then new else [b])
  | [] => rfl
  | b :: l => by
    have ih := replaceK_one c new l
    rw [List.flatMap_cons]
    by_cases h : b = c
    · subst h
      have hi : index (b :: l) [b] = ((0 : Nat) : Int) := by unfold index; simp
      rw [List.count_cons_self, replaceK_hit _ _ _ _ _ hi, if_pos rfl, ← ih]
      simp
    · rw [List.count_cons_of_ne h, if_neg h]
      cases hc : l.count c with
      | zero =>
        rw [hc] at ih
        rw [← ih]
        rfl
      | succ k =>
        rw [hc] at ih
        obtain ⟨i, hi⟩ := index_of_count (s := l) (old := [c]) (by rw [count_one, hc]; omega)
        have hi2 : index (b :: l) [c] = ((i + 1 : Nat) : Int) := by
          unfold index
          have hp : ([c].isPrefixOf (b :: l)) = false := by simp only [List.isPrefixOf, Bool.and_true]; exact beq_eq_false_iff_ne.2 fun e => h e.symm
          rw [hp, hi]
          simp
        rw [replaceK_hit _ _ _ _ _ hi2, ← ih, replaceK_hit _ _ _ _ _ hi]
        simp
theorem replaceAll_one (c : UInt8) (new s : List UInt8) (h : [c] ≠ new) : replaceAll s [c] new = s.flatMap (fun b => if b = c then new else [b]) := by
  unfold replaceAll replace replaceNum
  rw [if_neg (by simpa using h), if_pos (.inl (by decide)), count_one, replaceK_one]
/-- A byte in the network's form. -/
def outB (b : UInt8) : List UInt8 := if b = 10 then [13, 10] else if b = 13 then [13, 0] else [b]
theorem lineOut_plain (s : List UInt8) : (s.flatMap (fun b => if b = 13 then [13, 0] else [b])).flatMap (fun b => if b = 10 then [13, 10] else [b]) = s.flatMap outB := by
  rw [List.flatMap_assoc]
  congr 1
  funext b
  unfold outB
  by_cases h : b = 13
  · subst h; rfl
  · rw [if_neg h]
    by_cases h2 : b = 10
    · subst h2; rfl
    · simp [h2]
/-- The bytes that came in: what is pending, and what is told. -/
def mIn : Bool → List UInt8 → Bool × List UInt8
  | cr, [] => (cr, [])
  | true, c :: l => if c = 10 then ((mIn false l).1, 10 :: (mIn false l).2) else if c = 0 then ((mIn false l).1, 13 :: (mIn false l).2) else if c = 13 then ((mIn true l).1, 13 :: (mIn true l).2) else ((mIn false l).1, 13 :: c :: (mIn false l).2)
  | false, c :: l => if c = 13 then mIn true l else ((mIn false l).1, c :: (mIn false l).2)
theorem mIn_no : ∀ s : List UInt8, ¬ (13 : UInt8) ∈ s → mIn false s = (false, s)
  | [], _ => rfl
  | c :: l, h => by
    have h1 : ¬ c = 13 := fun e => h (by rw [e]; exact List.mem_cons_self)
    have h2 := mIn_no l fun e => h (List.mem_cons_of_mem _ e)
    unfold mIn
    rw [if_neg h1, h2]
theorem mIn_cut : ∀ (a : List UInt8) (b : List UInt8), ¬ (13 : UInt8) ∈ a → mIn false (a ++ 13 :: b) = ((mIn true b).1, a ++ (mIn true b).2)
  | [], b, _ => by
    show mIn false (13 :: b) = _
    rw [mIn, if_pos rfl]
    rfl
  | c :: l, b, h => by
    have h1 : ¬ c = 13 := fun e => h (by rw [e]; exact List.mem_cons_self)
    have h2 := mIn_cut l b fun e => h (List.mem_cons_of_mem _ e)
    show mIn false (c :: (l ++ 13 :: b)) = _
    rw [mIn, if_neg h1, h2]
    rfl
theorem mIn_else {c : UInt8} {l : List UInt8} (h1 : ¬ c = 10) (h2 : ¬ c = 0) : mIn true (c :: l) = ((mIn false (c :: l)).1, 13 :: (mIn false (c :: l)).2) := by
  rw [mIn, mIn, if_neg h1, if_neg h2]
  by_cases h : c = 13
  · rw [if_pos h, if_pos h]
  · rw [if_neg h, if_neg h]
theorem mIn_cr (s : List UInt8) : mIn true s = mIn false (13 :: s) := by
  symm
  rw [mIn, if_pos rfl]
end Go.Fw
