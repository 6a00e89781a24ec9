/- Borders of a word, told by its letters; nothing here speaks of the program. -/
import Derived.Test.YtflmckoolagikaaDoorBase
namespace Go.Fw
/-- The first k letters of the first n are their last k. -/
def Bd (p : Nat → Int) (n k : Nat) : Prop := k ≤ n ∧ ∀ j, j < k → p j = p (n - k + j)
theorem Bd.zero (p : Nat → Int) (n : Nat) : Bd p n 0 := ⟨Nat.zero_le _, fun j hj => absurd hj (Nat.not_lt_zero _)⟩
theorem Bd.trans {p : Nat → Int} {n k j : Nat} (h : Bd p n k) (h' : Bd p k j) : Bd p n j := by
  obtain ⟨h1, h2⟩ := h
  obtain ⟨h3, h4⟩ := h'
  refine ⟨by omega, fun t ht => ?_⟩
  rw [h4 t ht, h2 (k - j + t) (by omega)]
  congr 1
  omega
theorem Bd.inner {p : Nat → Int} {n k j : Nat} (h : Bd p n k) (h' : Bd p n j) (hj : j ≤ k) : Bd p k j := by
  obtain ⟨h1, h2⟩ := h
  obtain ⟨h3, h4⟩ := h'
  refine ⟨hj, fun t ht => ?_⟩
  rw [h4 t ht, h2 (k - j + t) (by omega)]
  congr 1
  omega
theorem Bd.succ {p : Nat → Int} {n k : Nat} : Bd p (n + 1) (k + 1) ↔ Bd p n k ∧ p k = p n := by
  constructor
  · rintro ⟨h1, h2⟩
    refine ⟨⟨by omega, fun j hj => ?_⟩, ?_⟩
    · rw [h2 j (by omega)]; congr 1; omega
    · rw [h2 k (by omega)]; congr 1; omega
  · rintro ⟨⟨h1, h2⟩, h3⟩
    refine ⟨by omega, fun j hj => ?_⟩
    rcases Nat.lt_or_ge j k with h | h
    · rw [h2 j h]; congr 1; omega
    · obtain rfl : j = k := by omega
      rw [h3]; congr 1; omega
/-- The longest border that is shorter than the word. -/
def IsB (p : Nat → Int) (n k : Nat) : Prop := k < n ∧ Bd p n k ∧ ∀ j, j < n → Bd p n j → j ≤ k
theorem IsB.unique {p : Nat → Int} {n k j : Nat} (h : IsB p n k) (h' : IsB p n j) : k = j := Nat.le_antisymm (h'.2.2 k h.1 h.2.1) (h.2.2 j h'.1 h'.2.1)
theorem IsB.one (p : Nat → Int) : IsB p 1 0 := ⟨Nat.zero_lt_one, Bd.zero p 1, fun j hj _ => by omega⟩
/-- What holds on the way from n letters to n + 1. -/
def OnWay (p : Nat → Int) (n k : Nat) : Prop := k < n ∧ Bd p n k ∧ ∀ j, j < n → Bd p n j → p j = p n → j ≤ k
theorem OnWay.start {p : Nat → Int} {n k : Nat} (h : IsB p n k) : OnWay p n k := ⟨h.1, h.2.1, fun j hj hb _ => h.2.2 j hj hb⟩
theorem OnWay.step {p : Nat → Int} {n k k' : Nat} (h : OnWay p n k) (hne : ¬ p n = p k) (hk : IsB p k k') : OnWay p n k' := by
  obtain ⟨h1, h2, h3⟩ := h
  obtain ⟨g1, g2, g3⟩ := hk
  refine ⟨by omega, h2.trans g2, fun j hj hb hp => ?_⟩
  have hle := h3 j hj hb hp
  have hlt : j < k := by
    rcases Nat.lt_or_ge j k with h | h
    · exact h
    · obtain rfl : j = k := by omega
      exact absurd hp.symm hne
  exact g3 j hlt (h2.inner hb hle)
theorem OnWay.yes {p : Nat → Int} {n k : Nat} (h : OnWay p n k) (he : p n = p k) : IsB p (n + 1) (k + 1) := by
  obtain ⟨h1, h2, h3⟩ := h
  refine ⟨by omega, Bd.succ.2 ⟨h2, he.symm⟩, fun j hj hb => ?_⟩
  cases j with
  | zero => omega
  | succ j =>
    obtain ⟨g1, g2⟩ := Bd.succ.1 hb
    have := h3 j (by omega) g1 g2
    omega
theorem OnWay.no {p : Nat → Int} {n : Nat} (h : OnWay p n 0) (hne : ¬ p n = p 0) : IsB p (n + 1) 0 := by
  obtain ⟨h1, h2, h3⟩ := h
  refine ⟨by omega, Bd.zero _ _, fun j hj hb => ?_⟩
  cases j with
  | zero => omega
  | succ j =>
    obtain ⟨g1, g2⟩ := Bd.succ.1 hb
    have h0 := h3 j (by omega) g1 g2
    obtain rfl : j = 0 := by omega
    exact absurd g2.symm hne
end Go.Fw
/- A word found in a text, told by letters: the longest beginning of the word that ends here. -/
namespace Go.Fw
/-- The first k letters of the word are the last k of the first i of the text. -/
def Mt (p t : Nat → Int) (i k : Nat) : Prop := k ≤ i ∧ ∀ j, j < k → p j = t (i - k + j)
theorem Mt.zero (p t : Nat → Int) (i : Nat) : Mt p t i 0 := ⟨Nat.zero_le _, fun j hj => absurd hj (Nat.not_lt_zero _)⟩
theorem Mt.trans {p t : Nat → Int} {i k j : Nat} (h : Mt p t i k) (h' : Bd p k j) : Mt p t i j := by
  obtain ⟨h1, h2⟩ := h
  obtain ⟨h3, h4⟩ := h'
  refine ⟨by omega, fun u hu => ?_⟩
  rw [h4 u hu, h2 (k - j + u) (by omega)]
  congr 1
  omega
theorem Mt.inner {p t : Nat → Int} {i k j : Nat} (h : Mt p t i k) (h' : Mt p t i j) (hj : j ≤ k) : Bd p k j := by
  obtain ⟨h1, h2⟩ := h
  obtain ⟨h3, h4⟩ := h'
  refine ⟨hj, fun u hu => ?_⟩
  rw [h4 u hu, h2 (k - j + u) (by omega)]
  congr 1
  omega
theorem Mt.succ {p t : Nat → Int} {i k : Nat} : Mt p t (i + 1) (k + 1) ↔ Mt p t i k ∧ p k = t i := by
  constructor
  · rintro ⟨h1, h2⟩
    refine ⟨⟨by omega, fun j hj => ?_⟩, ?_⟩
    · rw [h2 j (by omega)]; congr 1; omega
    · rw [h2 k (by omega)]; congr 1; omega
  · rintro ⟨⟨h1, h2⟩, h3⟩
    refine ⟨by omega, fun j hj => ?_⟩
    rcases Nat.lt_or_ge j k with h | h
    · rw [h2 j h]; congr 1; omega
    · obtain rfl : j = k := by omega
      rw [h3]; congr 1; omega
def IsM (p t : Nat → Int) (n i k : Nat) : Prop := k ≤ n ∧ Mt p t i k ∧ ∀ j, j ≤ n → Mt p t i j → j ≤ k
theorem IsM.none (p t : Nat → Int) (n : Nat) : IsM p t n 0 0 := ⟨Nat.zero_le _, Mt.zero _ _ _, fun j _ h => by have := h.1; omega⟩
def OnM (p t : Nat → Int) (n i k : Nat) : Prop := k ≤ n ∧ Mt p t i k ∧ ∀ j, j < n → Mt p t i j → p j = t i → j ≤ k
theorem OnM.start {p t : Nat → Int} {n i k : Nat} (h : IsM p t n i k) : OnM p t n i k := ⟨h.1, h.2.1, fun j hj hm _ => h.2.2 j (Nat.le_of_lt hj) hm⟩
theorem OnM.step {p t : Nat → Int} {n i k k' : Nat} (h : OnM p t n i k) (hne : k = n ∨ ¬ t i = p k) (hk : IsB p k k') : OnM p t n i k' := by
  obtain ⟨h1, h2, h3⟩ := h
  obtain ⟨g1, g2, g3⟩ := hk
  refine ⟨by omega, h2.trans g2, fun j hj hm hp => ?_⟩
  have hle := h3 j hj hm hp
  have hlt : j < k := by
    rcases Nat.lt_or_ge j k with h | h
    · exact h
    · obtain rfl : j = k := by omega
      rcases hne with hne | hne
      · omega
      · exact absurd hp.symm hne
  exact g3 j hlt (h2.inner hm hle)
theorem OnM.yes {p t : Nat → Int} {n i k : Nat} (h : OnM p t n i k) (hk : k < n) (he : t i = p k) : IsM p t n (i + 1) (k + 1) := by
  obtain ⟨h1, h2, h3⟩ := h
  refine ⟨hk, Mt.succ.2 ⟨h2, he.symm⟩, fun j hj hm => ?_⟩
  cases j with
  | zero => omega
  | succ j =>
    obtain ⟨g1, g2⟩ := Mt.succ.1 hm
    have := h3 j (by omega) g1 g2
    omega
theorem OnM.no {p t : Nat → Int} {n i : Nat} (h : OnM p t n i 0) (hne : ¬ t i = p 0) : IsM p t n (i + 1) 0 := by
  obtain ⟨h1, h2, h3⟩ := h
  refine ⟨Nat.zero_le _, Mt.zero _ _ _, fun j hj hm => ?_⟩
  cases j with
  | zero => omega
  | succ j =>
    obtain ⟨g1, g2⟩ := Mt.succ.1 hm
    have h0 := h3 j (by omega) g1 g2
    obtain rfl : j = 0 := by omega
    exact absurd g2.symm hne
/-- The word stands at place q of the text. -/
def Oc (p t : Nat → Int) (n q : Nat) : Prop := ∀ j, j < n → p j = t (q + j)
theorem IsM.found {p t : Nat → Int} {n i k : Nat} (h : IsM p t n i k) (hn : n ≤ i) : k = n ↔ Oc p t n (i - n) := by
  constructor
  · rintro rfl; exact h.2.1.2
  · intro ho
    exact Nat.le_antisymm h.1 (h.2.2 n (Nat.le_refl _) ⟨hn, ho⟩)
theorem IsM.short {p t : Nat → Int} {n i k : Nat} (h : IsM p t n i k) (hn : i < n) : k ≠ n := by
  have := h.2.1.1
  omega
instance (p t : Nat → Int) (n q : Nat) : Decidable (Oc p t n q) := by unfold Oc; infer_instance
/-- The places found in the first i letters (n: the word's letters, 1 at least). -/
def fnd (p t : Nat → Int) (n i : Nat) : List Int := ((List.range (i + 1 - n)).filter fun q => decide (Oc p t n q)).map fun q : Nat => (q : Int)
theorem fnd_zero (p t : Nat → Int) (n : Nat) (h : 1 ≤ n) : fnd p t n 0 = [] := by
  unfold fnd
  rw [show 0 + 1 - n = 0 from by omega]
  rfl
theorem fnd_yes (p t : Nat → Int) (n i : Nat) (h : n ≤ i + 1) (ho : Oc p t n (i + 1 - n)) : fnd p t n (i + 1) = fnd p t n i ++ [((i + 1 - n : Nat) : Int)] := by
  unfold fnd
  rw [show i + 1 + 1 - n = (i + 1 - n) + 1 from by omega, List.range_succ, List.filter_append, List.map_append]
  simp [ho]
theorem fnd_no (p t : Nat → Int) (n i : Nat) (h : n ≤ i + 1 → ¬ Oc p t n (i + 1 - n)) : fnd p t n (i + 1) = fnd p t n i := by
  unfold fnd
  rcases Nat.lt_or_ge (i + 1) n with hlt | hge
  · rw [show i + 1 + 1 - n = 0 from by omega, show i + 1 - n = 0 from by omega]
  · rw [show i + 1 + 1 - n = (i + 1 - n) + 1 from by omega, List.range_succ, List.filter_append, List.map_append]
    simp [h hge]
theorem fnd_len (p t : Nat → Int) (n i : Nat) : (fnd p t n i).length ≤ i + 1 := by
  unfold fnd
  rw [List.length_map]
  exact Nat.le_trans (List.length_filter_le _ _) (by simp)
end Go.Fw
