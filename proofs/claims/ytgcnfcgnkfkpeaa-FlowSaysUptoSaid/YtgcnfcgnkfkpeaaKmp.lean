/- Borders of a word, told by its letters; nothing here speaks of the program. -/
import Derived.Test.YtgcnfcgnkfkpeaaBase
namespace Go.Fw
/-- The first k letters of the first n are their last k. -/
def Bd (p : Nat → Int) (n k : Nat) : Prop := k ≤ n ∧ ∀ j, j < k → p j = p (n - k + j)
theorem Bd.zero (p : Nat → Int) (n : Nat) : Bd p n 0 := ⟨Nat.zero_le _, fun j hj => absurd hj (Nat.not_lt_zero _)⟩
theorem Bd.trans {p : Nat → Int} {n k j : Nat} (h : Bd p n k) (h' : Bd p k j) : Bd p n j := by
  obtain ⟨h1, h2⟩ := h
  obtain ⟨h3, h4⟩ := h'
  refine ⟨by omega, fun t ht => ?_⟩
  rw [h4 t ht, h2 (k - j + t) (by omega)]
  congr 1
  omega
theorem Bd.inner {p : Nat → Int} {n k j : Nat} (h : Bd p n k) (h' : Bd p n j) (hj : j ≤ k) : Bd p k j := by
  obtain ⟨h1, h2⟩ := h
  obtain ⟨h3, h4⟩ := h'
  refine ⟨hj, fun t ht => ?_⟩
  rw [h4 t ht, h2 (k - j + t) (by omega)]
  congr 1
  omega
theorem Bd.succ {p : Nat → Int} {n k : Nat} : Bd p (n + 1) (k + 1) ↔ Bd p n k ∧ p k = p n := by
  constructor
  · rintro ⟨h1, h2⟩
    refine ⟨⟨by omega, fun j hj => ?_⟩, ?_⟩
    · rw [h2 j (by omega)]; congr 1; omega
    · rw [h2 k (by omega)]; congr 1; omega
  · rintro ⟨⟨h1, h2⟩, h3⟩
    refine ⟨by omega, fun j hj => ?_⟩
    rcases Nat.lt_or_ge j k with h | h
    · rw [h2 j h]; congr 1; omega
    · obtain rfl : j = k := by omega
      rw [h3]; congr 1; omega
/-- The longest border that is shorter than the word. -/
def IsB (p : Nat → Int) (n k : Nat) : Prop := k < n ∧ Bd p n k ∧ ∀ j, j < n → Bd p n j → j ≤ k
theorem IsB.unique {p : Nat → Int} {n k j : Nat} (h : IsB p n k) (h' : IsB p n j) : k = j := Nat.le_antisymm (h'.2.2 k h.1 h.2.1) (h.2.2 j h'.1 h'.2.1)
theorem IsB.one (p : Nat → Int) : IsB p 1 0 := ⟨Nat.zero_lt_one, Bd.zero p 1, fun j hj _ => by omega⟩
/-- What holds on the way from n letters to n + 1. -/
def OnWay (p : Nat → Int) (n k : Nat) : Prop := k < n ∧ Bd p n k ∧ ∀ j, j < n → Bd p n j → p j = p n → j ≤ k
theorem OnWay.start {p : Nat → Int} {n k : Nat} (h : IsB p n k) : OnWay p n k := ⟨h.1, h.2.1, fun j hj hb _ => h.2.2 j hj hb⟩
theorem OnWay.step {p : Nat → Int} {n k k' : Nat} (h : OnWay p n k) (hne : ¬ p n = p k) (hk : IsB p k k') : OnWay p n k' := by
  obtain ⟨h1, h2, h3⟩ := h
  obtain ⟨g1, g2, g3⟩ := hk
  refine ⟨by omega, h2.trans g2, fun j hj hb hp => ?_⟩
  have hle := h3 j hj hb hp
  have hlt : j < k := by
    rcases Nat.lt_or_ge j k with h | h
    · exact h
    · obtain rfl : j = k := by omega
      exact absurd hp.symm hne
  exact g3 j hlt (h2.inner hb hle)
theorem OnWay.yes {p : Nat → Int} {n k : Nat} (h : OnWay p n k) (he : p n = p k) : IsB p (n + 1) (k + 1) := by
  obtain ⟨h1, h2, h3⟩ := h
  refine ⟨by omega, Bd.succ.2 ⟨h2, he.symm⟩, fun j hj hb => ?_⟩
  cases j with
  | zero => omega
  | succ j =>
    obtain ⟨g1, g2⟩ := Bd.succ.1 hb
    have := h3 j (by omega) g1 g2
    omega
theorem OnWay.no {p : Nat → Int} {n : Nat} (h : OnWay p n 0) (hne : ¬ p n = p 0) : IsB p (n + 1) 0 := by
  obtain ⟨h1, h2, h3⟩ := h
  refine ⟨by omega, Bd.zero _ _, fun j hj hb => ?_⟩
  cases j with
  | zero => omega
  | succ j =>
    obtain ⟨g1, g2⟩ := Bd.succ.1 hb
    have h0 := h3 j (by omega) g1 g2
    obtain rfl : j = 0 := by omega
    exact absurd g2.symm hne
end Go.Fw
