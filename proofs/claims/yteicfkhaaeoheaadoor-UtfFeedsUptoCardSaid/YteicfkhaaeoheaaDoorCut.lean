/- width.cut, width.Cut, width.Fill, farref.Fitting: walks. -/
import Derived.Test.YteicfkhaaeoheaaDoorSxp
import Derived.Test.YteicfkhaaeoheaaDoorWidthSum
import Derived.Test.YteicfkhaaeoheaaDoorWidthSame
import Derived.Test.YteicfkhaaeoheaaDoorFind3
namespace Go.Proofs.YteicfkhaaeoheaaDoor
open Go Go.RowKit Go.Fw Go.Sx
set_option maxRecDepth 100000
set_option maxHeartbeats 1000000
attribute [local irreducible] SW SL SQ AtQ SV SC BB LD PK Yields SO SOT SOA SY
theorem refWidths_mono (l : List Int) (i j : Nat) (h : i ≤ j) (hj : j ≤ l.length) : refWidths (l.take i) ≤ refWidths (l.take j) := by
  induction j with
  | zero => obtain rfl : i = 0 := by omega
            exact Int.le_refl _
  | succ j ih =>
    rcases Nat.eq_or_lt_of_le h with rfl | hlt
    · exact Int.le_refl _
    · have h1 := ih (by omega) (by omega)
      rw [refWidths_succ l j (by omega)]
      have := refWidth_bd (l.getD j 0)
      omega
/-- How many at most are no wider than w. -/
def IsCut (l : List Int) (w : Int) (k : Nat) : Prop := k ≤ l.length ∧ refWidths (l.take k) ≤ w ∧ ∀ j, k < j → j ≤ l.length → w < refWidths (l.take j)
theorem isCut_ex (l : List Int) (w : Int) (h : 0 ≤ w) : ∃ k, IsCut l w k := by
  have key : ∀ m, m ≤ l.length → (∀ j, m < j → j ≤ l.length → w < refWidths (l.take j)) → ∃ k, IsCut l w k := by
    intro m
    induction m with
    | zero => intro hm hh; exact ⟨0, hm, by simpa [refWidths] using h, hh⟩
    | succ m ih =>
      intro hm hh
      by_cases hle : refWidths (l.take (m + 1)) ≤ w
      · exact ⟨m + 1, hm, hle, hh⟩
      · refine ih (by omega) fun j hj hj2 => ?_
        rcases Nat.eq_or_lt_of_le hj with rfl | hlt
        · exact Int.not_le.1 hle
        · exact hh j hlt hj2
  exact key l.length (Nat.le_refl _) (fun j h1 h2 => by omega)
theorem IsCut.at {l : List Int} {w : Int} {k i : Nat} (h : IsCut l w k) (hi : i < l.length) (h1 : refWidths (l.take i) ≤ w) (h2 : w < refWidths (l.take i) + refWidth (l.getD i 0)) : i = k := by
  obtain ⟨g1, g2, g3⟩ := h
  rw [← refWidths_succ l i hi] at h2
  rcases Nat.lt_trichotomy i k with hlt | rfl | hlt
  · have := refWidths_mono l (i + 1) k hlt g1
    omega
  · rfl
  · have := g3 i hlt (by omega)
    omega
theorem IsCut.last {l : List Int} {w : Int} {k : Nat} (h : IsCut l w k) (h1 : refWidths (l.take l.length) ≤ w) : l.length = k := by
  obtain ⟨g1, g2, g3⟩ := h
  rcases Nat.eq_or_lt_of_le g1 with h | hlt
  · exact h.symm
  · have := g3 l.length hlt (Nat.le_refl _)
    omega
end Go.Proofs.YteicfkhaaeoheaaDoor
