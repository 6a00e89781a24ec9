/- press.Paste. -/
import Derived.Test.YtkbkppoefgojaaaPaste
namespace Go.Proofs.Ytkbkppoefgojaaa
open Go.RowKit Go.Fw

def pasteCase (x : Int) : Prop :=
  x = 10 ∨ x = 9 ∨ x = 13 ∨ (x < 32 ∧ (x == 10) = false ∧ (x != 9) = true ∧ (x != 13) = true ∧ Hid (pasteR x = [])) ∨ ((x == 10) = false ∧ ¬ x < 32 ∧ ¬ 127 ≤ x ∧ validR x ∧ Hid (pasteR x = [x])) ∨ ((x == 10) = false ∧ ¬ x < 32 ∧ 127 ≤ x ∧ x ≤ 159 ∧ Hid (pasteR x = [])) ∨
    ((x == 10) = false ∧ ¬ x < 32 ∧ 127 ≤ x ∧ ¬ x ≤ 159 ∧ validR x ∧ Hid (pasteR x = [x])) ∨ ((x == 10) = false ∧ ¬ x < 32 ∧ 127 ≤ x ∧ ¬ x ≤ 159 ∧ ¬ validR x ∧ Hid (pasteR x = []))
theorem pasteCase_all (x : Int) : pasteCase x := by
  unfold pasteCase Hid pasteR validR
  by_cases h1 : x = 10
  · exact .inl h1
  · by_cases h2 : x = 9
    · exact .inr (.inl h2)
    · by_cases h3 : x = 13
      · exact .inr (.inr (.inl h3))
      · have b1 : (x == 10) = false := by simpa using h1
        have b2 : (x != 9) = true := by simpa using h2
        have b3 : (x != 13) = true := by simpa using h3
        rw [if_neg h1, b1, b2, b3]
        by_cases h4 : x < 32
        · rw [if_neg (by omega)]
          exact .inr (.inr (.inr (.inl ⟨h4, rfl, rfl, rfl, rfl⟩)))
        · by_cases h5 : 127 ≤ x
          · by_cases h6 : x ≤ 159
            · rw [if_neg (by omega)]
              exact .inr (.inr (.inr (.inr (.inr (.inl ⟨rfl, h4, h5, h6, rfl⟩)))))
            · by_cases h7 : 0 ≤ x ∧ x ≤ 1114111 ∧ (x < 55296 ∨ 57343 < x)
              · rw [if_pos (by omega)]
                exact .inr (.inr (.inr (.inr (.inr (.inr (.inl ⟨rfl, h4, h5, h6, h7, rfl⟩))))))
              · rw [if_neg (by omega)]
                exact .inr (.inr (.inr (.inr (.inr (.inr (.inr ⟨rfl, h4, h5, h6, h7, rfl⟩))))))
          · rw [if_pos (by omega)]
            exact .inr (.inr (.inr (.inr (.inl ⟨rfl, h4, h5, by omega, rfl⟩))))

end Go.Proofs.Ytkbkppoefgojaaa
