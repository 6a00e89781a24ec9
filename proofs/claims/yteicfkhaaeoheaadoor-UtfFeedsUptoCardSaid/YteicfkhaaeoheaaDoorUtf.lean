/- Beginnings of runes' bytes: plain. -/
import Derived.Test.YteicfkhaaeoheaaDoorSxB
namespace Go.Fw
open Go Go.RowKit Go.Sx
/-- How many bytes follow a first one, and the bounds of the second one. -/
def needU (c : Int) : Int × Int × Int :=
  if 194 ≤ c ∧ c ≤ 223 then (1, 128, 191) else if c = 224 then (2, 160, 191) else if c = 237 then (2, 128, 159) else if 225 ≤ c ∧ c ≤ 239 then (2, 128, 191) else if c = 240 then (3, 144, 191) else if c = 244 then (3, 128, 143) else if 241 ≤ c ∧ c ≤ 243 then (3, 128, 191) else (0, 0, 0)
/-- The longest beginning, and whether it is whole. -/
def longU (L : List Int) : Int × Bool :=
  if (needU (L.getD 0 0)).1 = 0 then (0, false)
  else if ¬ (2 ≤ L.length ∧ (needU (L.getD 0 0)).2.1 ≤ L.getD 1 0 ∧ L.getD 1 0 ≤ (needU (L.getD 0 0)).2.2) then (1, false)
  else if ¬ (2 ≤ (needU (L.getD 0 0)).1 ∧ 3 ≤ L.length ∧ 128 ≤ L.getD 2 0 ∧ L.getD 2 0 ≤ 191) then (2, decide ((needU (L.getD 0 0)).1 < 2))
  else if ¬ (3 ≤ (needU (L.getD 0 0)).1 ∧ 4 ≤ L.length ∧ 128 ≤ L.getD 3 0 ∧ L.getD 3 0 ≤ 191) then (3, decide ((needU (L.getD 0 0)).1 < 3))
  else (4, true)
/-- A beginning, not whole. -/
def partU (L : List Int) : Prop := (longU L).2 = false ∧ (longU L).1 = L.length
instance (L : List Int) : Decidable (partU L) := by unfold partU; infer_instance
/-- The bytes of one rune. -/
def wfU (L : List Int) : Bool := match L with
  | [a] => decide (0 ≤ a ∧ a < 128)
  | [a, b] => decide (194 ≤ a ∧ a ≤ 223 ∧ 128 ≤ b ∧ b ≤ 191)
  | [a, b, c] => decide (224 ≤ a ∧ a ≤ 239 ∧ 128 ≤ b ∧ b ≤ 191 ∧ 128 ≤ c ∧ c ≤ 191 ∧ (a = 224 → 160 ≤ b) ∧ (a = 237 → b ≤ 159))
  | [a, b, c, d] => decide (240 ≤ a ∧ a ≤ 244 ∧ 128 ≤ b ∧ b ≤ 191 ∧ 128 ≤ c ∧ c ≤ 191 ∧ 128 ≤ d ∧ d ≤ 191 ∧ (a = 240 → 144 ≤ b) ∧ (a = 244 → b ≤ 143))
  | _ => false
def fillsU : List (List Int) := [[128], [191], [160, 128], [144, 128, 128], [159, 191], [143, 191, 191], [160, 191]]
def fillU (s f : List Int) (n : Nat) : List Int := (s ++ f ++ List.replicate 4 (f.getLastD 0)).take n
/-- Is it the first bytes of some rune's, by trying? -/
def begU (s : List Int) : Bool := decide (s ≠ []) && (List.range 5).any fun n => decide (s.length < n) && fillsU.any fun f => wfU (fillU s f n)
theorem needU_ways (a : Int) : (194 ≤ a ∧ a ≤ 223 ∧ needU a = (1, 128, 191)) ∨ (a = 224 ∧ needU a = (2, 160, 191)) ∨ (a = 237 ∧ needU a = (2, 128, 159)) ∨ (225 ≤ a ∧ a ≤ 239 ∧ a ≠ 237 ∧ needU a = (2, 128, 191)) ∨ (a = 240 ∧ needU a = (3, 144, 191)) ∨ (a = 244 ∧ needU a = (3, 128, 143)) ∨ (241 ≤ a ∧ a ≤ 243 ∧ needU a = (3, 128, 191)) ∨ ((a < 194 ∨ 244 < a) ∧ needU a = (0, 0, 0)) := by
  unfold needU
  repeat' split
  all_goals first | omega | simp_all <;> omega
theorem begU_iff (s : List Int) (hs : s ≠ []) : begU s = true ↔ partU s := by
  have h0 : decide (s ≠ []) = true := decide_eq_true hs
  unfold begU partU
  rw [h0, Bool.true_and]
  match s, hs with
  | [a], _ =>
    rcases needU_ways a with ⟨h1, h2, hn⟩ | ⟨h1, hn⟩ | ⟨h1, hn⟩ | ⟨h1, h2, h3, hn⟩ | ⟨h1, hn⟩ | ⟨h1, hn⟩ | ⟨h1, h2, hn⟩ | ⟨h1, hn⟩ <;> simp [List.range_succ, fillsU, fillU, wfU, longU, hn] <;> omega
  | [a, b], _ =>
    rcases needU_ways a with ⟨h1, h2, hn⟩ | ⟨h1, hn⟩ | ⟨h1, hn⟩ | ⟨h1, h2, h3, hn⟩ | ⟨h1, hn⟩ | ⟨h1, hn⟩ | ⟨h1, h2, hn⟩ | ⟨h1, hn⟩ <;> simp [List.range_succ, fillsU, fillU, wfU, longU, hn] <;> (try split) <;> (try simp) <;> omega
  | [a, b, c], _ =>
    rcases needU_ways a with ⟨h1, h2, hn⟩ | ⟨h1, hn⟩ | ⟨h1, hn⟩ | ⟨h1, h2, h3, hn⟩ | ⟨h1, hn⟩ | ⟨h1, hn⟩ | ⟨h1, h2, hn⟩ | ⟨h1, hn⟩ <;> simp [List.range_succ, fillsU, fillU, wfU, longU, hn] <;> (try (repeat' split)) <;> (try simp) <;> omega
  | a :: b :: c :: d :: r, _ =>
    have hb : ∀ n, n < 5 → decide ((a :: b :: c :: d :: r).length < n) = false ∨ n = 5 := fun n hn => .inl (by simp; omega)
    rcases needU_ways a with ⟨h1, h2, hn⟩ | ⟨h1, hn⟩ | ⟨h1, hn⟩ | ⟨h1, h2, h3, hn⟩ | ⟨h1, hn⟩ | ⟨h1, hn⟩ | ⟨h1, h2, hn⟩ | ⟨h1, hn⟩ <;> simp [List.range_succ, longU, hn] <;> (try (repeat' split)) <;> (try simp) <;> (try omega)
end Go.Fw
