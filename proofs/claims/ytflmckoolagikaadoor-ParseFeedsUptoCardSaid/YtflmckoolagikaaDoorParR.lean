/- The parser in plain Lean: a right parser's step. -/
import Derived.Test.YtflmckoolagikaaDoorParQ
namespace Go.Proofs.YtflmckoolagikaaDoor
open Go Go.RowKit Go.Fw Go.Sx
set_option maxRecDepth 100000
set_option maxHeartbeats 4000000
def okP (p : Ps) : Prop := parOk p.1 p.2.1 p.2.2.1 p.2.2.2.1 p.2.2.2.2
theorem take_step (p : Ps) (x : Int) (hp : okP p) : takeP p x = stepP p x := by
  obtain ⟨s, m, i, g, t⟩ := p
  unfold okP parOk at hp
  dsimp only at hp
  obtain ⟨h1, h2, -, h4, -, -, h7, -, h9⟩ := hp
  by_cases hx : x < 0 ∨ 1114111 < x
  · unfold takeP takeU stepP
    rw [if_pos hx, if_pos hx]
    rfl
  have hx : 0 ≤ x ∧ x ≤ 1114111 := by omega
  have hi : ¬ (s = 2 ∨ s = 5) → i = e0 := fun h => nums_e0.2 (by have := mt h4.1 h; omega)
  have hg : ¬ (s = 4 ∨ s = 5) → g = e0 := fun h => nums_e0.2 (h7.resolve_right h)
  have hm : ¬ (s = 4 ∨ s = 5) → m = 0 := fun h => h2.resolve_right fun e => h e.2
  have ht : ¬ (s = 7 ∨ s = 8) → t = e0 := fun h => nums_e0.2 (h9.resolve_right h)
  clear h2 h4 h7 h9
  have hs : s = 0 ∨ s = 1 ∨ s = 2 ∨ s = 3 ∨ s = 4 ∨ s = 5 ∨ s = 6 ∨ s = 7 ∨ s = 8 ∨ s = 9 ∨ s = 10 := by omega
  clear h1
  rcases hs with rfl | rfl | rfl | rfl | rfl | rfl | rfl | rfl | rfl | rfl | rfl
  · obtain rfl := hi (by decide); obtain rfl := hg (by decide); obtain rfl := hm (by decide); obtain rfl := ht (by decide); exact step_s0 x hx
  · obtain rfl := hi (by decide); obtain rfl := hg (by decide); obtain rfl := hm (by decide); obtain rfl := ht (by decide); exact step_s1 x hx
  · obtain rfl := hg (by decide); obtain rfl := hm (by decide); obtain rfl := ht (by decide); exact step_s2 i x hx
  · obtain rfl := hi (by decide); obtain rfl := hg (by decide); obtain rfl := hm (by decide); obtain rfl := ht (by decide); exact step_s3 x hx
  · obtain rfl := hi (by decide); obtain rfl := ht (by decide); exact step_s4 m g x hx
  · obtain rfl := ht (by decide); exact step_s5 m i g x hx
  · obtain rfl := hi (by decide); obtain rfl := hg (by decide); obtain rfl := hm (by decide); obtain rfl := ht (by decide); exact step_s6 x hx
  · obtain rfl := hi (by decide); obtain rfl := hg (by decide); obtain rfl := hm (by decide); exact step_s7 t x hx
  · obtain rfl := hi (by decide); obtain rfl := hg (by decide); obtain rfl := hm (by decide); exact step_s8 t x hx
  · obtain rfl := hi (by decide); obtain rfl := hg (by decide); obtain rfl := hm (by decide); obtain rfl := ht (by decide); exact step_s9 x hx
  · obtain rfl := hi (by decide); obtain rfl := hg (by decide); obtain rfl := hm (by decide); obtain rfl := ht (by decide); exact step_s10 x hx
theorem csi_pl (p : Ps) (x : Int) (a : Option Addr) (c : Nat) (L : List Int) : (csiU p x (a, c, L)).1 = (csiU p x (none, 0, L)).1 ∧ (csiU p x (a, c, L)).2.map plA = (csiU p x (none, 0, L)).2.map plA := by
  have h : plA (finA p.2.2.1 (4, x, p.2.1, p.2.2.1, (a, c, L), e0)) = plA (finA p.2.2.1 (4, x, p.2.1, p.2.2.1, (none, 0, L), e0)) := by
    unfold finA
    split <;> rfl
  unfold csiU
  by_cases h1 : p.1 = 6
  · rw [if_pos h1, if_pos h1]; exact ⟨rfl, rfl⟩
  rw [if_neg h1, if_neg h1]
  by_cases h2 : x < 48
  · rw [if_pos h2, if_pos h2]; exact ⟨rfl, rfl⟩
  rw [if_neg h2, if_neg h2]
  by_cases h3 : 64 ≤ x
  · rw [if_pos h3, if_pos h3]; exact ⟨rfl, congrArg (fun z => [z]) h⟩
  rw [if_neg h3, if_neg h3]
  exact ⟨rfl, rfl⟩
theorem rest_pl (p : Ps) (x : Int) (a : Option Addr) (c : Nat) (L : List Int) : (restU p x (a, c, L)).1 = (restU p x (none, 0, L)).1 ∧ (restU p x (a, c, L)).2.map plA = (restU p x (none, 0, L)).2.map plA := by
  unfold restU
  by_cases h1 : x < 32 ∨ (127 ≤ x ∧ x ≤ 159)
  · rw [if_pos h1, if_pos h1]; exact ⟨rfl, rfl⟩
  rw [if_neg h1, if_neg h1]
  by_cases h2 : p.1 = 0
  · rw [if_pos h2, if_pos h2]; exact ⟨rfl, rfl⟩
  rw [if_neg h2, if_neg h2]
  by_cases h3 : 160 ≤ x
  · rw [if_pos h3, if_pos h3]; exact ⟨rfl, rfl⟩
  rw [if_neg h3, if_neg h3]
  by_cases h4 : p.1 ≤ 2
  · rw [if_pos h4, if_pos h4]; exact ⟨rfl, rfl⟩
  rw [if_neg h4, if_neg h4]
  exact csi_pl p x a c L
/-- take, whatever the row's place. -/
theorem take_pl (p : Ps) (x : Int) (a : Option Addr) (c : Nat) : (takeU p x (a, c, (readA p.2.2.2.1).1)).1 = (takeP p x).1 ∧ (takeU p x (a, c, (readA p.2.2.2.1).1)).2.map plA = (takeP p x).2 := by
  unfold takeP takeU
  dsimp only
  by_cases h1 : x < 0 ∨ 1114111 < x
  · rw [if_pos h1, if_pos h1]; exact ⟨rfl, rfl⟩
  rw [if_neg h1, if_neg h1]
  by_cases h2 : p.1 = 7 ∨ p.1 = 9
  · rw [if_pos h2, if_pos h2]; exact ⟨rfl, rfl⟩
  rw [if_neg h2, if_neg h2]
  by_cases h3 : p.1 = 8 ∨ p.1 = 10
  · rw [if_pos h3, if_pos h3]
    by_cases h4 : x = 92
    · rw [if_pos h4, if_pos h4]; exact ⟨rfl, rfl⟩
    rw [if_neg h4, if_neg h4]
    have h := rest_pl (sP 1) x a c (readA p.2.2.2.1).1
    refine ⟨h.1, ?_⟩
    rw [List.map_cons, List.map_cons, h.2]
  rw [if_neg h3, if_neg h3]
  exact rest_pl p x a c _
end Go.Proofs.YtflmckoolagikaaDoor
