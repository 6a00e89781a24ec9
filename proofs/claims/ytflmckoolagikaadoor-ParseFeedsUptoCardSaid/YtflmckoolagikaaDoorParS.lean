/- The parser in plain Lean: a step keeps a parser right; all runes. -/
import Derived.Test.YtflmckoolagikaaDoorParR
import Derived.Test.YtflmckoolagikaaDoorPar6
namespace Go.Proofs.YtflmckoolagikaaDoor
open Go Go.RowKit Go.Fw Go.Sx
set_option maxRecDepth 100000
set_option maxHeartbeats 1000000
theorem inI_iff (i : ByteArray) : inI i 3 = 1 ↔ ((∀ x ∈ nums i, inB x = true) ∧ i.size ≤ 3) := by
  unfold inI
  rw [← List.all_eq_true]
  by_cases h : (nums i).all inB = true ∧ (i.size : Int) ≤ 3
  · rw [if_pos h]; exact ⟨fun _ => ⟨h.1, by omega⟩, fun _ => rfl⟩
  · rw [if_neg h]; exact ⟨fun e => absurd e (by decide), fun e => absurd ⟨e.1, by omega⟩ h⟩
theorem okI_iff (g : ByteArray) : okI g = 1 ↔ (∀ x ∈ nums g, okA x = true) := by
  unfold okI
  rw [← List.all_eq_true]
  by_cases h : (nums g).all okA = true
  · rw [if_pos h]; exact ⟨fun _ => h, fun _ => rfl⟩
  · rw [if_neg h]; exact ⟨fun e => absurd e (by decide), fun e => absurd e h⟩
theorem ok_mk (s m : Int) (i g t : ByteArray) : okP (s, m, i, g, t) ↔ ((0 ≤ s ∧ s ≤ 10) ∧ (m = 0 ∨ ((60 ≤ m ∧ m ≤ 63) ∧ (s = 4 ∨ s = 5))) ∧ ((∀ x ∈ nums i, inB x = true) ∧ i.size ≤ 3) ∧ (0 < i.size ↔ (s = 2 ∨ s = 5)) ∧ (∀ x ∈ nums g, okA x = true) ∧ g.size ≤ 100 ∧ (g.size = 0 ∨ s = 4 ∨ s = 5) ∧ t.size ≤ 256 ∧ (t.size = 0 ∨ s = 7 ∨ s = 8)) := by
  rw [← inI_iff, ← okI_iff]
  exact Iff.rfl
theorem ok_sP (k : Int) (h : 0 ≤ k ∧ k ≤ 10) (h2 : k ≠ 2) (h5 : k ≠ 5) : okP (sP k) := by
  refine (ok_mk k 0 e0 e0 e0).2 ⟨h, .inl rfl, ⟨fun _ h => (nomatch h), Nat.zero_le _⟩, ⟨fun h => absurd h (by decide), fun h => by omega⟩, fun _ h => (nomatch h), Nat.zero_le _, .inl rfl, Nat.zero_le _, .inl rfl⟩
theorem ite_ne {c : Prop} [Decidable c] {a b k : Nat} (ha : a ≠ k) (hb : b ≠ k) : (if c then a else b) ≠ k := by split <;> assumption
theorem cls4 {x : Int} (h : clsN x = 4) : 32 ≤ x ∧ x ≤ 47 := by
  refine Classical.byContradiction fun hn => absurd h ?_
  unfold clsN
  rw [if_neg hn]
  repeat' (first | decide | apply ite_ne)
theorem cls6 {x : Int} (h : clsN x = 6) : 48 ≤ x ∧ x ≤ 59 ∧ x ≠ 58 := by
  refine Classical.byContradiction fun hn => absurd h ?_
  unfold clsN
  by_cases h8 : x = 58
  · rw [if_pos h8]
    repeat' (first | decide | apply ite_ne)
  · rw [if_neg (show ¬ (48 ≤ x ∧ x ≤ 59) from fun e => hn ⟨e.1, e.2, h8⟩)]
    repeat' (first | decide | apply ite_ne)
theorem cls7 {x : Int} (h : clsN x = 7) : 60 ≤ x ∧ x ≤ 63 := by
  refine Classical.byContradiction fun hn => absurd h ?_
  unfold clsN
  rw [if_neg hn]
  repeat' (first | decide | apply ite_ne)
def tabOk (k n : Nat) : Bool :=
  ((tabL k).getD n 0 != 73 || (n == 4 && (k == 1 || k == 3 || k == 4))) && ((tabL k).getD n 0 != 74 || (n == 4 && (k == 2 || k == 5))) && ((tabL k).getD n 0 != 65 || (n == 6 && (k == 3 || k == 4))) &&
  ((tabL k).getD n 0 != 77 || (n == 7 && k == 3)) && ((tabL k).getD n 0 != 90 || (k == 7 || k == 9)) && ((tabL k).getD n 0 != 87 || k == 7)
theorem tab_all : (List.range 11).all (fun k => (List.range 15).all (tabOk k)) = true := by decide +kernel
theorem tab_fact (w : Int) (s : Int) (n : Nat) (hs : 0 ≤ s ∧ s ≤ 10) (hn : n < 15) (h : (tabL s).getD n 0 = w) :
    (w = 73 → n = 4 ∧ (s = 1 ∨ s = 3 ∨ s = 4)) ∧ (w = 74 → n = 4 ∧ (s = 2 ∨ s = 5)) ∧ (w = 65 → n = 6 ∧ (s = 3 ∨ s = 4)) ∧ (w = 77 → n = 7 ∧ s = 3) ∧ (w = 90 → s = 7 ∨ s = 9) ∧ (w = 87 → s = 7) := by
  obtain ⟨k, rfl⟩ : ∃ k : Nat, s = k := ⟨s.toNat, by omega⟩
  have h1 := List.all_eq_true.1 (List.all_eq_true.1 tab_all k (List.mem_range.2 (by omega))) n (List.mem_range.2 hn)
  unfold tabOk at h1
  rw [h] at h1
  simp only [Bool.and_eq_true, Bool.or_eq_true, bne_iff_ne, ne_eq, beq_iff_eq] at h1
  obtain ⟨⟨⟨⟨⟨a1, a2⟩, a3⟩, a4⟩, a5⟩, a6⟩ := h1
  clear h
  refine ⟨fun e => ?_, fun e => ?_, fun e => ?_, fun e => ?_, fun e => ?_, fun e => ?_⟩
  · have := a1.resolve_left (fun x => x e); omega
  · have := a2.resolve_left (fun x => x e); omega
  · have := a3.resolve_left (fun x => x e); omega
  · have := a4.resolve_left (fun x => x e); omega
  · have := a5.resolve_left (fun x => x e); omega
  · have := a6.resolve_left (fun x => x e); omega
theorem size_sign {x : Int} (h : 0 ≤ x ∧ x < 128) : (signB x).size = 1 ∧ nums (signB x) = [x] := by
  unfold signB
  rw [if_pos h.2]
  exact ⟨by rw [strOfNums_size]; rfl, nums_strOf fun y hy => by rw [List.mem_singleton] at hy; omega⟩
theorem size_cat (a b : ByteArray) : (a ++ b).size = a.size + b.size := by
  rw [← nums_length, nums_append, List.length_append, nums_length, nums_length]
theorem stepW_ok (p : Ps) (x w : Int) (R : Ps × List Pa) (hp : okP p) (hw : whatQ p.1 x = w) (hR : okP R.1) : okP (stepW p x w R).1 := by
  obtain ⟨s, m, i, g, t⟩ := p
  have hp0 := hp
  rw [ok_mk] at hp
  obtain ⟨h1, h2, h3, h4, h5, h6, h7, h8, h9⟩ := hp
  have hw2 : w = 46 ∨ whatP s x = w := by
    dsimp only at hw
    unfold whatQ at hw
    split at hw
    · exact .inl hw.symm
    · exact .inr hw
  have hf : w = 46 ∨ ((w = 73 → clsN x = 4 ∧ (s = 1 ∨ s = 3 ∨ s = 4)) ∧ (w = 74 → clsN x = 4 ∧ (s = 2 ∨ s = 5)) ∧ (w = 65 → clsN x = 6 ∧ (s = 3 ∨ s = 4)) ∧ (w = 77 → clsN x = 7 ∧ s = 3) ∧ (w = 90 → s = 7 ∨ s = 9) ∧ (w = 87 → s = 7)) :=
    hw2.imp id fun h => tab_fact w s _ h1 (clsN_lt x) h
  clear hw hw2
  unfold stepW
  dsimp only
  by_cases a1 : w = 88 ∨ w = 68
  · rw [if_pos a1]; exact ok_sP 0 (by omega) (by omega) (by omega)
  rw [if_neg a1]
  by_cases a2 : w = 69
  · rw [if_pos a2]; exact ok_sP 1 (by omega) (by omega) (by omega)
  rw [if_neg a2]
  by_cases a3 : w = 67
  · rw [if_pos a3]; exact hp0
  rw [if_neg a3]
  by_cases a4 : w = 80
  · rw [if_pos a4]; exact hp0
  rw [if_neg a4]
  by_cases a5 : w = 73
  · rw [if_pos a5]
    have hc := (hf.resolve_left (by omega)).1 a5
    have hx := cls4 hc.1
    obtain ⟨z1, z2⟩ := size_sign (x := x) (by omega)
    refine (ok_mk _ _ _ _ _).2 ⟨by split <;> omega, ?_, ⟨fun y hy => ?_, by omega⟩, ⟨fun _ => by split <;> omega, fun _ => by omega⟩, h5, h6, ?_, h8, ?_⟩
    · rcases h2 with h | h
      · exact .inl h
      · exact .inr ⟨h.1, by rw [if_neg (by omega)]; omega⟩
    · rw [z2, List.mem_singleton] at hy
      subst hy
      exact decide_eq_true hx
    · rcases h7 with h | h
      · exact .inl h
      · exact .inr (by rw [if_neg (by omega)]; omega)
    · rcases h9 with h | h
      · exact .inl h
      · omega
  rw [if_neg a5]
  by_cases a6 : w = 74
  · rw [if_pos a6]
    have hc := (hf.resolve_left (by omega)).2.1 a6
    have hx := cls4 hc.1
    obtain ⟨z1, z2⟩ := size_sign (x := x) (by omega)
    by_cases hi : i.size < 3
    · rw [if_pos hi]
      have hz := size_cat i (signB x)
      refine (ok_mk _ _ _ _ _).2 ⟨h1, h2, ⟨fun y hy => ?_, by omega⟩, ⟨fun _ => hc.2, fun _ => by omega⟩, h5, h6, h7, h8, h9⟩
      rw [nums_append, List.mem_append] at hy
      rcases hy with hy | hy
      · exact h3.1 y hy
      · rw [z2, List.mem_singleton] at hy
        subst hy
        exact decide_eq_true hx
    · rw [if_neg hi]; exact hp0
  rw [if_neg a6]
  by_cases a7 : w = 65
  · rw [if_pos a7]
    have hc := (hf.resolve_left (by omega)).2.2.1 a7
    have hx := cls6 hc.1
    obtain ⟨z1, z2⟩ := size_sign (x := x) (by omega)
    have hm : m = 0 ∨ ((60 ≤ m ∧ m ≤ 63) ∧ ((4 : Int) = 4 ∨ (4 : Int) = 5)) := h2.imp id fun h => ⟨h.1, .inl rfl⟩
    have hi4 : 0 < i.size ↔ ((4 : Int) = 2 ∨ (4 : Int) = 5) := ⟨fun h => by have := h4.1 h; omega, fun h => by omega⟩
    have ht4 : t.size = 0 ∨ (4 : Int) = 7 ∨ (4 : Int) = 8 := .inl (h9.resolve_right (by omega))
    by_cases hi : g.size < 100
    · rw [if_pos hi]
      have hz := size_cat g (signB x)
      refine (ok_mk _ _ _ _ _).2 ⟨by omega, hm, h3, hi4, fun y hy => ?_, by omega, by omega, h8, ht4⟩
      rw [nums_append, List.mem_append] at hy
      rcases hy with hy | hy
      · exact h5 y hy
      · rw [z2, List.mem_singleton] at hy
        subst hy
        unfold okA
        rw [decide_eq_true_eq]
        omega
    · rw [if_neg hi]
      exact (ok_mk _ _ _ _ _).2 ⟨by omega, hm, h3, hi4, h5, h6, by omega, h8, ht4⟩
  rw [if_neg a7]
  by_cases a8 : w = 77
  · rw [if_pos a8]
    have hc := (hf.resolve_left (by omega)).2.2.2.1 a8
    have hx := cls7 hc.1
    exact (ok_mk _ _ _ _ _).2 ⟨by omega, .inr ⟨hx, .inl rfl⟩, ⟨fun _ h => (nomatch h), Nat.zero_le _⟩, ⟨fun h => absurd h (by decide), fun h => by omega⟩, fun _ h => (nomatch h), Nat.zero_le _, .inl rfl, Nat.zero_le _, .inl rfl⟩
  rw [if_neg a8]
  by_cases a9 : w = 71
  · rw [if_pos a9]; exact ok_sP 6 (by omega) (by omega) (by omega)
  rw [if_neg a9]
  by_cases a10 : w = 83
  · rw [if_pos a10]; exact ok_sP 3 (by omega) (by omega) (by omega)
  rw [if_neg a10]
  by_cases a11 : w = 79
  · rw [if_pos a11]; exact ok_sP 7 (by omega) (by omega) (by omega)
  rw [if_neg a11]
  by_cases a12 : w = 84
  · rw [if_pos a12]; exact ok_sP 9 (by omega) (by omega) (by omega)
  rw [if_neg a12]
  by_cases a13 : w = 90
  · rw [if_pos a13]
    have hc := (hf.resolve_left (by omega)).2.2.2.2.1 a13
    exact (ok_mk _ _ _ _ _).2 ⟨by omega, by omega, h3, ⟨fun h => by have := h4.1 h; omega, fun h => by omega⟩, h5, h6, by omega, h8, by omega⟩
  rw [if_neg a13]
  by_cases a14 : w = 87
  · rw [if_pos a14]
    have hc := (hf.resolve_left (by omega)).2.2.2.2.2 a14
    by_cases hz : t.size + (rtB x).size ≤ 256
    · rw [if_pos hz]
      have hzz := size_cat t (rtB x)
      exact (ok_mk _ _ _ _ _).2 ⟨h1, h2, h3, h4, h5, h6, h7, by omega, .inr (.inl hc)⟩
    · rw [if_neg hz]; exact hp0
  rw [if_neg a14]
  by_cases a15 : w = 89
  · rw [if_pos a15]; exact ok_sP 0 (by omega) (by omega) (by omega)
  rw [if_neg a15]
  by_cases a16 : w = 70
  · rw [if_pos a16]; exact ok_sP 0 (by omega) (by omega) (by omega)
  rw [if_neg a16]
  by_cases a17 : w = 82
  · rw [if_pos a17]; exact hR
  rw [if_neg a17]
  exact hp0
theorem step1_ok (x : Int) : okP (step1 x).1 := stepW_ok (sP 1) x _ _ (ok_sP 1 (by omega) (by omega) (by omega)) rfl (ok_sP 1 (by omega) (by omega) (by omega))
/-- A right parser's step leaves a right parser. -/
theorem stepP_ok (p : Ps) (x : Int) (hp : okP p) : okP (stepP p x).1 := by
  unfold stepP
  split
  · exact hp
  · exact stepW_ok p x _ _ hp rfl (step1_ok x)
/-- All runes. -/
def runP (p : Ps) (L : List Int) : Ps × List Pa := L.foldl (fun z x => ((stepP z.1 x).1, z.2 ++ (stepP z.1 x).2)) (p, [])
theorem runP_snoc (p : Ps) (L : List Int) (x : Int) : runP p (L ++ [x]) = ((stepP (runP p L).1 x).1, (runP p L).2 ++ (stepP (runP p L).1 x).2) := by
  unfold runP
  rw [List.foldl_append]
  rfl
theorem runP_take {p : Ps} {L : List Int} {k : Nat} {x : Int} (h : L[k]? = some x) : runP p (L.take (k + 1)) = ((stepP (runP p (L.take k)).1 x).1, (runP p (L.take k)).2 ++ (stepP (runP p (L.take k)).1 x).2) := by
  rw [← runP_snoc, List.take_add_one, h]
  rfl
theorem ite_len2 {c : Prop} [Decidable c] {a b : Ps × List Pa} (ha : a.2.length ≤ 2) (hb : b.2.length ≤ 2) : (if c then a else b).2.length ≤ 2 := by split <;> assumption
theorem ite_l1 {c : Prop} [Decidable c] : (if c then ([] : List Pa) else [dP]).length ≤ 2 := by
  split
  · exact Nat.zero_le _
  · exact Nat.le_succ 1
theorem stepP_len (p : Ps) (x : Int) : (stepP p x).2.length ≤ 2 := by
  unfold stepP
  refine ite_len2 (Nat.zero_le _) ?_
  have h1 := step1_len x
  unfold stepW
  repeat' (first | exact Nat.zero_le _ | exact Nat.le_succ 1 | exact Nat.succ_le_succ h1 | exact ite_l1 | apply ite_len2)
end Go.Proofs.YtflmckoolagikaaDoor
