/- The parser in plain Lean: what the program's machine does is what the document says. -/
import Derived.Test.YtflmckoolagikaaDoorParP
namespace Go.Proofs.YtflmckoolagikaaDoor
open Go Go.RowKit Go.Fw Go.Sx
set_option maxRecDepth 100000
set_option maxHeartbeats 4000000
def takeP (p : Ps) (x : Int) : Ps × List Pa := ((takeU p x (none, 0, (readA p.2.2.2.1).1)).1, (takeU p x (none, 0, (readA p.2.2.2.1).1)).2.map plA)
theorem cls_cases (x : Int) (hx : 0 ≤ x ∧ x ≤ 1114111) :
    ((x = 24 ∨ x = 26) ∧ clsN x = 0) ∨ (x = 27 ∧ clsN x = 1) ∨ (x = 7 ∧ clsN x = 2) ∨ (((0 ≤ x ∧ x ≤ 31) ∧ x ≠ 24 ∧ x ≠ 26 ∧ x ≠ 27 ∧ x ≠ 7) ∧ clsN x = 3) ∨ ((32 ≤ x ∧ x ≤ 47) ∧ clsN x = 4) ∨ (x = 58 ∧ clsN x = 5)
    ∨ (((48 ≤ x ∧ x ≤ 59) ∧ x ≠ 58) ∧ clsN x = 6) ∨ ((60 ≤ x ∧ x ≤ 63) ∧ clsN x = 7) ∨ (x = 91 ∧ clsN x = 8) ∨ (x = 93 ∧ clsN x = 9) ∨ (x = 92 ∧ clsN x = 10) ∨ ((x = 80 ∨ x = 88 ∨ x = 94 ∨ x = 95) ∧ clsN x = 11)
    ∨ (((64 ≤ x ∧ x ≤ 126) ∧ x ≠ 91 ∧ x ≠ 92 ∧ x ≠ 93 ∧ ¬ (x = 80 ∨ x = 88 ∨ x = 94 ∨ x = 95)) ∧ clsN x = 12) ∨ ((127 ≤ x ∧ x ≤ 159) ∧ clsN x = 13) ∨ ((160 ≤ x ∧ x ≤ 1114111) ∧ clsN x = 14) := by
  obtain ⟨n, hn⟩ : ∃ n, clsN x = n := ⟨_, rfl⟩
  rw [hn]
  unfold clsN at hn
  by_cases h0 : x = 24 ∨ x = 26
  · rw [if_pos h0] at hn
    exact .inl ⟨by omega, hn.symm⟩
  rw [if_neg h0] at hn
  by_cases h1 : x = 27
  · rw [if_pos h1] at hn
    exact .inr (.inl ⟨by omega, hn.symm⟩)
  rw [if_neg h1] at hn
  by_cases h2 : x = 7
  · rw [if_pos h2] at hn
    exact .inr (.inr (.inl ⟨by omega, hn.symm⟩))
  rw [if_neg h2] at hn
  by_cases h3 : 0 ≤ x ∧ x ≤ 31
  · rw [if_pos h3] at hn
    exact .inr (.inr (.inr (.inl ⟨by omega, hn.symm⟩)))
  rw [if_neg h3] at hn
  by_cases h4 : 32 ≤ x ∧ x ≤ 47
  · rw [if_pos h4] at hn
    exact .inr (.inr (.inr (.inr (.inl ⟨by omega, hn.symm⟩))))
  rw [if_neg h4] at hn
  by_cases h5 : x = 58
  · rw [if_pos h5] at hn
    exact .inr (.inr (.inr (.inr (.inr (.inl ⟨by omega, hn.symm⟩)))))
  rw [if_neg h5] at hn
  by_cases h6 : 48 ≤ x ∧ x ≤ 59
  · rw [if_pos h6] at hn
    exact .inr (.inr (.inr (.inr (.inr (.inr (.inl ⟨by omega, hn.symm⟩))))))
  rw [if_neg h6] at hn
  by_cases h7 : 60 ≤ x ∧ x ≤ 63
  · rw [if_pos h7] at hn
    exact .inr (.inr (.inr (.inr (.inr (.inr (.inr (.inl ⟨by omega, hn.symm⟩)))))))
  rw [if_neg h7] at hn
  by_cases h8 : x = 91
  · rw [if_pos h8] at hn
    exact .inr (.inr (.inr (.inr (.inr (.inr (.inr (.inr (.inl ⟨by omega, hn.symm⟩))))))))
  rw [if_neg h8] at hn
  by_cases h9 : x = 93
  · rw [if_pos h9] at hn
    exact .inr (.inr (.inr (.inr (.inr (.inr (.inr (.inr (.inr (.inl ⟨by omega, hn.symm⟩)))))))))
  rw [if_neg h9] at hn
  by_cases h10 : x = 92
  · rw [if_pos h10] at hn
    exact .inr (.inr (.inr (.inr (.inr (.inr (.inr (.inr (.inr (.inr (.inl ⟨by omega, hn.symm⟩))))))))))
  rw [if_neg h10] at hn
  by_cases h11 : x = 80 ∨ x = 88 ∨ x = 94 ∨ x = 95
  · rw [if_pos h11] at hn
    exact .inr (.inr (.inr (.inr (.inr (.inr (.inr (.inr (.inr (.inr (.inr (.inl ⟨by omega, hn.symm⟩)))))))))))
  rw [if_neg h11] at hn
  by_cases h12 : 64 ≤ x ∧ x ≤ 126
  · rw [if_pos h12] at hn
    exact .inr (.inr (.inr (.inr (.inr (.inr (.inr (.inr (.inr (.inr (.inr (.inr (.inl ⟨by omega, hn.symm⟩))))))))))))
  rw [if_neg h12] at hn
  by_cases h13 : 160 ≤ x ∧ x ≤ 1114111
  · rw [if_pos h13] at hn
    exact .inr (.inr (.inr (.inr (.inr (.inr (.inr (.inr (.inr (.inr (.inr (.inr (.inr (.inr (⟨by omega, hn.symm⟩))))))))))))))
  rw [if_neg h13] at hn
  exact .inr (.inr (.inr (.inr (.inr (.inr (.inr (.inr (.inr (.inr (.inr (.inr (.inr (.inl ⟨by omega, hn.symm⟩)))))))))))))
theorem step_s0 (x : Int) (hx : 0 ≤ x ∧ x ≤ 1114111) : takeP (sP 0) x = stepP (sP 0) x := by
  have hc := cls_cases x hx
  rcases hc with h | h | h | h | h | h | h | h | h | h | h | h | h | h | h
  all_goals
    obtain ⟨h, hN⟩ := h
    unfold stepP takeP takeU restU ctlU escU csiU textU
    rw [show whatQ (sP 0).1 x = _ from by unfold whatQ whatP; rw [hN]]
    unfold stepW
    dsimp only
    (repeat (first | rw [if_pos (by first | assumption | omega)] | rw [if_neg (by first | assumption | omega)]))
    first | done | rfl
theorem e0_app (s : ByteArray) : e0 ++ s = s := by apply ByteArray.ext; simp
theorem more_e0 (x : Int) : moreU e0 x = strOfNums [x] := by unfold moreU; rw [if_pos (by decide), e0_app]
theorem arg_e0 (x : Int) : argU e0 x = strOfNums [x] := by unfold argU; rw [if_pos (by decide), e0_app]
theorem sign_s (x : Int) (h : x < 128) : signB x = strOfNums [x] := if_pos h
theorem fin2 (i : ByteArray) (x : Int) : plA (finA i (3, x, 0, i, nA, e0)) = finP (2, 0, i, e0, e0) x := by
  unfold finA finP
  dsimp only
  by_cases h : i.size = 3
  · rw [if_pos h, if_pos h]; rfl
  · rw [if_neg h, if_neg h, if_pos (by omega)]; rfl
theorem fin5 (m x : Int) (i g : ByteArray) : plA (finA i (4, x, m, i, (none, 0, (readA g).1), e0)) = finP (5, m, i, g, e0) x := by
  unfold finA finP
  dsimp only
  by_cases h : i.size = 3
  · rw [if_pos h, if_pos h]; rfl
  · rw [if_neg h, if_neg h, if_neg (by omega)]; rfl
theorem put7 (t : ByteArray) (x : Int) : putT t x = if t.size + (rtB x).size ≤ 256 then t ++ rtB x else t := by
  have h : strOfNums (encL [x]) = rtB x := by unfold rtB encL; simp
  unfold putT
  rw [h, ByteArray.size_append]
theorem step_s1 (x : Int) (hx : 0 ≤ x ∧ x ≤ 1114111) : takeP (sP 1) x = stepP (sP 1) x := by
  have hc := cls_cases x hx
  rcases hc with h | h | h | h | h | h | h | h | h | h | h | h | h | h | h
  all_goals
    obtain ⟨h, hN⟩ := h
    unfold stepP takeP takeU restU ctlU escU csiU textU
    first | rw [show whatQ (sP 1).1 x = _ from by unfold whatQ whatP; rw [hN]]
    first | skip
    unfold stepW
    dsimp only
    (repeat (first | rw [if_pos (by first | assumption | omega)] | rw [if_neg (by first | assumption | omega)]))
    first | done | rfl | (rw [List.map_cons, fin2]; rfl) | (rw [List.map_cons, fin5]; rfl) | (rw [put7]; rfl) | (rw [more_e0, sign_s x (by omega)]; rfl) | (rw [arg_e0, sign_s x (by omega)]; rfl) | (rw [sign_s x (by omega)]; rfl)
theorem step_s3 (x : Int) (hx : 0 ≤ x ∧ x ≤ 1114111) : takeP (sP 3) x = stepP (sP 3) x := by
  have hc := cls_cases x hx
  rcases hc with h | h | h | h | h | h | h | h | h | h | h | h | h | h | h
  all_goals
    obtain ⟨h, hN⟩ := h
    unfold stepP takeP takeU restU ctlU escU csiU textU
    first | rw [show whatQ (sP 3).1 x = _ from by unfold whatQ whatP; rw [hN]]
    first | skip
    unfold stepW
    dsimp only
    (repeat (first | rw [if_pos (by first | assumption | omega)] | rw [if_neg (by first | assumption | omega)]))
    first | done | rfl | (rw [List.map_cons, fin2]; rfl) | (rw [List.map_cons, fin5]; rfl) | (rw [put7]; rfl) | (rw [more_e0, sign_s x (by omega)]; rfl) | (rw [arg_e0, sign_s x (by omega)]; rfl) | (rw [sign_s x (by omega)]; rfl)
theorem step_s6 (x : Int) (hx : 0 ≤ x ∧ x ≤ 1114111) : takeP (sP 6) x = stepP (sP 6) x := by
  have hc := cls_cases x hx
  rcases hc with h | h | h | h | h | h | h | h | h | h | h | h | h | h | h
  all_goals
    obtain ⟨h, hN⟩ := h
    unfold stepP takeP takeU restU ctlU escU csiU textU
    first | rw [show whatQ (sP 6).1 x = _ from by unfold whatQ whatP; rw [hN]]
    first | skip
    unfold stepW
    dsimp only
    (repeat (first | rw [if_pos (by first | assumption | omega)] | rw [if_neg (by first | assumption | omega)]))
    first | done | rfl | (rw [List.map_cons, fin2]; rfl) | (rw [List.map_cons, fin5]; rfl) | (rw [put7]; rfl) | (rw [more_e0, sign_s x (by omega)]; rfl) | (rw [arg_e0, sign_s x (by omega)]; rfl) | (rw [sign_s x (by omega)]; rfl)
theorem step_s9 (x : Int) (hx : 0 ≤ x ∧ x ≤ 1114111) : takeP (sP 9) x = stepP (sP 9) x := by
  have hc := cls_cases x hx
  rcases hc with h | h | h | h | h | h | h | h | h | h | h | h | h | h | h
  all_goals
    obtain ⟨h, hN⟩ := h
    unfold stepP takeP takeU restU ctlU escU csiU textU
    first | rw [show whatQ (sP 9).1 x = _ from by unfold whatQ whatP; rw [hN]]
    first | skip
    unfold stepW
    dsimp only
    (repeat (first | rw [if_pos (by first | assumption | omega)] | rw [if_neg (by first | assumption | omega)]))
    first | done | rfl | (rw [List.map_cons, fin2]; rfl) | (rw [List.map_cons, fin5]; rfl) | (rw [put7]; rfl) | (rw [more_e0, sign_s x (by omega)]; rfl) | (rw [arg_e0, sign_s x (by omega)]; rfl) | (rw [sign_s x (by omega)]; rfl)
theorem step_s10 (x : Int) (hx : 0 ≤ x ∧ x ≤ 1114111) : takeP (sP 10) x = stepP (sP 10) x := by
  have hc := cls_cases x hx
  rcases hc with h | h | h | h | h | h | h | h | h | h | h | h | h | h | h
  all_goals
    obtain ⟨h, hN⟩ := h
    unfold stepP takeP takeU restU ctlU escU csiU textU
    first | rw [show whatQ (sP 10).1 x = 82 from by unfold whatQ whatP; rw [hN]; rfl] | rw [show whatQ (sP 10).1 x = 88 from by unfold whatQ whatP; rw [hN]; rfl] | rw [show whatQ (sP 10).1 x = 69 from by unfold whatQ whatP; rw [hN]; rfl] | rw [show whatQ (sP 10).1 x = 67 from by unfold whatQ whatP; rw [hN]; rfl] | rw [show whatQ (sP 10).1 x = 80 from by unfold whatQ whatP; rw [hN]; rfl] | rw [show whatQ (sP 10).1 x = 73 from by unfold whatQ whatP; rw [hN]; rfl] | rw [show whatQ (sP 10).1 x = 70 from by unfold whatQ whatP; rw [hN]; rfl] | rw [show whatQ (sP 10).1 x = 83 from by unfold whatQ whatP; rw [hN]; rfl] | rw [show whatQ (sP 10).1 x = 79 from by unfold whatQ whatP; rw [hN]; rfl] | rw [show whatQ (sP 10).1 x = 84 from by unfold whatQ whatP; rw [hN]; rfl] | rw [show whatQ (sP 10).1 x = 46 from by unfold whatQ whatP; rw [hN]; rfl] | rw [show whatQ (sP 10).1 x = 68 from by unfold whatQ whatP; rw [hN]; rfl] | rw [show whatQ (sP 10).1 x = 74 from by unfold whatQ whatP; rw [hN]; rfl] | rw [show whatQ (sP 10).1 x = 71 from by unfold whatQ whatP; rw [hN]; rfl] | rw [show whatQ (sP 10).1 x = 65 from by unfold whatQ whatP; rw [hN]; rfl] | rw [show whatQ (sP 10).1 x = 77 from by unfold whatQ whatP; rw [hN]; rfl] | rw [show whatQ (sP 10).1 x = 90 from by unfold whatQ whatP; rw [hN]; rfl] | rw [show whatQ (sP 10).1 x = 89 from by unfold whatQ whatP; rw [hN]; rfl] | rw [show whatQ (sP 10).1 x = 87 from by unfold whatQ whatP; rw [hN]; rfl]
    first | rw [show step1 x = stepW (sP 1) x 82 (sP 1, []) from by unfold step1 whatQ whatP; rw [hN]; rfl] | rw [show step1 x = stepW (sP 1) x 88 (sP 1, []) from by unfold step1 whatQ whatP; rw [hN]; rfl] | rw [show step1 x = stepW (sP 1) x 69 (sP 1, []) from by unfold step1 whatQ whatP; rw [hN]; rfl] | rw [show step1 x = stepW (sP 1) x 67 (sP 1, []) from by unfold step1 whatQ whatP; rw [hN]; rfl] | rw [show step1 x = stepW (sP 1) x 80 (sP 1, []) from by unfold step1 whatQ whatP; rw [hN]; rfl] | rw [show step1 x = stepW (sP 1) x 73 (sP 1, []) from by unfold step1 whatQ whatP; rw [hN]; rfl] | rw [show step1 x = stepW (sP 1) x 70 (sP 1, []) from by unfold step1 whatQ whatP; rw [hN]; rfl] | rw [show step1 x = stepW (sP 1) x 83 (sP 1, []) from by unfold step1 whatQ whatP; rw [hN]; rfl] | rw [show step1 x = stepW (sP 1) x 79 (sP 1, []) from by unfold step1 whatQ whatP; rw [hN]; rfl] | rw [show step1 x = stepW (sP 1) x 84 (sP 1, []) from by unfold step1 whatQ whatP; rw [hN]; rfl] | rw [show step1 x = stepW (sP 1) x 46 (sP 1, []) from by unfold step1 whatQ whatP; rw [hN]; rfl] | rw [show step1 x = stepW (sP 1) x 68 (sP 1, []) from by unfold step1 whatQ whatP; rw [hN]; rfl] | rw [show step1 x = stepW (sP 1) x 74 (sP 1, []) from by unfold step1 whatQ whatP; rw [hN]; rfl] | rw [show step1 x = stepW (sP 1) x 71 (sP 1, []) from by unfold step1 whatQ whatP; rw [hN]; rfl] | rw [show step1 x = stepW (sP 1) x 65 (sP 1, []) from by unfold step1 whatQ whatP; rw [hN]; rfl] | rw [show step1 x = stepW (sP 1) x 77 (sP 1, []) from by unfold step1 whatQ whatP; rw [hN]; rfl] | rw [show step1 x = stepW (sP 1) x 90 (sP 1, []) from by unfold step1 whatQ whatP; rw [hN]; rfl] | rw [show step1 x = stepW (sP 1) x 89 (sP 1, []) from by unfold step1 whatQ whatP; rw [hN]; rfl] | rw [show step1 x = stepW (sP 1) x 87 (sP 1, []) from by unfold step1 whatQ whatP; rw [hN]; rfl]
    unfold stepW
    dsimp only
    (repeat (first | rw [if_pos (by first | assumption | omega)] | rw [if_neg (by first | assumption | omega)]))
    first | done | rfl | (rw [List.map_cons, fin2]; rfl) | (rw [List.map_cons, fin5]; rfl) | (rw [put7]; rfl) | (rw [more_e0, sign_s x (by omega)]; rfl) | (rw [arg_e0, sign_s x (by omega)]; rfl) | (rw [sign_s x (by omega)]; rfl)
theorem step_s2 (i : ByteArray) (x : Int) (hx : 0 ≤ x ∧ x ≤ 1114111) : takeP (((2, 0, i, e0, e0) : Ps)) x = stepP (((2, 0, i, e0, e0) : Ps)) x := by
  have hc := cls_cases x hx
  rcases hc with h | h | h | h | h | h | h | h | h | h | h | h | h | h | h
  all_goals
    obtain ⟨h, hN⟩ := h
    unfold stepP takeP takeU restU ctlU escU csiU textU
    first | rw [show whatQ (((2, 0, i, e0, e0) : Ps)).1 x = 82 from by unfold whatQ whatP; rw [hN]; rfl] | rw [show whatQ (((2, 0, i, e0, e0) : Ps)).1 x = 88 from by unfold whatQ whatP; rw [hN]; rfl] | rw [show whatQ (((2, 0, i, e0, e0) : Ps)).1 x = 69 from by unfold whatQ whatP; rw [hN]; rfl] | rw [show whatQ (((2, 0, i, e0, e0) : Ps)).1 x = 67 from by unfold whatQ whatP; rw [hN]; rfl] | rw [show whatQ (((2, 0, i, e0, e0) : Ps)).1 x = 80 from by unfold whatQ whatP; rw [hN]; rfl] | rw [show whatQ (((2, 0, i, e0, e0) : Ps)).1 x = 73 from by unfold whatQ whatP; rw [hN]; rfl] | rw [show whatQ (((2, 0, i, e0, e0) : Ps)).1 x = 70 from by unfold whatQ whatP; rw [hN]; rfl] | rw [show whatQ (((2, 0, i, e0, e0) : Ps)).1 x = 83 from by unfold whatQ whatP; rw [hN]; rfl] | rw [show whatQ (((2, 0, i, e0, e0) : Ps)).1 x = 79 from by unfold whatQ whatP; rw [hN]; rfl] | rw [show whatQ (((2, 0, i, e0, e0) : Ps)).1 x = 84 from by unfold whatQ whatP; rw [hN]; rfl] | rw [show whatQ (((2, 0, i, e0, e0) : Ps)).1 x = 46 from by unfold whatQ whatP; rw [hN]; rfl] | rw [show whatQ (((2, 0, i, e0, e0) : Ps)).1 x = 68 from by unfold whatQ whatP; rw [hN]; rfl] | rw [show whatQ (((2, 0, i, e0, e0) : Ps)).1 x = 74 from by unfold whatQ whatP; rw [hN]; rfl] | rw [show whatQ (((2, 0, i, e0, e0) : Ps)).1 x = 71 from by unfold whatQ whatP; rw [hN]; rfl] | rw [show whatQ (((2, 0, i, e0, e0) : Ps)).1 x = 65 from by unfold whatQ whatP; rw [hN]; rfl] | rw [show whatQ (((2, 0, i, e0, e0) : Ps)).1 x = 77 from by unfold whatQ whatP; rw [hN]; rfl] | rw [show whatQ (((2, 0, i, e0, e0) : Ps)).1 x = 90 from by unfold whatQ whatP; rw [hN]; rfl] | rw [show whatQ (((2, 0, i, e0, e0) : Ps)).1 x = 89 from by unfold whatQ whatP; rw [hN]; rfl] | rw [show whatQ (((2, 0, i, e0, e0) : Ps)).1 x = 87 from by unfold whatQ whatP; rw [hN]; rfl]
    first | skip
    unfold stepW
    dsimp only
    (repeat (first | rw [if_pos (by first | assumption | omega)] | rw [if_neg (by first | assumption | omega)]))
    first | done | rfl | (rw [List.map_cons, fin2]; rfl) | (rw [List.map_cons, fin5]; rfl) | (rw [put7]; rfl) | (rw [more_e0, sign_s x (by omega)]; rfl) | (rw [arg_e0, sign_s x (by omega)]; rfl) | (rw [sign_s x (by omega)]; rfl)
theorem step_s4 (m : Int) (g : ByteArray) (x : Int) (hx : 0 ≤ x ∧ x ≤ 1114111) : takeP (((4, m, e0, g, e0) : Ps)) x = stepP (((4, m, e0, g, e0) : Ps)) x := by
  have hc := cls_cases x hx
  rcases hc with h | h | h | h | h | h | h | h | h | h | h | h | h | h | h
  all_goals
    obtain ⟨h, hN⟩ := h
    unfold stepP takeP takeU restU ctlU escU csiU textU
    first | rw [show whatQ (((4, m, e0, g, e0) : Ps)).1 x = _ from by unfold whatQ whatP; rw [hN]]
    first | skip
    unfold stepW
    dsimp only
    (repeat (first | rw [if_pos (by first | assumption | omega)] | rw [if_neg (by first | assumption | omega)]))
    first | done | rfl | (rw [List.map_cons, fin2]; rfl) | (rw [List.map_cons, fin5]; rfl) | (rw [put7]; rfl) | (rw [more_e0, sign_s x (by omega)]; rfl) | (rw [arg_e0, sign_s x (by omega)]; rfl) | (rw [sign_s x (by omega)]; rfl)
theorem step_s5 (m : Int) (i g : ByteArray) (x : Int) (hx : 0 ≤ x ∧ x ≤ 1114111) : takeP (((5, m, i, g, e0) : Ps)) x = stepP (((5, m, i, g, e0) : Ps)) x := by
  have hc := cls_cases x hx
  rcases hc with h | h | h | h | h | h | h | h | h | h | h | h | h | h | h
  all_goals
    obtain ⟨h, hN⟩ := h
    unfold stepP takeP takeU restU ctlU escU csiU textU
    first | rw [show whatQ (((5, m, i, g, e0) : Ps)).1 x = 82 from by unfold whatQ whatP; rw [hN]; rfl] | rw [show whatQ (((5, m, i, g, e0) : Ps)).1 x = 88 from by unfold whatQ whatP; rw [hN]; rfl] | rw [show whatQ (((5, m, i, g, e0) : Ps)).1 x = 69 from by unfold whatQ whatP; rw [hN]; rfl] | rw [show whatQ (((5, m, i, g, e0) : Ps)).1 x = 67 from by unfold whatQ whatP; rw [hN]; rfl] | rw [show whatQ (((5, m, i, g, e0) : Ps)).1 x = 80 from by unfold whatQ whatP; rw [hN]; rfl] | rw [show whatQ (((5, m, i, g, e0) : Ps)).1 x = 73 from by unfold whatQ whatP; rw [hN]; rfl] | rw [show whatQ (((5, m, i, g, e0) : Ps)).1 x = 70 from by unfold whatQ whatP; rw [hN]; rfl] | rw [show whatQ (((5, m, i, g, e0) : Ps)).1 x = 83 from by unfold whatQ whatP; rw [hN]; rfl] | rw [show whatQ (((5, m, i, g, e0) : Ps)).1 x = 79 from by unfold whatQ whatP; rw [hN]; rfl] | rw [show whatQ (((5, m, i, g, e0) : Ps)).1 x = 84 from by unfold whatQ whatP; rw [hN]; rfl] | rw [show whatQ (((5, m, i, g, e0) : Ps)).1 x = 46 from by unfold whatQ whatP; rw [hN]; rfl] | rw [show whatQ (((5, m, i, g, e0) : Ps)).1 x = 68 from by unfold whatQ whatP; rw [hN]; rfl] | rw [show whatQ (((5, m, i, g, e0) : Ps)).1 x = 74 from by unfold whatQ whatP; rw [hN]; rfl] | rw [show whatQ (((5, m, i, g, e0) : Ps)).1 x = 71 from by unfold whatQ whatP; rw [hN]; rfl] | rw [show whatQ (((5, m, i, g, e0) : Ps)).1 x = 65 from by unfold whatQ whatP; rw [hN]; rfl] | rw [show whatQ (((5, m, i, g, e0) : Ps)).1 x = 77 from by unfold whatQ whatP; rw [hN]; rfl] | rw [show whatQ (((5, m, i, g, e0) : Ps)).1 x = 90 from by unfold whatQ whatP; rw [hN]; rfl] | rw [show whatQ (((5, m, i, g, e0) : Ps)).1 x = 89 from by unfold whatQ whatP; rw [hN]; rfl] | rw [show whatQ (((5, m, i, g, e0) : Ps)).1 x = 87 from by unfold whatQ whatP; rw [hN]; rfl]
    first | skip
    unfold stepW
    dsimp only
    (repeat (first | rw [if_pos (by first | assumption | omega)] | rw [if_neg (by first | assumption | omega)]))
    first | done | rfl | (rw [List.map_cons, fin2]; rfl) | (rw [List.map_cons, fin5]; rfl) | (rw [put7]; rfl) | (rw [more_e0, sign_s x (by omega)]; rfl) | (rw [arg_e0, sign_s x (by omega)]; rfl) | (rw [sign_s x (by omega)]; rfl)
theorem step_s7 (t : ByteArray) (x : Int) (hx : 0 ≤ x ∧ x ≤ 1114111) : takeP (((7, 0, e0, e0, t) : Ps)) x = stepP (((7, 0, e0, e0, t) : Ps)) x := by
  have hc := cls_cases x hx
  rcases hc with h | h | h | h | h | h | h | h | h | h | h | h | h | h | h
  all_goals
    obtain ⟨h, hN⟩ := h
    unfold stepP takeP takeU restU ctlU escU csiU textU
    first | rw [show whatQ (((7, 0, e0, e0, t) : Ps)).1 x = 82 from by unfold whatQ whatP; rw [hN]; rfl] | rw [show whatQ (((7, 0, e0, e0, t) : Ps)).1 x = 88 from by unfold whatQ whatP; rw [hN]; rfl] | rw [show whatQ (((7, 0, e0, e0, t) : Ps)).1 x = 69 from by unfold whatQ whatP; rw [hN]; rfl] | rw [show whatQ (((7, 0, e0, e0, t) : Ps)).1 x = 67 from by unfold whatQ whatP; rw [hN]; rfl] | rw [show whatQ (((7, 0, e0, e0, t) : Ps)).1 x = 80 from by unfold whatQ whatP; rw [hN]; rfl] | rw [show whatQ (((7, 0, e0, e0, t) : Ps)).1 x = 73 from by unfold whatQ whatP; rw [hN]; rfl] | rw [show whatQ (((7, 0, e0, e0, t) : Ps)).1 x = 70 from by unfold whatQ whatP; rw [hN]; rfl] | rw [show whatQ (((7, 0, e0, e0, t) : Ps)).1 x = 83 from by unfold whatQ whatP; rw [hN]; rfl] | rw [show whatQ (((7, 0, e0, e0, t) : Ps)).1 x = 79 from by unfold whatQ whatP; rw [hN]; rfl] | rw [show whatQ (((7, 0, e0, e0, t) : Ps)).1 x = 84 from by unfold whatQ whatP; rw [hN]; rfl] | rw [show whatQ (((7, 0, e0, e0, t) : Ps)).1 x = 46 from by unfold whatQ whatP; rw [hN]; rfl] | rw [show whatQ (((7, 0, e0, e0, t) : Ps)).1 x = 68 from by unfold whatQ whatP; rw [hN]; rfl] | rw [show whatQ (((7, 0, e0, e0, t) : Ps)).1 x = 74 from by unfold whatQ whatP; rw [hN]; rfl] | rw [show whatQ (((7, 0, e0, e0, t) : Ps)).1 x = 71 from by unfold whatQ whatP; rw [hN]; rfl] | rw [show whatQ (((7, 0, e0, e0, t) : Ps)).1 x = 65 from by unfold whatQ whatP; rw [hN]; rfl] | rw [show whatQ (((7, 0, e0, e0, t) : Ps)).1 x = 77 from by unfold whatQ whatP; rw [hN]; rfl] | rw [show whatQ (((7, 0, e0, e0, t) : Ps)).1 x = 90 from by unfold whatQ whatP; rw [hN]; rfl] | rw [show whatQ (((7, 0, e0, e0, t) : Ps)).1 x = 89 from by unfold whatQ whatP; rw [hN]; rfl] | rw [show whatQ (((7, 0, e0, e0, t) : Ps)).1 x = 87 from by unfold whatQ whatP; rw [hN]; rfl]
    first | skip
    unfold stepW
    dsimp only
    (repeat (first | rw [if_pos (by first | assumption | omega)] | rw [if_neg (by first | assumption | omega)]))
    first | done | rfl | (rw [List.map_cons, fin2]; rfl) | (rw [List.map_cons, fin5]; rfl) | (rw [put7]; rfl) | (rw [more_e0, sign_s x (by omega)]; rfl) | (rw [arg_e0, sign_s x (by omega)]; rfl) | (rw [sign_s x (by omega)]; rfl)
theorem step_s8 (t : ByteArray) (x : Int) (hx : 0 ≤ x ∧ x ≤ 1114111) : takeP (((8, 0, e0, e0, t) : Ps)) x = stepP (((8, 0, e0, e0, t) : Ps)) x := by
  have hc := cls_cases x hx
  rcases hc with h | h | h | h | h | h | h | h | h | h | h | h | h | h | h
  all_goals
    obtain ⟨h, hN⟩ := h
    unfold stepP takeP takeU restU ctlU escU csiU textU
    first | rw [show whatQ (((8, 0, e0, e0, t) : Ps)).1 x = 82 from by unfold whatQ whatP; rw [hN]; rfl] | rw [show whatQ (((8, 0, e0, e0, t) : Ps)).1 x = 88 from by unfold whatQ whatP; rw [hN]; rfl] | rw [show whatQ (((8, 0, e0, e0, t) : Ps)).1 x = 69 from by unfold whatQ whatP; rw [hN]; rfl] | rw [show whatQ (((8, 0, e0, e0, t) : Ps)).1 x = 67 from by unfold whatQ whatP; rw [hN]; rfl] | rw [show whatQ (((8, 0, e0, e0, t) : Ps)).1 x = 80 from by unfold whatQ whatP; rw [hN]; rfl] | rw [show whatQ (((8, 0, e0, e0, t) : Ps)).1 x = 73 from by unfold whatQ whatP; rw [hN]; rfl] | rw [show whatQ (((8, 0, e0, e0, t) : Ps)).1 x = 70 from by unfold whatQ whatP; rw [hN]; rfl] | rw [show whatQ (((8, 0, e0, e0, t) : Ps)).1 x = 83 from by unfold whatQ whatP; rw [hN]; rfl] | rw [show whatQ (((8, 0, e0, e0, t) : Ps)).1 x = 79 from by unfold whatQ whatP; rw [hN]; rfl] | rw [show whatQ (((8, 0, e0, e0, t) : Ps)).1 x = 84 from by unfold whatQ whatP; rw [hN]; rfl] | rw [show whatQ (((8, 0, e0, e0, t) : Ps)).1 x = 46 from by unfold whatQ whatP; rw [hN]; rfl] | rw [show whatQ (((8, 0, e0, e0, t) : Ps)).1 x = 68 from by unfold whatQ whatP; rw [hN]; rfl] | rw [show whatQ (((8, 0, e0, e0, t) : Ps)).1 x = 74 from by unfold whatQ whatP; rw [hN]; rfl] | rw [show whatQ (((8, 0, e0, e0, t) : Ps)).1 x = 71 from by unfold whatQ whatP; rw [hN]; rfl] | rw [show whatQ (((8, 0, e0, e0, t) : Ps)).1 x = 65 from by unfold whatQ whatP; rw [hN]; rfl] | rw [show whatQ (((8, 0, e0, e0, t) : Ps)).1 x = 77 from by unfold whatQ whatP; rw [hN]; rfl] | rw [show whatQ (((8, 0, e0, e0, t) : Ps)).1 x = 90 from by unfold whatQ whatP; rw [hN]; rfl] | rw [show whatQ (((8, 0, e0, e0, t) : Ps)).1 x = 89 from by unfold whatQ whatP; rw [hN]; rfl] | rw [show whatQ (((8, 0, e0, e0, t) : Ps)).1 x = 87 from by unfold whatQ whatP; rw [hN]; rfl]
    first | rw [show step1 x = stepW (sP 1) x 82 (sP 1, []) from by unfold step1 whatQ whatP; rw [hN]; rfl] | rw [show step1 x = stepW (sP 1) x 88 (sP 1, []) from by unfold step1 whatQ whatP; rw [hN]; rfl] | rw [show step1 x = stepW (sP 1) x 69 (sP 1, []) from by unfold step1 whatQ whatP; rw [hN]; rfl] | rw [show step1 x = stepW (sP 1) x 67 (sP 1, []) from by unfold step1 whatQ whatP; rw [hN]; rfl] | rw [show step1 x = stepW (sP 1) x 80 (sP 1, []) from by unfold step1 whatQ whatP; rw [hN]; rfl] | rw [show step1 x = stepW (sP 1) x 73 (sP 1, []) from by unfold step1 whatQ whatP; rw [hN]; rfl] | rw [show step1 x = stepW (sP 1) x 70 (sP 1, []) from by unfold step1 whatQ whatP; rw [hN]; rfl] | rw [show step1 x = stepW (sP 1) x 83 (sP 1, []) from by unfold step1 whatQ whatP; rw [hN]; rfl] | rw [show step1 x = stepW (sP 1) x 79 (sP 1, []) from by unfold step1 whatQ whatP; rw [hN]; rfl] | rw [show step1 x = stepW (sP 1) x 84 (sP 1, []) from by unfold step1 whatQ whatP; rw [hN]; rfl] | rw [show step1 x = stepW (sP 1) x 46 (sP 1, []) from by unfold step1 whatQ whatP; rw [hN]; rfl] | rw [show step1 x = stepW (sP 1) x 68 (sP 1, []) from by unfold step1 whatQ whatP; rw [hN]; rfl] | rw [show step1 x = stepW (sP 1) x 74 (sP 1, []) from by unfold step1 whatQ whatP; rw [hN]; rfl] | rw [show step1 x = stepW (sP 1) x 71 (sP 1, []) from by unfold step1 whatQ whatP; rw [hN]; rfl] | rw [show step1 x = stepW (sP 1) x 65 (sP 1, []) from by unfold step1 whatQ whatP; rw [hN]; rfl] | rw [show step1 x = stepW (sP 1) x 77 (sP 1, []) from by unfold step1 whatQ whatP; rw [hN]; rfl] | rw [show step1 x = stepW (sP 1) x 90 (sP 1, []) from by unfold step1 whatQ whatP; rw [hN]; rfl] | rw [show step1 x = stepW (sP 1) x 89 (sP 1, []) from by unfold step1 whatQ whatP; rw [hN]; rfl] | rw [show step1 x = stepW (sP 1) x 87 (sP 1, []) from by unfold step1 whatQ whatP; rw [hN]; rfl]
    unfold stepW
    dsimp only
    (repeat (first | rw [if_pos (by first | assumption | omega)] | rw [if_neg (by first | assumption | omega)]))
    first | done | rfl | (rw [List.map_cons, fin2]; rfl) | (rw [List.map_cons, fin5]; rfl) | (rw [put7]; rfl) | (rw [more_e0, sign_s x (by omega)]; rfl) | (rw [arg_e0, sign_s x (by omega)]; rfl) | (rw [sign_s x (by omega)]; rfl)
end Go.Proofs.YtflmckoolagikaaDoor
