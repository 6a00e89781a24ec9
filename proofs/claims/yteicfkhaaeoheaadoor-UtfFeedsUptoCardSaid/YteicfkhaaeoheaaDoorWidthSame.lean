/- The two ways to tell a width agree: by the ends of all ranges, interval by interval. -/
import Derived.Test.YteicfkhaaeoheaaDoorWidthRef
namespace Go.Proofs.YteicfkhaaeoheaaDoor

theorem widthOf_eq (n : Int) (v : Int) (h : (if n < 0 ∨ 1114111 < n ∨ inTab n noneTab = true then (0 : Int) else if inTab n twoTab = true then 2 else 1) = v) (h' : (if isRune n = true then (refTab.take 34).foldl (fun w x => if x.1 ≤ n then x.2 else w) 0 else 0) = v) : widthOf n = refWidth n := by
  unfold widthOf refWidth refTo
  rw [h, h']
theorem width_i0 (n : Int) (h2 : n < 0) : widthOf n = refWidth n := by
  have e : isRune n = false := by unfold isRune; simp; omega
  exact widthOf_eq n 0 (by rw [if_pos (by omega)]) (by rw [e]; rfl)
theorem width_i1 (n : Int) (h1 : 0 ≤ n) (h2 : n < 32) : widthOf n = refWidth n := by
  have e0 : inTab n noneTab = true := by simp [inTab, noneTab]; omega
  have e2 : isRune n = true := by unfold isRune; simp; omega
  exact widthOf_eq n 0 (by rw [if_pos (by rw [e0]; simp)]) (by rw [if_pos e2]; simp (disch := omega) only [refTab, List.take, List.foldl, if_pos, if_neg])
theorem width_i2 (n : Int) (h1 : 32 ≤ n) (h2 : n < 127) : widthOf n = refWidth n := by
  have e0 : inTab n noneTab = false := by simp [inTab, noneTab]; omega
  have e1 : inTab n twoTab = false := by simp [inTab, twoTab]; omega
  have e2 : isRune n = true := by unfold isRune; simp; omega
  exact widthOf_eq n 1 (by rw [if_neg (by rw [e0]; simp; omega), if_neg (by rw [e1]; simp)]) (by rw [if_pos e2]; simp (disch := omega) only [refTab, List.take, List.foldl, if_pos, if_neg])
theorem width_i3 (n : Int) (h1 : 127 ≤ n) (h2 : n < 160) : widthOf n = refWidth n := by
  have e0 : inTab n noneTab = true := by simp [inTab, noneTab]; omega
  have e2 : isRune n = true := by unfold isRune; simp; omega
  exact widthOf_eq n 0 (by rw [if_pos (by rw [e0]; simp)]) (by rw [if_pos e2]; simp (disch := omega) only [refTab, List.take, List.foldl, if_pos, if_neg])
theorem width_i4 (n : Int) (h1 : 160 ≤ n) (h2 : n < 768) : widthOf n = refWidth n := by
  have e0 : inTab n noneTab = false := by simp [inTab, noneTab]; omega
  have e1 : inTab n twoTab = false := by simp [inTab, twoTab]; omega
  have e2 : isRune n = true := by unfold isRune; simp; omega
  exact widthOf_eq n 1 (by rw [if_neg (by rw [e0]; simp; omega), if_neg (by rw [e1]; simp)]) (by rw [if_pos e2]; simp (disch := omega) only [refTab, List.take, List.foldl, if_pos, if_neg])
theorem width_i5 (n : Int) (h1 : 768 ≤ n) (h2 : n < 880) : widthOf n = refWidth n := by
  have e0 : inTab n noneTab = true := by simp [inTab, noneTab]; omega
  have e2 : isRune n = true := by unfold isRune; simp; omega
  exact widthOf_eq n 0 (by rw [if_pos (by rw [e0]; simp)]) (by rw [if_pos e2]; simp (disch := omega) only [refTab, List.take, List.foldl, if_pos, if_neg])
theorem width_i6 (n : Int) (h1 : 880 ≤ n) (h2 : n < 4352) : widthOf n = refWidth n := by
  have e0 : inTab n noneTab = false := by simp [inTab, noneTab]; omega
  have e1 : inTab n twoTab = false := by simp [inTab, twoTab]; omega
  have e2 : isRune n = true := by unfold isRune; simp; omega
  exact widthOf_eq n 1 (by rw [if_neg (by rw [e0]; simp; omega), if_neg (by rw [e1]; simp)]) (by rw [if_pos e2]; simp (disch := omega) only [refTab, List.take, List.foldl, if_pos, if_neg])
theorem width_i7 (n : Int) (h1 : 4352 ≤ n) (h2 : n < 4448) : widthOf n = refWidth n := by
  have e0 : inTab n noneTab = false := by simp [inTab, noneTab]; omega
  have e1 : inTab n twoTab = true := by simp [inTab, twoTab]; omega
  have e2 : isRune n = true := by unfold isRune; simp; omega
  exact widthOf_eq n 2 (by rw [if_neg (by rw [e0]; simp; omega), if_pos e1]) (by rw [if_pos e2]; simp (disch := omega) only [refTab, List.take, List.foldl, if_pos, if_neg])
theorem width_i8 (n : Int) (h1 : 4448 ≤ n) (h2 : n < 8203) : widthOf n = refWidth n := by
  have e0 : inTab n noneTab = false := by simp [inTab, noneTab]; omega
  have e1 : inTab n twoTab = false := by simp [inTab, twoTab]; omega
  have e2 : isRune n = true := by unfold isRune; simp; omega
  exact widthOf_eq n 1 (by rw [if_neg (by rw [e0]; simp; omega), if_neg (by rw [e1]; simp)]) (by rw [if_pos e2]; simp (disch := omega) only [refTab, List.take, List.foldl, if_pos, if_neg])
theorem width_i9 (n : Int) (h1 : 8203 ≤ n) (h2 : n < 8208) : widthOf n = refWidth n := by
  have e0 : inTab n noneTab = true := by simp [inTab, noneTab]; omega
  have e2 : isRune n = true := by unfold isRune; simp; omega
  exact widthOf_eq n 0 (by rw [if_pos (by rw [e0]; simp)]) (by rw [if_pos e2]; simp (disch := omega) only [refTab, List.take, List.foldl, if_pos, if_neg])
theorem width_i10 (n : Int) (h1 : 8208 ≤ n) (h2 : n < 11904) : widthOf n = refWidth n := by
  have e0 : inTab n noneTab = false := by simp [inTab, noneTab]; omega
  have e1 : inTab n twoTab = false := by simp [inTab, twoTab]; omega
  have e2 : isRune n = true := by unfold isRune; simp; omega
  exact widthOf_eq n 1 (by rw [if_neg (by rw [e0]; simp; omega), if_neg (by rw [e1]; simp)]) (by rw [if_pos e2]; simp (disch := omega) only [refTab, List.take, List.foldl, if_pos, if_neg])
theorem width_i11 (n : Int) (h1 : 11904 ≤ n) (h2 : n < 12351) : widthOf n = refWidth n := by
  have e0 : inTab n noneTab = false := by simp [inTab, noneTab]; omega
  have e1 : inTab n twoTab = true := by simp [inTab, twoTab]; omega
  have e2 : isRune n = true := by unfold isRune; simp; omega
  exact widthOf_eq n 2 (by rw [if_neg (by rw [e0]; simp; omega), if_pos e1]) (by rw [if_pos e2]; simp (disch := omega) only [refTab, List.take, List.foldl, if_pos, if_neg])
theorem width_i12 (n : Int) (h1 : 12351 ≤ n) (h2 : n < 12353) : widthOf n = refWidth n := by
  have e0 : inTab n noneTab = false := by simp [inTab, noneTab]; omega
  have e1 : inTab n twoTab = false := by simp [inTab, twoTab]; omega
  have e2 : isRune n = true := by unfold isRune; simp; omega
  exact widthOf_eq n 1 (by rw [if_neg (by rw [e0]; simp; omega), if_neg (by rw [e1]; simp)]) (by rw [if_pos e2]; simp (disch := omega) only [refTab, List.take, List.foldl, if_pos, if_neg])
theorem width_i13 (n : Int) (h1 : 12353 ≤ n) (h2 : n < 19904) : widthOf n = refWidth n := by
  have e0 : inTab n noneTab = false := by simp [inTab, noneTab]; omega
  have e1 : inTab n twoTab = true := by simp [inTab, twoTab]; omega
  have e2 : isRune n = true := by unfold isRune; simp; omega
  exact widthOf_eq n 2 (by rw [if_neg (by rw [e0]; simp; omega), if_pos e1]) (by rw [if_pos e2]; simp (disch := omega) only [refTab, List.take, List.foldl, if_pos, if_neg])
theorem width_i14 (n : Int) (h1 : 19904 ≤ n) (h2 : n < 19968) : widthOf n = refWidth n := by
  have e0 : inTab n noneTab = false := by simp [inTab, noneTab]; omega
  have e1 : inTab n twoTab = false := by simp [inTab, twoTab]; omega
  have e2 : isRune n = true := by unfold isRune; simp; omega
  exact widthOf_eq n 1 (by rw [if_neg (by rw [e0]; simp; omega), if_neg (by rw [e1]; simp)]) (by rw [if_pos e2]; simp (disch := omega) only [refTab, List.take, List.foldl, if_pos, if_neg])
theorem width_i15 (n : Int) (h1 : 19968 ≤ n) (h2 : n < 42192) : widthOf n = refWidth n := by
  have e0 : inTab n noneTab = false := by simp [inTab, noneTab]; omega
  have e1 : inTab n twoTab = true := by simp [inTab, twoTab]; omega
  have e2 : isRune n = true := by unfold isRune; simp; omega
  exact widthOf_eq n 2 (by rw [if_neg (by rw [e0]; simp; omega), if_pos e1]) (by rw [if_pos e2]; simp (disch := omega) only [refTab, List.take, List.foldl, if_pos, if_neg])
theorem width_i16 (n : Int) (h1 : 42192 ≤ n) (h2 : n < 44032) : widthOf n = refWidth n := by
  have e0 : inTab n noneTab = false := by simp [inTab, noneTab]; omega
  have e1 : inTab n twoTab = false := by simp [inTab, twoTab]; omega
  have e2 : isRune n = true := by unfold isRune; simp; omega
  exact widthOf_eq n 1 (by rw [if_neg (by rw [e0]; simp; omega), if_neg (by rw [e1]; simp)]) (by rw [if_pos e2]; simp (disch := omega) only [refTab, List.take, List.foldl, if_pos, if_neg])
theorem width_i17 (n : Int) (h1 : 44032 ≤ n) (h2 : n < 55204) : widthOf n = refWidth n := by
  have e0 : inTab n noneTab = false := by simp [inTab, noneTab]; omega
  have e1 : inTab n twoTab = true := by simp [inTab, twoTab]; omega
  have e2 : isRune n = true := by unfold isRune; simp; omega
  exact widthOf_eq n 2 (by rw [if_neg (by rw [e0]; simp; omega), if_pos e1]) (by rw [if_pos e2]; simp (disch := omega) only [refTab, List.take, List.foldl, if_pos, if_neg])
theorem width_i18 (n : Int) (h1 : 55204 ≤ n) (h2 : n < 55296) : widthOf n = refWidth n := by
  have e0 : inTab n noneTab = false := by simp [inTab, noneTab]; omega
  have e1 : inTab n twoTab = false := by simp [inTab, twoTab]; omega
  have e2 : isRune n = true := by unfold isRune; simp; omega
  exact widthOf_eq n 1 (by rw [if_neg (by rw [e0]; simp; omega), if_neg (by rw [e1]; simp)]) (by rw [if_pos e2]; simp (disch := omega) only [refTab, List.take, List.foldl, if_pos, if_neg])
theorem width_i19 (n : Int) (h1 : 55296 ≤ n) (h2 : n < 57344) : widthOf n = refWidth n := by
  have e0 : inTab n noneTab = true := by simp [inTab, noneTab]; omega
  have e2 : isRune n = false := by unfold isRune; simp; omega
  exact widthOf_eq n 0 (by rw [if_pos (by rw [e0]; simp)]) (by rw [if_neg (by rw [e2]; simp)])
theorem width_i20 (n : Int) (h1 : 57344 ≤ n) (h2 : n < 63744) : widthOf n = refWidth n := by
  have e0 : inTab n noneTab = false := by simp [inTab, noneTab]; omega
  have e1 : inTab n twoTab = false := by simp [inTab, twoTab]; omega
  have e2 : isRune n = true := by unfold isRune; simp; omega
  exact widthOf_eq n 1 (by rw [if_neg (by rw [e0]; simp; omega), if_neg (by rw [e1]; simp)]) (by rw [if_pos e2]; simp (disch := omega) only [refTab, List.take, List.foldl, if_pos, if_neg])
theorem width_i21 (n : Int) (h1 : 63744 ≤ n) (h2 : n < 64256) : widthOf n = refWidth n := by
  have e0 : inTab n noneTab = false := by simp [inTab, noneTab]; omega
  have e1 : inTab n twoTab = true := by simp [inTab, twoTab]; omega
  have e2 : isRune n = true := by unfold isRune; simp; omega
  exact widthOf_eq n 2 (by rw [if_neg (by rw [e0]; simp; omega), if_pos e1]) (by rw [if_pos e2]; simp (disch := omega) only [refTab, List.take, List.foldl, if_pos, if_neg])
theorem width_i22 (n : Int) (h1 : 64256 ≤ n) (h2 : n < 65024) : widthOf n = refWidth n := by
  have e0 : inTab n noneTab = false := by simp [inTab, noneTab]; omega
  have e1 : inTab n twoTab = false := by simp [inTab, twoTab]; omega
  have e2 : isRune n = true := by unfold isRune; simp; omega
  exact widthOf_eq n 1 (by rw [if_neg (by rw [e0]; simp; omega), if_neg (by rw [e1]; simp)]) (by rw [if_pos e2]; simp (disch := omega) only [refTab, List.take, List.foldl, if_pos, if_neg])
theorem width_i23 (n : Int) (h1 : 65024 ≤ n) (h2 : n < 65040) : widthOf n = refWidth n := by
  have e0 : inTab n noneTab = true := by simp [inTab, noneTab]; omega
  have e2 : isRune n = true := by unfold isRune; simp; omega
  exact widthOf_eq n 0 (by rw [if_pos (by rw [e0]; simp)]) (by rw [if_pos e2]; simp (disch := omega) only [refTab, List.take, List.foldl, if_pos, if_neg])
theorem width_i24 (n : Int) (h1 : 65040 ≤ n) (h2 : n < 65072) : widthOf n = refWidth n := by
  have e0 : inTab n noneTab = false := by simp [inTab, noneTab]; omega
  have e1 : inTab n twoTab = false := by simp [inTab, twoTab]; omega
  have e2 : isRune n = true := by unfold isRune; simp; omega
  exact widthOf_eq n 1 (by rw [if_neg (by rw [e0]; simp; omega), if_neg (by rw [e1]; simp)]) (by rw [if_pos e2]; simp (disch := omega) only [refTab, List.take, List.foldl, if_pos, if_neg])
theorem width_i25 (n : Int) (h1 : 65072 ≤ n) (h2 : n < 65136) : widthOf n = refWidth n := by
  have e0 : inTab n noneTab = false := by simp [inTab, noneTab]; omega
  have e1 : inTab n twoTab = true := by simp [inTab, twoTab]; omega
  have e2 : isRune n = true := by unfold isRune; simp; omega
  exact widthOf_eq n 2 (by rw [if_neg (by rw [e0]; simp; omega), if_pos e1]) (by rw [if_pos e2]; simp (disch := omega) only [refTab, List.take, List.foldl, if_pos, if_neg])
theorem width_i26 (n : Int) (h1 : 65136 ≤ n) (h2 : n < 65280) : widthOf n = refWidth n := by
  have e0 : inTab n noneTab = false := by simp [inTab, noneTab]; omega
  have e1 : inTab n twoTab = false := by simp [inTab, twoTab]; omega
  have e2 : isRune n = true := by unfold isRune; simp; omega
  exact widthOf_eq n 1 (by rw [if_neg (by rw [e0]; simp; omega), if_neg (by rw [e1]; simp)]) (by rw [if_pos e2]; simp (disch := omega) only [refTab, List.take, List.foldl, if_pos, if_neg])
theorem width_i27 (n : Int) (h1 : 65280 ≤ n) (h2 : n < 65377) : widthOf n = refWidth n := by
  have e0 : inTab n noneTab = false := by simp [inTab, noneTab]; omega
  have e1 : inTab n twoTab = true := by simp [inTab, twoTab]; omega
  have e2 : isRune n = true := by unfold isRune; simp; omega
  exact widthOf_eq n 2 (by rw [if_neg (by rw [e0]; simp; omega), if_pos e1]) (by rw [if_pos e2]; simp (disch := omega) only [refTab, List.take, List.foldl, if_pos, if_neg])
theorem width_i28 (n : Int) (h1 : 65377 ≤ n) (h2 : n < 65504) : widthOf n = refWidth n := by
  have e0 : inTab n noneTab = false := by simp [inTab, noneTab]; omega
  have e1 : inTab n twoTab = false := by simp [inTab, twoTab]; omega
  have e2 : isRune n = true := by unfold isRune; simp; omega
  exact widthOf_eq n 1 (by rw [if_neg (by rw [e0]; simp; omega), if_neg (by rw [e1]; simp)]) (by rw [if_pos e2]; simp (disch := omega) only [refTab, List.take, List.foldl, if_pos, if_neg])
theorem width_i29 (n : Int) (h1 : 65504 ≤ n) (h2 : n < 65511) : widthOf n = refWidth n := by
  have e0 : inTab n noneTab = false := by simp [inTab, noneTab]; omega
  have e1 : inTab n twoTab = true := by simp [inTab, twoTab]; omega
  have e2 : isRune n = true := by unfold isRune; simp; omega
  exact widthOf_eq n 2 (by rw [if_neg (by rw [e0]; simp; omega), if_pos e1]) (by rw [if_pos e2]; simp (disch := omega) only [refTab, List.take, List.foldl, if_pos, if_neg])
theorem width_i30 (n : Int) (h1 : 65511 ≤ n) (h2 : n < 127744) : widthOf n = refWidth n := by
  have e0 : inTab n noneTab = false := by simp [inTab, noneTab]; omega
  have e1 : inTab n twoTab = false := by simp [inTab, twoTab]; omega
  have e2 : isRune n = true := by unfold isRune; simp; omega
  exact widthOf_eq n 1 (by rw [if_neg (by rw [e0]; simp; omega), if_neg (by rw [e1]; simp)]) (by rw [if_pos e2]; simp (disch := omega) only [refTab, List.take, List.foldl, if_pos, if_neg])
theorem width_i31 (n : Int) (h1 : 127744 ≤ n) (h2 : n < 128592) : widthOf n = refWidth n := by
  have e0 : inTab n noneTab = false := by simp [inTab, noneTab]; omega
  have e1 : inTab n twoTab = true := by simp [inTab, twoTab]; omega
  have e2 : isRune n = true := by unfold isRune; simp; omega
  exact widthOf_eq n 2 (by rw [if_neg (by rw [e0]; simp; omega), if_pos e1]) (by rw [if_pos e2]; simp (disch := omega) only [refTab, List.take, List.foldl, if_pos, if_neg])
theorem width_i32 (n : Int) (h1 : 128592 ≤ n) (h2 : n < 129280) : widthOf n = refWidth n := by
  have e0 : inTab n noneTab = false := by simp [inTab, noneTab]; omega
  have e1 : inTab n twoTab = false := by simp [inTab, twoTab]; omega
  have e2 : isRune n = true := by unfold isRune; simp; omega
  exact widthOf_eq n 1 (by rw [if_neg (by rw [e0]; simp; omega), if_neg (by rw [e1]; simp)]) (by rw [if_pos e2]; simp (disch := omega) only [refTab, List.take, List.foldl, if_pos, if_neg])
theorem width_i33 (n : Int) (h1 : 129280 ≤ n) (h2 : n < 129536) : widthOf n = refWidth n := by
  have e0 : inTab n noneTab = false := by simp [inTab, noneTab]; omega
  have e1 : inTab n twoTab = true := by simp [inTab, twoTab]; omega
  have e2 : isRune n = true := by unfold isRune; simp; omega
  exact widthOf_eq n 2 (by rw [if_neg (by rw [e0]; simp; omega), if_pos e1]) (by rw [if_pos e2]; simp (disch := omega) only [refTab, List.take, List.foldl, if_pos, if_neg])
theorem width_i34 (n : Int) (h1 : 129536 ≤ n) (h2 : n < 131072) : widthOf n = refWidth n := by
  have e0 : inTab n noneTab = false := by simp [inTab, noneTab]; omega
  have e1 : inTab n twoTab = false := by simp [inTab, twoTab]; omega
  have e2 : isRune n = true := by unfold isRune; simp; omega
  exact widthOf_eq n 1 (by rw [if_neg (by rw [e0]; simp; omega), if_neg (by rw [e1]; simp)]) (by rw [if_pos e2]; simp (disch := omega) only [refTab, List.take, List.foldl, if_pos, if_neg])
theorem width_i35 (n : Int) (h1 : 131072 ≤ n) (h2 : n < 262142) : widthOf n = refWidth n := by
  have e0 : inTab n noneTab = false := by simp [inTab, noneTab]; omega
  have e1 : inTab n twoTab = true := by simp [inTab, twoTab]; omega
  have e2 : isRune n = true := by unfold isRune; simp; omega
  exact widthOf_eq n 2 (by rw [if_neg (by rw [e0]; simp; omega), if_pos e1]) (by rw [if_pos e2]; simp (disch := omega) only [refTab, List.take, List.foldl, if_pos, if_neg])
theorem width_i36 (n : Int) (h1 : 262142 ≤ n) (h2 : n < 1114112) : widthOf n = refWidth n := by
  have e0 : inTab n noneTab = false := by simp [inTab, noneTab]; omega
  have e1 : inTab n twoTab = false := by simp [inTab, twoTab]; omega
  have e2 : isRune n = true := by unfold isRune; simp; omega
  exact widthOf_eq n 1 (by rw [if_neg (by rw [e0]; simp; omega), if_neg (by rw [e1]; simp)]) (by rw [if_pos e2]; simp (disch := omega) only [refTab, List.take, List.foldl, if_pos])
theorem width_i37 (n : Int) (h1 : 1114112 ≤ n) : widthOf n = refWidth n := by
  have e : isRune n = false := by unfold isRune; simp; omega
  exact widthOf_eq n 0 (by rw [if_pos (by omega)]) (by rw [e]; rfl)
theorem width_same (n : Int) : widthOf n = refWidth n := by
  rcases Int.lt_or_le n 0 with c0 | c0
  · exact width_i0 n c0
  rcases Int.lt_or_le n 32 with c1 | c1
  · exact width_i1 n c0 c1
  rcases Int.lt_or_le n 127 with c2 | c2
  · exact width_i2 n c1 c2
  rcases Int.lt_or_le n 160 with c3 | c3
  · exact width_i3 n c2 c3
  rcases Int.lt_or_le n 768 with c4 | c4
  · exact width_i4 n c3 c4
  rcases Int.lt_or_le n 880 with c5 | c5
  · exact width_i5 n c4 c5
  rcases Int.lt_or_le n 4352 with c6 | c6
  · exact width_i6 n c5 c6
  rcases Int.lt_or_le n 4448 with c7 | c7
  · exact width_i7 n c6 c7
  rcases Int.lt_or_le n 8203 with c8 | c8
  · exact width_i8 n c7 c8
  rcases Int.lt_or_le n 8208 with c9 | c9
  · exact width_i9 n c8 c9
  rcases Int.lt_or_le n 11904 with c10 | c10
  · exact width_i10 n c9 c10
  rcases Int.lt_or_le n 12351 with c11 | c11
  · exact width_i11 n c10 c11
  rcases Int.lt_or_le n 12353 with c12 | c12
  · exact width_i12 n c11 c12
  rcases Int.lt_or_le n 19904 with c13 | c13
  · exact width_i13 n c12 c13
  rcases Int.lt_or_le n 19968 with c14 | c14
  · exact width_i14 n c13 c14
  rcases Int.lt_or_le n 42192 with c15 | c15
  · exact width_i15 n c14 c15
  rcases Int.lt_or_le n 44032 with c16 | c16
  · exact width_i16 n c15 c16
  rcases Int.lt_or_le n 55204 with c17 | c17
  · exact width_i17 n c16 c17
  rcases Int.lt_or_le n 55296 with c18 | c18
  · exact width_i18 n c17 c18
  rcases Int.lt_or_le n 57344 with c19 | c19
  · exact width_i19 n c18 c19
  rcases Int.lt_or_le n 63744 with c20 | c20
  · exact width_i20 n c19 c20
  rcases Int.lt_or_le n 64256 with c21 | c21
  · exact width_i21 n c20 c21
  rcases Int.lt_or_le n 65024 with c22 | c22
  · exact width_i22 n c21 c22
  rcases Int.lt_or_le n 65040 with c23 | c23
  · exact width_i23 n c22 c23
  rcases Int.lt_or_le n 65072 with c24 | c24
  · exact width_i24 n c23 c24
  rcases Int.lt_or_le n 65136 with c25 | c25
  · exact width_i25 n c24 c25
  rcases Int.lt_or_le n 65280 with c26 | c26
  · exact width_i26 n c25 c26
  rcases Int.lt_or_le n 65377 with c27 | c27
  · exact width_i27 n c26 c27
  rcases Int.lt_or_le n 65504 with c28 | c28
  · exact width_i28 n c27 c28
  rcases Int.lt_or_le n 65511 with c29 | c29
  · exact width_i29 n c28 c29
  rcases Int.lt_or_le n 127744 with c30 | c30
  · exact width_i30 n c29 c30
  rcases Int.lt_or_le n 128592 with c31 | c31
  · exact width_i31 n c30 c31
  rcases Int.lt_or_le n 129280 with c32 | c32
  · exact width_i32 n c31 c32
  rcases Int.lt_or_le n 129536 with c33 | c33
  · exact width_i33 n c32 c33
  rcases Int.lt_or_le n 131072 with c34 | c34
  · exact width_i34 n c33 c34
  rcases Int.lt_or_le n 262142 with c35 | c35
  · exact width_i35 n c34 c35
  rcases Int.lt_or_le n 1114112 with c36 | c36
  · exact width_i36 n c35 c36
  exact width_i37 n c36

end Go.Proofs.YteicfkhaaeoheaaDoor
