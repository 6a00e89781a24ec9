/- farref.Width: a walk over its table, and that it agrees with width.Of. -/
import Derived.Test.YtgcnfcgnkfkpeaaWidth
namespace Go.Proofs.Ytgcnfcgnkfkpeaa
open Go.RowKit Go.Fw

theorem built_ref : builtSlice Try.prog 63 34 (tabParts refTab) = some (tabCells refTab) := by kernel_rfl

theorem refTo_succ (n : Int) (k : Nat) (hk : k < 34) : refTo n (k + 1) = if (refTab.getD k (0, 0)).1 ≤ n then (refTab.getD k (0, 0)).2 else refTo n k := by
  have hl : k < refTab.length := hk
  unfold refTo
  rw [List.take_succ_eq_append_getElem hl, List.foldl_append]
  simp only [List.foldl_cons, List.foldl_nil, List.getD, List.getElem?_eq_getElem hl, Option.getD_some]

set_option maxRecDepth 100000 in
set_option maxHeartbeats 1000000 in
theorem refWidth_any (n : Int) (w : World) :
    Calls Try.prog 52 #[.int .i64 n] w fun e w' => e = .returned (.int .i64 (refWidth n)) ∧ Below w.heap.size w w' := by
  cases h1 : isRune n with
  | false =>
    have Hfin : Hid (refWidth n = 0) := by unfold Hid refWidth; rw [h1]; simp
    have H1 := Lib.hid h1
    clear h1
    go_enter Try.func52, Try.ntmps52
    go_wp2_with (go_at_call 75; refine (isRune_any _ _).mono ?_; rintro e w' ⟨rfl, rfl⟩; rw [H1.out])
    go_ret
    exact ⟨ret_int Hfin.out.symm, Below.refl _ _⟩
  | true =>
    have Hfin : Hid (refWidth n = refTo n 34) := by unfold Hid refWidth; rw [h1]; simp
    have H1 := Lib.hid h1
    clear h1
    go_enter Try.func52, Try.ntmps52
    go_wp2_with (first | (go_at_call 75; refine (isRune_any _ _).mono ?_; rintro e w' ⟨rfl, rfl⟩; rw [H1.out]) | ((with_reducible refine fw_buildSlice rfl 141 63 34 _ rfl (tabParts refTab) (tabCells refTab) ?_ Try.underlying141 built_ref ?_); (focus rfl)))
    have hb1 : Below w.heap.size w (w.alloc (.cells (tabCells refTab) 63)) := (Below.refl _ _).alloc (Nat.le_refl _) _
    have hat : At (w.alloc (.cells (tabCells refTab) 63)) (some ⟨w.heap.size, 0, none⟩) (flat2 refTab) := At.newAt rfl rfl
    obtain ⟨w1, hw1⟩ : ∃ w1, w1 = w.alloc (.cells (tabCells refTab) 63) := ⟨_, rfl⟩
    rw [← hw1] at hb1 hat ⊢
    clear hw1
    go_loopw [3, 45] (fun v i wr => ∃ k : Nat, k ≤ 34 ∧ i = .int .i64 k ∧ v = .int .i64 (refTo n k) ∧ Below w1.heap.size w1 wr) (fun _ i _ => 34 - (intOf i).toNat)
    case atStart => exact ⟨0, Nat.zero_le _, rfl, rfl, Below.refl _ _⟩
    case round =>
      obtain ⟨k, hk, rfl, rfl, hbl⟩ := hrel
      by_cases hlt : k < 34
      · obtain ⟨b, o, ha, hb, hc⟩ := hat.pair (k := k) hlt
        simp only [Option.some.injEq, Addr.mk.injEq, and_true] at ha
        obtain ⟨rfl, rfl⟩ := ha
        have hcc := hc k hlt
        rw [Nat.zero_add] at hcc
        have hx := (hbl.cell (p := ⟨w.heap.size, k * 2, none⟩) hb).trans hcc.1
        have hy := (hbl.cell (p := ⟨w.heap.size, k * 2 + 1, none⟩) hb).trans hcc.2
        have hs := refTo_succ n k hlt
        obtain ⟨x, hX⟩ : ∃ x, x = (refTab.getD k (0, 0)).1 := ⟨_, rfl⟩
        obtain ⟨y, hY⟩ : ∃ y, y = (refTab.getD k (0, 0)).2 := ⟨_, rfl⟩
        rw [← hX, ← hY] at hs
        rw [← hX] at hx
        rw [← hY] at hy
        have HS := Lib.hid hs
        clear hX hY hs hc hcc
        by_cases h : x ≤ n
        all_goals
          rw [show (if x ≤ n then y else refTo n k) = _ from by first | rw [if_pos h] | rw [if_neg h]] at HS
          go_wp2
          go_roundw
          case rel => exact ⟨k + 1, by omega, by go_num, by rw [HS.out], hbl.alloc hbl.size _⟩
          case measure => simp [intOf]; omega
      · obtain rfl : k = 34 := by omega
        go_wp2
        go_ret
        exact ⟨ret_int Hfin.out.symm, ext_trans hb1 hbl⟩

end Go.Proofs.Ytgcnfcgnkfkpeaa
