/- press.Paste. -/
import Derived.Test.YtkbkppoefgojaaaPaste2
namespace Go.Proofs.Ytkbkppoefgojaaa
open Go.RowKit Go.Fw

def open6 : List Int := [27, 91, 50, 48, 48, 126]
def shut6 : List Int := [27, 91, 50, 48, 49, 126]
def pasteText (xs : List Int) (b : Bool) : List Int := if b = true then open6 ++ encL (pasteL xs) ++ shut6 else encL (pasteL xs)

theorem open6_str : strOfNums open6 = ⟨#[27, 91, 50, 48, 48, 126]⟩ := by kernel_rfl
theorem shut6_str : strOfNums shut6 = ⟨#[27, 91, 50, 48, 49, 126]⟩ := by kernel_rfl

set_option maxRecDepth 100000 in
set_option maxHeartbeats 2000000 in
theorem paste_yes (xs : List Int) (modes : Int) (a : Option Addr) (n c : Nat) (w : World) (hn : n = xs.length) (hm : xs.length ≤ 4000) (h1 : At w a (ints xs)) (b : Bool) (hb : (bits .and .i64 modes 64 != 0) = b) :
    Calls Try.prog 41 #[.slice a n c, .int .i64 modes] w fun e w' => e = .returned (.tuple #[.string (strOfNums (pasteText xs b)), .int .i64 0]) ∧ Below w.heap.size w w' := by
  have Hn := Lib.hid hn
  rw [← hn] at hm
  clear hn
  have g1 : ¬ 4000 < (n : Int) := by omega
  go_enter Try.func41, Try.ntmps41
  go_wp2_with fail
  go_loopw [6, 15] (fun v i wr => ∃ k : Nat, k ≤ n ∧ i = .int .i64 k ∧ wr.ownsRow w.heap.size 3 1 v (pasteL (xs.take k)).length (ints (pasteL (xs.take k))) ∧ Below w.heap.size w wr) (fun _ i _ => n - (intOf i).toNat)
  case atStart => exact ⟨0, Nat.zero_le _, rfl, World.ownsRow_nil _ _ _ _, Below.refl _ _⟩
  case round =>
    obtain ⟨k, hk, rfl, hown, hbl⟩ := hrel
    by_cases hlt : k < n
    · obtain ⟨b', o, ha, hb', hc⟩ := h1.int (i := k) (by rw [← Hn.out]; exact hlt)
      rw [ha]
      have hx := (hbl.cell (p := ⟨b', o + k, none⟩) hb').trans (hc k (by rw [← Hn.out]; exact hlt))
      have hlen : (pasteL (xs.take k)).length ≤ 4000 := by
        have := pasteL_len (xs.take k)
        rw [List.length_take] at this
        omega
      have Hstep := Lib.hid (pasteL_step xs k (by rw [← Hn.out]; exact hlt))
      clear hc ha
      generalize xs.getD k 0 = x at *
      generalize pasteL (xs.take k) = Z at *
      rcases pasteCase_all x with rfl | rfl | rfl | ⟨p1, p2, p3, p4, hf⟩ | ⟨p1, p2, p3, p4, hf⟩ | ⟨p1, p2, p3, p4, hf⟩ | ⟨p1, p2, p3, p4, p5, hf⟩ | ⟨p1, p2, p3, p4, p5, hf⟩
      · have Hv := Lib.hid (show validR 13 from by decide)
        go_wp2_with (first
          | (go_at_call 67; refine (code_t _ _ Hv.out).mono ?_; rintro e w' ⟨rfl, rfl⟩)
          | (at_builtin; (refine fw_append rfl _ _ 24 rfl w.heap.size 3 (.int .i64 0) 1 8 Try.underlying24 i64i rfl (by decide) (by decide) _ _ _ rfl hown wr.heap.size 1 [.int .i64 13] rfl rfl rfl rfl (one_int _ _) (by omega) hbl.size ?_); intro v3 w3 hown3 hb3))
        have hbl3 := hbl.trans hb3
        clear hown hbl hb3
        go_wp2_with fail
        go_roundw
        case rel => exact ⟨k + 1, by omega, by go_num, by rw [Hstep.out, show pasteR 10 = [13] from rfl]; simpa [ints] using hown3, hbl3⟩
        case measure => simp [intOf]; omega
      · have Hv := Lib.hid (show validR 9 from by decide)
        go_wp2_with (first
          | (go_at_call 67; refine (code_t _ _ Hv.out).mono ?_; rintro e w' ⟨rfl, rfl⟩)
          | (at_builtin; (refine fw_append rfl _ _ 24 rfl w.heap.size 3 (.int .i64 0) 1 8 Try.underlying24 i64i rfl (by decide) (by decide) _ _ _ rfl hown wr.heap.size 1 [.int .i64 9] rfl rfl rfl rfl (one_int _ _) (by omega) hbl.size ?_); intro v3 w3 hown3 hb3))
        have hbl3 := hbl.trans hb3
        clear hown hbl hb3
        go_wp2_with fail
        go_roundw
        case rel => exact ⟨k + 1, by omega, by go_num, by rw [Hstep.out, show pasteR 9 = [9] from by decide]; simpa [ints] using hown3, hbl3⟩
        case measure => simp [intOf]; omega
      · have Hv := Lib.hid (show validR 13 from by decide)
        go_wp2_with (first
          | (go_at_call 67; refine (code_t _ _ Hv.out).mono ?_; rintro e w' ⟨rfl, rfl⟩)
          | (at_builtin; (refine fw_append rfl _ _ 24 rfl w.heap.size 3 (.int .i64 0) 1 8 Try.underlying24 i64i rfl (by decide) (by decide) _ _ _ rfl hown wr.heap.size 1 [.int .i64 13] rfl rfl rfl rfl (one_int _ _) (by omega) hbl.size ?_); intro v3 w3 hown3 hb3))
        have hbl3 := hbl.trans hb3
        clear hown hbl hb3
        go_wp2_with fail
        go_roundw
        case rel => exact ⟨k + 1, by omega, by go_num, by rw [Hstep.out, show pasteR 13 = [13] from by decide]; simpa [ints] using hown3, hbl3⟩
        case measure => simp [intOf]; omega
      · go_wp2_with fail
        go_roundw
        case rel => exact ⟨k + 1, by omega, by go_num, by rw [Hstep.out, hf.out, List.append_nil]; exact hown, hbl⟩
        case measure => simp [intOf]; omega
      · have Hv := Lib.hid (show validR x from p4)
        go_wp2_with (first
          | (go_at_call 67; refine (code_t _ _ Hv.out).mono ?_; rintro e w' ⟨rfl, rfl⟩)
          | (at_builtin; (refine fw_append rfl _ _ 24 rfl w.heap.size 3 (.int .i64 0) 1 8 Try.underlying24 i64i rfl (by decide) (by decide) _ _ _ rfl hown wr.heap.size 1 [.int .i64 x] rfl rfl rfl rfl (one_int _ _) (by omega) hbl.size ?_); intro v3 w3 hown3 hb3))
        have hbl3 := hbl.trans hb3
        clear hown hbl hb3
        go_wp2_with fail
        go_roundw
        case rel => exact ⟨k + 1, by omega, by go_num, by rw [Hstep.out, hf.out]; simpa [ints] using hown3, hbl3⟩
        case measure => simp [intOf]; omega
      · go_wp2_with fail
        go_roundw
        case rel => exact ⟨k + 1, by omega, by go_num, by rw [Hstep.out, hf.out, List.append_nil]; exact hown, hbl⟩
        case measure => simp [intOf]; omega
      · have Hv := Lib.hid (show validR x from p5)
        go_wp2_with (first
          | (go_at_call 67; refine (code_t _ _ Hv.out).mono ?_; rintro e w' ⟨rfl, rfl⟩)
          | (at_builtin; (refine fw_append rfl _ _ 24 rfl w.heap.size 3 (.int .i64 0) 1 8 Try.underlying24 i64i rfl (by decide) (by decide) _ _ _ rfl hown wr.heap.size 1 [.int .i64 x] rfl rfl rfl rfl (one_int _ _) (by omega) hbl.size ?_); intro v3 w3 hown3 hb3))
        have hbl3 := hbl.trans hb3
        clear hown hbl hb3
        go_wp2_with fail
        go_roundw
        case rel => exact ⟨k + 1, by omega, by go_num, by rw [Hstep.out, hf.out]; simpa [ints] using hown3, hbl3⟩
        case measure => simp [intOf]; omega
      · go_wp2_with (go_at_call 67; refine (code_f _ _ (by unfold validR at p5; omega)).mono ?_; rintro e w' ⟨rfl, rfl⟩)
        go_roundw
        case rel => exact ⟨k + 1, by omega, by go_num, by rw [Hstep.out, hf.out, List.append_nil]; exact hown, hbl⟩
        case measure => simp [intOf]; omega
    · obtain rfl : k = n := by omega
      obtain ⟨a', c', hv, hat⟩ := At.own hown
      rw [List.take_of_length_le (by rw [Hn.out]; exact Nat.le_refl _)] at hat hv
      have hlen := pasteL_len xs
      rw [← Hn.out] at hlen
      have henc := encL_len (pasteL xs)
      rw [hv]
      clear hown hv
      generalize hP : pasteL xs = P at *
      have HP := Lib.hid hP
      obtain ⟨m, hm2⟩ : ∃ m, m = P.length := ⟨_, rfl⟩
      rw [← hm2] at hlen henc ⊢
      have Hm := Lib.hid hm2
      clear hP hm2
      have hadd1 := fun w => str_add (P := Try.prog) open6 (encL P) (by simp [open6]; omega) w
      have hadd2 := fun w => str_add (P := Try.prog) (open6 ++ encL P) shut6 (by simp [open6, shut6]; omega) w
      rw [open6_str] at hadd1
      rw [shut6_str] at hadd2
      cases b
      · go_wp2_with fail
        refine (encode_any P _ m _ _ Hm.out (by rw [← Hm.out]; omega) hat).mono ?_
        rintro e w1 ⟨rfl, hb1⟩
        have hbl1 := hbl.trans (hb1.mono hbl.size)
        go_wp2_with fail
        go_ret2
        exact ⟨ret2 (by unfold pasteText; rw [HP.out]; rfl) rfl, hbl1⟩
      · go_wp2_with fail
        refine (encode_any P _ m _ _ Hm.out (by rw [← Hm.out]; omega) hat).mono ?_
        rintro e w1 ⟨rfl, hb1⟩
        have hbl1 := hbl.trans (hb1.mono hbl.size)
        go_wp2_with fail
        go_ret2
        exact ⟨ret2 (by unfold pasteText; rw [HP.out]; rfl) rfl, hbl1⟩

end Go.Proofs.Ytkbkppoefgojaaa
