/- farref.PasteText. -/
import Derived.Test.YtkbkppoefgojaaaPaste3
namespace Go.Proofs.Ytkbkppoefgojaaa
open Go.RowKit Go.Fw

theorem encL_snoc (Z : List Int) (x : Int) (h : validR x) : encL (Z ++ [x]) = encL Z ++ runeL x := by
  unfold encL
  rw [List.flatMap_append, List.flatMap_cons, List.flatMap_nil, List.append_nil]
  congr 2
  unfold fixR validR at *
  rw [if_neg (by omega)]



set_option maxRecDepth 100000 in
set_option maxHeartbeats 2000000 in
theorem pasteText_yes (xs : List Int) (modes : Int) (a : Option Addr) (n c : Nat) (w : World) (hn : n = xs.length) (hm : xs.length ≤ 4000) (h1 : At w a (ints xs)) (b : Bool) (hb : (bits .and .i64 modes 64 != 0) = b) :
    Calls Try.prog 42 #[.slice a n c, .int .i64 modes] w fun e w' => e = .returned (.tuple #[.string (strOfNums (pasteText xs b)), .int .i64 0]) ∧ Below w.heap.size w w' := by
  have Hn := Lib.hid hn
  rw [← hn] at hm
  clear hn
  have g1 : ¬ 4000 < (n : Int) := by omega
  go_enter Try.func42, Try.ntmps42
  go_wp2_with fail
  go_loopw [6, 14] (fun v i wr => ∃ k : Nat, k ≤ n ∧ i = .int .i64 k ∧ v = .string (strOfNums (encL (pasteL (xs.take k)))) ∧ Below w.heap.size w wr) (fun _ i _ => n - (intOf i).toNat)
  case atStart => exact ⟨0, Nat.zero_le _, rfl, rfl, Below.refl _ _⟩
  case round =>
    obtain ⟨k, hk, rfl, rfl, hbl⟩ := hrel
    by_cases hlt : k < n
    · obtain ⟨b', o, ha, hb', hc⟩ := h1.int (i := k) (by rw [← Hn.out]; exact hlt)
      rw [ha]
      have hx := (hbl.cell (p := ⟨b', o + k, none⟩) hb').trans (hc k (by rw [← Hn.out]; exact hlt))
      have hlen : (encL (pasteL (xs.take k))).length ≤ 16000 := by
        have := pasteL_len (xs.take k)
        have := encL_len (pasteL (xs.take k))
        rw [List.length_take] at *
        omega
      have Hstep := Lib.hid (pasteL_step xs k (by rw [← Hn.out]; exact hlt))
      clear hc ha
      generalize xs.getD k 0 = x at *
      generalize pasteL (xs.take k) = Z at *
      rcases pasteCase_all x with rfl | rfl | rfl | ⟨p1, p2, p3, p4, hf⟩ | ⟨p1, p2, p3, p4, hf⟩ | ⟨p1, p2, p3, p4, hf⟩ | ⟨p1, p2, p3, p4, p5, hf⟩ | ⟨p1, p2, p3, p4, p5, hf⟩
      · have Hv := Lib.hid (show validR 13 from by decide)
        have hs := Lib.hid (encL_snoc Z 13 Hv.out)
        have hadd := fun w => str_add (P := Try.prog) (encL Z) (runeL 13) (by have := runeL_len 13; omega) w
        try (have q9 : (13 == 9) = false := by simp; omega)
        try (have q13 : (13 == 13) = false := by simp; omega)
        have hrb := fun w => runeBytes_any 13 w Hv.out.1 Hv.out.2.1
        go_wp2_with (first
          | (go_at_call 60; refine (rune_t _ _ Hv.out).mono ?_; rintro e w' ⟨rfl, rfl⟩)
          | (go_at_call 49; refine (between_t _ _ _ _ ⟨by omega, by omega⟩).mono ?_; rintro e w' ⟨rfl, rfl⟩)
          | (go_at_call 49; refine (between_f _ _ _ _ (by omega)).mono ?_; rintro e w' ⟨rfl, rfl⟩))
        refine (hrb _).mono ?_
        rintro e w1 ⟨rfl, hb1⟩
        have hbl1 := hbl.trans (hb1.mono hbl.size)
        go_wp2_with fail
        go_roundw
        case rel => exact ⟨k + 1, by omega, by go_num, by rw [Hstep.out, show pasteR 10 = [13] from rfl, hs.out], hbl1⟩
        case measure => simp [intOf]; omega
      · have Hv := Lib.hid (show validR 9 from by decide)
        have hs := Lib.hid (encL_snoc Z 9 Hv.out)
        have hadd := fun w => str_add (P := Try.prog) (encL Z) (runeL 9) (by have := runeL_len 9; omega) w
        try (have q9 : (9 == 9) = false := by simp; omega)
        try (have q13 : (9 == 13) = false := by simp; omega)
        have hrb := fun w => runeBytes_any 9 w Hv.out.1 Hv.out.2.1
        go_wp2_with (first
          | (go_at_call 60; refine (rune_t _ _ Hv.out).mono ?_; rintro e w' ⟨rfl, rfl⟩)
          | (go_at_call 49; refine (between_t _ _ _ _ ⟨by omega, by omega⟩).mono ?_; rintro e w' ⟨rfl, rfl⟩)
          | (go_at_call 49; refine (between_f _ _ _ _ (by omega)).mono ?_; rintro e w' ⟨rfl, rfl⟩))
        refine (hrb _).mono ?_
        rintro e w1 ⟨rfl, hb1⟩
        have hbl1 := hbl.trans (hb1.mono hbl.size)
        go_wp2_with fail
        go_roundw
        case rel => exact ⟨k + 1, by omega, by go_num, by rw [Hstep.out, show pasteR 9 = [9] from by decide, hs.out], hbl1⟩
        case measure => simp [intOf]; omega
      · have Hv := Lib.hid (show validR 13 from by decide)
        have hs := Lib.hid (encL_snoc Z 13 Hv.out)
        have hadd := fun w => str_add (P := Try.prog) (encL Z) (runeL 13) (by have := runeL_len 13; omega) w
        try (have q9 : (13 == 9) = false := by simp; omega)
        try (have q13 : (13 == 13) = false := by simp; omega)
        have hrb := fun w => runeBytes_any 13 w Hv.out.1 Hv.out.2.1
        go_wp2_with (first
          | (go_at_call 60; refine (rune_t _ _ Hv.out).mono ?_; rintro e w' ⟨rfl, rfl⟩)
          | (go_at_call 49; refine (between_t _ _ _ _ ⟨by omega, by omega⟩).mono ?_; rintro e w' ⟨rfl, rfl⟩)
          | (go_at_call 49; refine (between_f _ _ _ _ (by omega)).mono ?_; rintro e w' ⟨rfl, rfl⟩))
        refine (hrb _).mono ?_
        rintro e w1 ⟨rfl, hb1⟩
        have hbl1 := hbl.trans (hb1.mono hbl.size)
        go_wp2_with fail
        go_roundw
        case rel => exact ⟨k + 1, by omega, by go_num, by rw [Hstep.out, show pasteR 13 = [13] from by decide, hs.out], hbl1⟩
        case measure => simp [intOf]; omega
      · have q9 : (x == 9) = false := by simpa using p3
        have q13 : (x == 13) = false := by simpa using p4
        have q5 : ¬ 159 < x := by omega
        by_cases hv : validR x
        · skip
          go_wp2_with (first
            | (go_at_call 60; refine (rune_t _ _ hv).mono ?_; rintro e w' ⟨rfl, rfl⟩)
            | (go_at_call 49; refine (between_f _ _ _ _ (by omega)).mono ?_; rintro e w' ⟨rfl, rfl⟩))
          go_roundw
          case rel => exact ⟨k + 1, by omega, by go_num, by rw [Hstep.out, hf.out, List.append_nil], hbl⟩
          case measure => simp [intOf]; omega
        · skip
          go_wp2_with (first
            | (go_at_call 60; refine (rune_f _ _ hv).mono ?_; rintro e w' ⟨rfl, rfl⟩)
            | (go_at_call 49; refine (between_f _ _ _ _ (by omega)).mono ?_; rintro e w' ⟨rfl, rfl⟩))
          go_roundw
          case rel => exact ⟨k + 1, by omega, by go_num, by rw [Hstep.out, hf.out, List.append_nil], hbl⟩
          case measure => simp [intOf]; omega
      · have Hv := Lib.hid (show validR x from p4)
        have hs := Lib.hid (encL_snoc Z x Hv.out)
        have hadd := fun w => str_add (P := Try.prog) (encL Z) (runeL x) (by have := runeL_len x; omega) w
        try (have q9 : (x == 9) = false := by simp; omega)
        try (have q13 : (x == 13) = false := by simp; omega)
        have hrb := fun w => runeBytes_any x w Hv.out.1 Hv.out.2.1
        go_wp2_with (first
          | (go_at_call 60; refine (rune_t _ _ Hv.out).mono ?_; rintro e w' ⟨rfl, rfl⟩)
          | (go_at_call 49; refine (between_t _ _ _ _ ⟨by omega, by omega⟩).mono ?_; rintro e w' ⟨rfl, rfl⟩)
          | (go_at_call 49; refine (between_f _ _ _ _ (by omega)).mono ?_; rintro e w' ⟨rfl, rfl⟩))
        refine (hrb _).mono ?_
        rintro e w1 ⟨rfl, hb1⟩
        have hbl1 := hbl.trans (hb1.mono hbl.size)
        go_wp2_with fail
        go_roundw
        case rel => exact ⟨k + 1, by omega, by go_num, by rw [Hstep.out, hf.out, hs.out], hbl1⟩
        case measure => simp [intOf]; omega
      · have q9 : (x == 9) = false := by simp; omega
        have q13 : (x == 13) = false := by simp; omega
        go_wp2_with (first
          | (go_at_call 60; refine (rune_t _ _ (by unfold validR; omega)).mono ?_; rintro e w' ⟨rfl, rfl⟩)
          | (go_at_call 49; refine (between_f _ _ _ _ (by omega)).mono ?_; rintro e w' ⟨rfl, rfl⟩))
        go_roundw
        case rel => exact ⟨k + 1, by omega, by go_num, by rw [Hstep.out, hf.out, List.append_nil], hbl⟩
        case measure => simp [intOf]; omega
      · have Hv := Lib.hid (show validR x from p5)
        have hs := Lib.hid (encL_snoc Z x Hv.out)
        have hadd := fun w => str_add (P := Try.prog) (encL Z) (runeL x) (by have := runeL_len x; omega) w
        try (have q9 : (x == 9) = false := by simp; omega)
        try (have q13 : (x == 13) = false := by simp; omega)
        have hrb := fun w => runeBytes_any x w Hv.out.1 Hv.out.2.1
        go_wp2_with (first
          | (go_at_call 60; refine (rune_t _ _ Hv.out).mono ?_; rintro e w' ⟨rfl, rfl⟩)
          | (go_at_call 49; refine (between_t _ _ _ _ ⟨by omega, by omega⟩).mono ?_; rintro e w' ⟨rfl, rfl⟩)
          | (go_at_call 49; refine (between_f _ _ _ _ (by omega)).mono ?_; rintro e w' ⟨rfl, rfl⟩))
        refine (hrb _).mono ?_
        rintro e w1 ⟨rfl, hb1⟩
        have hbl1 := hbl.trans (hb1.mono hbl.size)
        go_wp2_with fail
        go_roundw
        case rel => exact ⟨k + 1, by omega, by go_num, by rw [Hstep.out, hf.out, hs.out], hbl1⟩
        case measure => simp [intOf]; omega
      · have q9 : (x == 9) = false := by simp; omega
        have q13 : (x == 13) = false := by simp; omega
        go_wp2_with (first
          | (go_at_call 60; refine (rune_f _ _ (by unfold validR at *; omega)).mono ?_; rintro e w' ⟨rfl, rfl⟩)
          | (go_at_call 49; refine (between_f _ _ _ _ (by omega)).mono ?_; rintro e w' ⟨rfl, rfl⟩))
        go_roundw
        case rel => exact ⟨k + 1, by omega, by go_num, by rw [Hstep.out, hf.out, List.append_nil], hbl⟩
        case measure => simp [intOf]; omega
    · obtain rfl : k = n := by omega
      have hlen := pasteL_len xs
      rw [← Hn.out] at hlen
      have henc := encL_len (pasteL xs)
      rw [List.take_of_length_le (by rw [Hn.out]; exact Nat.le_refl _)]
      generalize hP : pasteL xs = P at *
      have HP := Lib.hid hP
      clear hP
      have hadd1 := fun w => str_add (P := Try.prog) open6 (encL P) (by simp [open6]; omega) w
      have hadd2 := fun w => str_add (P := Try.prog) (open6 ++ encL P) shut6 (by simp [open6, shut6]; omega) w
      rw [open6_str] at hadd1
      rw [shut6_str] at hadd2
      have hbit := fun w => bit_any modes 64 w
      rw [hb] at hbit
      cases b
      all_goals
        go_wp2_with (go_at_call 70; refine (hbit _).mono ?_; rintro e w' ⟨rfl, rfl⟩)
        go_ret2
        exact ⟨ret2 (by unfold pasteText; rw [HP.out]; rfl) rfl, hbl⟩

end Go.Proofs.Ytkbkppoefgojaaa
