/- farref.StopBack: those to the left, kept in a list. -/
import Derived.Test.YtkbkppoefgojaaaTabs3
namespace Go.Proofs.Ytkbkppoefgojaaa
open Go.RowKit Go.Fw

theorem take_no (p : Int → Bool) (L : List Int) (i : Nat) (h : i < L.length) (hp : p (L.getD i 0) = false) : (L.take (i + 1)).filter p = (L.take i).filter p := by
  have e : L.getD i 0 = L[i] := by rw [List.getD_eq_getElem?_getD, List.getElem?_eq_getElem h]; rfl
  rw [List.take_succ_eq_append_getElem h, List.filter_append, ← e, List.filter_cons, if_neg (by rw [hp]; decide)]
  simp
theorem take_yes (p : Int → Bool) (L : List Int) (i : Nat) (h : i < L.length) (hp : p (L.getD i 0) = true) : (L.take (i + 1)).filter p = (L.take i).filter p ++ [L.getD i 0] := by
  have e : L.getD i 0 = L[i] := by rw [List.getD_eq_getElem?_getD, List.getElem?_eq_getElem h]; rfl
  rw [List.take_succ_eq_append_getElem h, List.filter_append, ← e, List.filter_cons, if_pos hp]
  rfl
theorem rev_get (M : List Int) (n : Nat) (h1 : 1 ≤ n) (h2 : n ≤ M.length) : M.reverse.getD (n - 1) 0 = M.getD (M.length - n) 0 := by
  rw [List.getD_eq_getElem?_getD, List.getD_eq_getElem?_getD, List.getElem?_reverse (by omega)]
  congr 2
  omega
theorem rev_out (M : List Int) (n : Nat) (h2 : M.length < n) : M.reverse.getD (n - 1) 0 = 0 := by
  rw [List.getD_eq_getElem?_getD, List.getElem?_eq_none (by rw [List.length_reverse]; omega)]; rfl

set_option maxRecDepth 100000 in
set_option maxHeartbeats 1000000 in
theorem stopBack_yes (C : Array Value) (f : Nat → Nat) (col n : Nat) (w : World) (hC : Words C f) (h3 : col ≤ 255) (h4 : 1 ≤ n) (h5 : n ≤ 16383) :
    Calls Try.prog 32 #[.agg C, .int .i64 col, .int .i64 n] w fun e w' => e = .returned (.tuple #[.int .i64 (backV f col n), .int .i64 0]) ∧ Below w.heap.size w w' := by
  have hs : (Try.prog.info? 46).map (·.size) = some C.size := by rw [hC.1]; exact sizeStops
  have Hs := Lib.hid hs
  have hls := fun w => stopList_any C f w hC
  have hmax := maskTo_len f 256
  have hM := Lib.hid (stops_left f col (by omega))
  have hmm := maskTo_len f col
  obtain ⟨v, hv⟩ : ∃ v, v = backV f col n := ⟨_, rfl⟩
  have hd : v = (maskTo f col).reverse.getD (n - 1) 0 := hv
  rw [← hv]
  clear hv
  generalize maskTo f 256 = L at *
  generalize maskTo f col = M at *
  obtain ⟨n1, hn1⟩ : ∃ n1, n1 = L.length := ⟨_, rfl⟩
  rw [← hn1] at hmax
  obtain ⟨m, hm⟩ : ∃ m, m = M.length := ⟨_, rfl⟩
  rw [← hm] at hmm
  have hls : ∀ w, Calls Try.prog 62 #[.agg C] w fun e w' => ∃ a c, e = .returned (.slice a n1 c) ∧ At w' a (ints L) ∧ Below w.heap.size w w' := by rw [hn1]; exact hls
  have Hn1 := Lib.hid hn1
  have Hm := Lib.hid hm
  have Hd := Lib.hid hd
  have hrow0 := Lib.hid (heap_alloc_new w (.cells C 46))
  have g5 : ((n : Int) == 0) = false := by simp; omega
  clear hs hC hn1 hm hd
  go_enter Try.func32, Try.ntmps32
  go_wp2_with (first
    | (go_at_call 49; refine (between_t _ _ _ _ ⟨by omega, by omega⟩).mono ?_; rintro e w' ⟨rfl, rfl⟩)
    | (go_at_call 62; refine (hls _).mono ?_; rintro e w1 ⟨a, c, rfl, hat, hb1⟩)
    | ((with_reducible refine fw_load_var rfl 46 _ rfl w.heap.size C ?_ _ _ hrow0.out Try.underlying46 rfl Hs.out ?_); (focus rfl)))
  have hB1 := Lib.hid (ext_trans ((Below.refl w.heap.size w).alloc (Nat.le_refl _) (.cells C 46)) hb1)
  clear hb1 hrow0
  go_loopw [8, 25] (fun x y wr => ∃ i : Nat, y = .int .i64 i ∧ i ≤ n1 ∧ wr.ownsRow w1.heap.size 3 1 x ((L.take i).filter (fun x => decide (x < (col : Int)))).length (ints ((L.take i).filter (fun x => decide (x < (col : Int))))) ∧ Below w1.heap.size w1 wr) (fun _ y _ => n1 - (intOf y).toNat)
  case atStart => exact ⟨0, rfl, Nat.zero_le _, World.ownsRow_nil _ _ _ _, Below.refl _ _⟩
  case round =>
    obtain ⟨i, rfl, hi, hown, hbl⟩ := hrel
    by_cases hlt : i < n1
    · obtain ⟨b, o, ha, hb, hc⟩ := hat.int (i := i) (by rw [← Hn1.out]; exact hlt)
      rw [ha]
      have hx := (hbl.cell (p := ⟨b, o + i, none⟩) hb).trans (hc i (by rw [← Hn1.out]; exact hlt))
      have HL := Lib.hid (show i < L.length by rw [← Hn1.out]; exact hlt)
      clear hc ha
      obtain ⟨x, hX⟩ : ∃ x, x = L.getD i 0 := ⟨_, rfl⟩
      rw [← hX] at hx
      have HX := Lib.hid hX
      have hlen : ((L.take i).filter (fun x => decide (x < (col : Int)))).length ≤ 256 := Nat.le_trans (List.length_filter_le _ _) (by rw [List.length_take]; omega)
      have Hown := Lib.hid hown
      clear hX hown
      by_cases p1 : x < (col : Int)
      · have hstep := Lib.hid (take_yes (fun x => decide (x < (col : Int))) L i HL.out (by rw [← HX.out]; simpa using p1))
        generalize (L.take i).filter (fun x => decide (x < (col : Int))) = Z at *
        have hown := Hown.out
        go_wp2_with (at_builtin; (refine fw_append rfl _ _ 24 rfl w1.heap.size 3 (.int .i64 0) 1 8 Try.underlying24 i64i rfl (by decide) (by decide) _ _ _ rfl hown wr.heap.size 1 [.int .i64 x] rfl rfl rfl rfl (one_int _ _) (by omega) hbl.size ?_); intro v3 w3 hown3 hb3)
        have hbl3 := hbl.trans hb3
        clear hown hbl hb3
        go_wp2_with fail
        go_roundw
        case rel => exact ⟨i + 1, by go_num, hlt, by rw [hstep.out, ← HX.out]; simpa [ints] using hown3, hbl3⟩
        case measure => simp [intOf]; omega
      · have hstep := Lib.hid (take_no (fun x => decide (x < (col : Int))) L i HL.out (by rw [← HX.out]; simpa using p1))
        go_wp2_with fail
        go_roundw
        case rel => exact ⟨i + 1, by go_num, hlt, by rw [hstep.out]; exact Hown.out, hbl⟩
        case measure => simp [intOf]; omega
    · obtain rfl : i = n1 := by omega
      rw [List.take_of_length_le (by rw [Hn1.out]; exact Nat.le_refl _), hM.out, ← Hm.out] at hown
      obtain ⟨a', c', hv, hat'⟩ := At.own hown
      rw [hv]
      clear hown hv
      by_cases hnm : n ≤ m
      · have hg := Lib.hid (Hd.out.trans (rev_get M n h4 (by rw [← Hm.out]; exact hnm)))
        obtain ⟨b', o', ha', hb', hc'⟩ := hat'.int (i := m - n) (by rw [← Hm.out]; omega)
        rw [ha']
        have hx := hc' (m - n) (by rw [← Hm.out]; omega)
        have hg2 : M.getD (m - n) 0 = v := by rw [hg.out, Hm.out]
        rw [hg2] at hx
        have e1 : ((m : Int) - (n : Int)).toNat = m - n := by omega
        have e2 : (0 : Int) ≤ (m : Int) - (n : Int) := by omega
        have e3 : (m : Int) - (n : Int) < (m : Int) := by omega
        have e4 : IntKind.i64.wrap ((m : Int) - (n : Int)) = (m : Int) - (n : Int) := IntWalk.i64_in _ (by omega)
        clear hc' ha' hg2
        go_wp2_with fail
        go_ret2
        exact ⟨rfl, ext_trans hB1.out hbl⟩
      · have hv := Lib.hid (Hd.out.trans (rev_out M n (by rw [← Hm.out]; omega)))
        go_wp2_with fail
        go_ret2
        exact ⟨ret2 (by rw [hv.out]; rfl) rfl, ext_trans hB1.out hbl⟩

set_option maxRecDepth 100000 in
theorem stopBack_zero (C : Array Value) (col : Int) (w : World) (h0 : 0 ≤ col) (h3 : col ≤ 255) :
    Calls Try.prog 32 #[.agg C, .int .i64 col, .int .i64 0] w fun e w' => e = .returned (.tuple #[.int .i64 col, .int .i64 0]) ∧ Below w.heap.size w w' := by
  go_enter Try.func32, Try.ntmps32
  go_wp2_with (go_at_call 49; refine (between_t _ _ _ _ ⟨by omega, by omega⟩).mono ?_; rintro e w' ⟨rfl, rfl⟩)
  go_ret2
  exact ⟨rfl, (Below.refl _ _).alloc (Nat.le_refl _) _⟩
set_option maxRecDepth 100000 in
set_option maxHeartbeats 1000000 in
theorem stopBack_no (C : Array Value) (col n : Int) (w : World) (h : col < 0 ∨ (0 ≤ col ∧ 255 < col) ∨ (0 ≤ col ∧ col ≤ 255 ∧ n < 0) ∨ (0 ≤ col ∧ col ≤ 255 ∧ 0 ≤ n ∧ 16383 < n)) :
    Calls Try.prog 32 #[.agg C, .int .i64 col, .int .i64 n] w fun e w' => e = .returned (.tuple #[.int .i64 0, .int .i64 1]) ∧ Below w.heap.size w w' := by
  rcases h with h | ⟨h, h1⟩ | ⟨h, h1, h2⟩ | ⟨h, h1, h2, h3⟩
  all_goals
    go_enter Try.func32, Try.ntmps32
    go_wp2_with (first
      | (go_at_call 49; refine (between_t _ _ _ _ ⟨by omega, by omega⟩).mono ?_; rintro e w' ⟨rfl, rfl⟩)
      | (go_at_call 49; refine (between_f _ _ _ _ (by omega)).mono ?_; rintro e w' ⟨rfl, rfl⟩))
    go_ret2
    exact ⟨rfl, (Below.refl _ _).alloc (Nat.le_refl _) _⟩

end Go.Proofs.Ytkbkppoefgojaaa
