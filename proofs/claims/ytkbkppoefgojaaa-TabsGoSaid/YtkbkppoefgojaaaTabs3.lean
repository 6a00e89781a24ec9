/- farref.StopNext: counting through the list of stops. -/
import Derived.Test.YtkbkppoefgojaaaTabs2
namespace Go.Proofs.Ytkbkppoefgojaaa
open Go.RowKit Go.Fw

/-- The m-th of those that fit, or d. -/
def cntV (p : Int → Bool) (L : List Int) (m : Nat) (d : Int) : Int := (L.filter p).getD (m - 1) d
theorem drop_at (L : List Int) (i : Nat) (h : i < L.length) : L.drop i = L.getD i 0 :: L.drop (i + 1) := by
  rw [List.drop_eq_getElem_cons h, List.getD_eq_getElem?_getD, List.getElem?_eq_getElem h]; rfl
theorem cnt_end (p : Int → Bool) (L : List Int) (i m : Nat) (d : Int) (h : L.length ≤ i) : cntV p (L.drop i) m d = d := by
  unfold cntV; rw [List.drop_eq_nil_of_le h]; rfl
theorem cnt_no (p : Int → Bool) (L : List Int) (i m : Nat) (d : Int) (h : i < L.length) (hp : p (L.getD i 0) = false) : cntV p (L.drop i) m d = cntV p (L.drop (i + 1)) m d := by
  unfold cntV; rw [drop_at L i h, List.filter_cons, if_neg (by rw [hp]; decide)]
theorem cnt_one (p : Int → Bool) (L : List Int) (i m : Nat) (d : Int) (h : i < L.length) (hp : p (L.getD i 0) = true) (hm : m = 1) : cntV p (L.drop i) m d = L.getD i 0 := by
  subst hm
  unfold cntV; rw [drop_at L i h, List.filter_cons, if_pos hp]; rfl
theorem cnt_more (p : Int → Bool) (L : List Int) (i m m' : Nat) (d : Int) (h : i < L.length) (hp : p (L.getD i 0) = true) (hm : 1 ≤ m') (hm' : m = m' + 1) : cntV p (L.drop i) m d = cntV p (L.drop (i + 1)) m' d := by
  subst hm'
  unfold cntV; rw [drop_at L i h, List.filter_cons, if_pos hp, show m' + 1 - 1 = (m' - 1) + 1 from by omega]; rfl

set_option maxRecDepth 100000 in
set_option maxHeartbeats 1000000 in
theorem stopNext_yes (C : Array Value) (f : Nat → Nat) (col n wide : Nat) (w : World) (hC : Words C f) (h1 : 1 ≤ wide) (h2 : wide ≤ 160) (h3 : col < wide) (h4 : 1 ≤ n) (h5 : n ≤ 16383) :
    Calls Try.prog 30 #[.agg C, .int .i64 col, .int .i64 n, .int .i64 wide] w fun e w' => e = .returned (.tuple #[.int .i64 (nextV f col n wide), .int .i64 0]) ∧ Below w.heap.size w w' := by
  have hs : (Try.prog.info? 46).map (·.size) = some C.size := by rw [hC.1]; exact sizeStops
  have Hs := Lib.hid hs
  have hls := fun w => stopList_any C f w hC
  have hmax := maskTo_len f 256
  have hd : nextV f col n wide = cntV (fun x => decide ((col : Int) < x) && decide (x < (wide : Int))) ((maskTo f 256).drop 0) n (wide - 1) := by
    unfold nextV cntV
    rw [List.drop_zero, stops_right f col wide h3 (by omega)]
  generalize maskTo f 256 = L at *
  obtain ⟨v, hv⟩ : ∃ v, v = nextV f col n wide := ⟨_, rfl⟩
  rw [← hv] at hd ⊢
  obtain ⟨n1, hn1⟩ : ∃ n1, n1 = L.length := ⟨_, rfl⟩
  rw [← hn1] at hmax
  have hls : ∀ w, Calls Try.prog 62 #[.agg C] w fun e w' => ∃ a c, e = .returned (.slice a n1 c) ∧ At w' a (ints L) ∧ Below w.heap.size w w' := by rw [hn1]; exact hls
  have Hn1 := Lib.hid hn1
  have Hd := Lib.hid hd
  have hrow0 := Lib.hid (heap_alloc_new w (.cells C 46))
  have g0 : IntKind.i64.wrap ((wide : Int) - 1) = (wide : Int) - 1 := IntWalk.i64_in _ (by omega)
  have g5 : ((n : Int) == 0) = false := by simp; omega
  clear hs hC hv hn1 hd
  go_enter Try.func30, Try.ntmps30
  go_wp2_with (first
    | (go_at_call 49; refine (between_t _ _ _ _ ⟨by omega, by omega⟩).mono ?_; rintro e w' ⟨rfl, rfl⟩)
    | (go_at_call 62; refine (hls _).mono ?_; rintro e w1 ⟨a, c, rfl, hat, hb1⟩)
    | ((with_reducible refine fw_load_var rfl 46 _ rfl w.heap.size C ?_ _ _ hrow0.out Try.underlying46 rfl Hs.out ?_); (focus rfl)))
  go_loop [10, 34] (fun x y => ∃ k i : Nat, x = .int .i64 k ∧ y = .int .i64 i ∧ i ≤ n1 ∧ k < n ∧ Hid (cntV (fun x => decide ((col : Int) < x) && decide (x < (wide : Int))) (L.drop i) (n - k) (wide - 1) = v)) (fun _ y => n1 - (intOf y).toNat)
  case atStart => exact ⟨0, 0, rfl, rfl, Nat.zero_le _, h4, Hd.out.symm⟩
  case round =>
    obtain ⟨k, i, rfl, rfl, hi, hk, Hv⟩ := hrel
    by_cases hlt : i < n1
    · obtain ⟨b, o, ha, hb, hc⟩ := hat.int (i := i) (by rw [← Hn1.out]; exact hlt)
      rw [ha]
      have hx := hc i (by rw [← Hn1.out]; exact hlt)
      have HL := Lib.hid (show i < L.length by rw [← Hn1.out]; exact hlt)
      clear hc ha
      obtain ⟨x, hX⟩ : ∃ x, x = L.getD i 0 := ⟨_, rfl⟩
      rw [← hX] at hx
      have HX := Lib.hid hX
      clear hX
      by_cases hp : (col : Int) < x ∧ x < (wide : Int)
      · have hpt : (fun x => decide ((col : Int) < x) && decide (x < (wide : Int))) (L.getD i 0) = true := by
          rw [← HX.out]; simp [hp.1, hp.2]
        obtain ⟨p1, p2⟩ := hp
        by_cases hn : k + 1 = n
        · have hq : ((k : Int) + 1 == (n : Int)) = true := by simp; omega
          have hv := Lib.hid ((cnt_one _ L i (n - k) (wide - 1) HL.out hpt (by omega)).symm.trans Hv.out)
          have hv2 := Lib.hid (HX.out.trans hv.out)
          have HN := Lib.hid hn
          clear hn hpt
          go_wp2_with fail
          go_ret2
          exact ⟨ret2 (by rw [← hv2.out]; rfl) rfl, ext_trans ((Below.refl _ _).alloc (Nat.le_refl _) _) hb1⟩
        · have hq : ((k : Int) + 1 == (n : Int)) = false := by simp; omega
          have hv := Lib.hid ((cnt_more _ L i (n - k) (n - (k + 1)) (wide - 1) HL.out hpt (by omega) (by omega)).symm.trans Hv.out)
          clear hpt
          go_wp2_with fail
          go_round
          case rel => exact ⟨k + 1, i + 1, by go_num, by go_num, hlt, by omega, hv⟩
          case measure => simp [intOf]; omega
      · have hpf : (fun x => decide ((col : Int) < x) && decide (x < (wide : Int))) (L.getD i 0) = false := by
          rw [← HX.out]; simp; omega
        have hv := Lib.hid ((cnt_no _ L i (n - k) (wide - 1) HL.out hpf).symm.trans Hv.out)
        clear hpf
        by_cases p1 : (col : Int) < x
        · have p2 : ¬ x < (wide : Int) := fun h => hp ⟨p1, h⟩
          clear hp
          go_wp2_with fail
          go_round
          case rel => exact ⟨k, i + 1, rfl, by go_num, hlt, hk, hv⟩
          case measure => simp [intOf]; omega
        · clear hp
          go_wp2_with fail
          go_round
          case rel => exact ⟨k, i + 1, rfl, by go_num, hlt, hk, hv⟩
          case measure => simp [intOf]; omega
    · obtain rfl : i = n1 := by omega
      have hv := Lib.hid ((cnt_end _ L i (n - k) (wide - 1) (by rw [Hn1.out]; exact Nat.le_refl _)).symm.trans Hv.out)
      go_wp2_with fail
      go_ret2
      exact ⟨ret2 (by rw [← hv.out]; rfl) rfl, ext_trans ((Below.refl _ _).alloc (Nat.le_refl _) _) hb1⟩

set_option maxRecDepth 100000 in
theorem stopNext_zero (C : Array Value) (col wide : Int) (w : World) (h1 : 1 ≤ wide) (h2 : wide ≤ 160) (h0 : 0 ≤ col) (h3 : col < wide) :
    Calls Try.prog 30 #[.agg C, .int .i64 col, .int .i64 0, .int .i64 wide] w fun e w' => e = .returned (.tuple #[.int .i64 col, .int .i64 0]) ∧ Below w.heap.size w w' := by
  have g0 : IntKind.i64.wrap (wide - 1) = wide - 1 := IntWalk.i64_in _ (by omega)
  go_enter Try.func30, Try.ntmps30
  go_wp2_with (go_at_call 49; refine (between_t _ _ _ _ ⟨by omega, by omega⟩).mono ?_; rintro e w' ⟨rfl, rfl⟩)
  go_ret2
  exact ⟨rfl, (Below.refl _ _).alloc (Nat.le_refl _) _⟩
set_option maxRecDepth 100000 in
set_option maxHeartbeats 1000000 in
theorem stopNext_no (C : Array Value) (col n wide : Int) (w : World) (h : wide < 1 ∨ (1 ≤ wide ∧ 160 < wide) ∨ (1 ≤ wide ∧ wide ≤ 160 ∧ col < 0) ∨ (1 ≤ wide ∧ wide ≤ 160 ∧ 0 ≤ col ∧ wide ≤ col) ∨ (1 ≤ wide ∧ wide ≤ 160 ∧ 0 ≤ col ∧ col < wide ∧ n < 0) ∨ (1 ≤ wide ∧ wide ≤ 160 ∧ 0 ≤ col ∧ col < wide ∧ 0 ≤ n ∧ 16383 < n)) :
    Calls Try.prog 30 #[.agg C, .int .i64 col, .int .i64 n, .int .i64 wide] w fun e w' => e = .returned (.tuple #[.int .i64 0, .int .i64 1]) ∧ Below w.heap.size w w' := by
  have g0 : 1 ≤ wide ∧ wide ≤ 160 → IntKind.i64.wrap (wide - 1) = wide - 1 := fun h => IntWalk.i64_in _ (by omega)
  rcases h with h | ⟨h, h1⟩ | ⟨h, h1, h2⟩ | ⟨h, h1, h2, h3⟩ | ⟨h, h1, h2, h3, h4⟩ | ⟨h, h1, h2, h3, h4, h5⟩
  all_goals
    first | (have g0 := g0 ⟨h, h1⟩) | clear g0
    go_enter Try.func30, Try.ntmps30
    go_wp2_with (first
      | (go_at_call 49; refine (between_t _ _ _ _ ⟨by omega, by omega⟩).mono ?_; rintro e w' ⟨rfl, rfl⟩)
      | (go_at_call 49; refine (between_f _ _ _ _ (by omega)).mono ?_; rintro e w' ⟨rfl, rfl⟩))
    go_ret2
    exact ⟨rfl, (Below.refl _ _).alloc (Nat.le_refl _) _⟩

end Go.Proofs.Ytkbkppoefgojaaa
