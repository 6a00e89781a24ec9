/- tabs.Next and tabs.Back, stop by stop. -/
import Derived.Test.YtkbkppoefgojaaaTabs
namespace Go.Proofs.Ytkbkppoefgojaaa
open Go.RowKit Go.Fw

theorem sizeStops : (Try.prog.info? 46).map (·.size) = some 4 := by kernel_rfl

/-- The answers on a fitting input. -/
def nextV (f : Nat → Nat) (c n wide : Nat) : Int := (rightOf f c wide).getD (n - 1) (wide - 1)
def backV (f : Nat → Nat) (c n : Nat) : Int := (maskTo f c).reverse.getD (n - 1) 0
theorem nextV_end (f : Nat → Nat) (c n wide : Nat) (h : wide ≤ c + 1) : nextV f c n wide = wide - 1 := by
  unfold nextV; rw [rightOf_end f c wide h]; rfl
theorem nextV_no (f : Nat → Nat) (c n wide : Nat) (h : c + 1 < wide) (hb : bitOf f (c + 1) = false) : nextV f c n wide = nextV f (c + 1) n wide := by
  unfold nextV; rw [rightOf_no f c wide h hb]
theorem nextV_one (f : Nat → Nat) (c wide : Nat) (h : c + 1 < wide) (hb : bitOf f (c + 1) = true) : nextV f c 1 wide = c + 1 := by
  unfold nextV; rw [rightOf_yes f c wide h hb]; rfl
theorem nextV_more (f : Nat → Nat) (c n wide : Nat) (h : c + 1 < wide) (hb : bitOf f (c + 1) = true) (hn : 1 ≤ n) : nextV f c (n + 1) wide = nextV f (c + 1) n wide := by
  unfold nextV; rw [rightOf_yes f c wide h hb, show n + 1 - 1 = (n - 1) + 1 from by omega]; rfl
theorem backV_end (f : Nat → Nat) (n : Nat) : backV f 0 n = 0 := rfl
theorem backV_no (f : Nat → Nat) (c n : Nat) (hb : bitOf f c = false) : backV f (c + 1) n = backV f c n := by
  unfold backV; rw [maskTo_succ, if_neg (by rw [hb]; decide)]
theorem backV_one (f : Nat → Nat) (c : Nat) (hb : bitOf f c = true) : backV f (c + 1) 1 = c := by
  unfold backV; rw [maskTo_succ, if_pos hb, List.reverse_append]; rfl
theorem backV_more (f : Nat → Nat) (c n : Nat) (hb : bitOf f c = true) (hn : 1 ≤ n) : backV f (c + 1) (n + 1) = backV f c n := by
  unfold backV; rw [maskTo_succ, if_pos hb, List.reverse_append, show n + 1 - 1 = (n - 1) + 1 from by omega]; rfl

set_option maxRecDepth 100000 in
set_option maxHeartbeats 1000000 in
theorem tabsNext_yes (C : Array Value) (f : Nat → Nat) (col n wide : Nat) (w : World) (hC : Words C f) (h1 : 1 ≤ wide) (h2 : wide ≤ 160) (h3 : col < wide) (h4 : 1 ≤ n) (h5 : n ≤ 16383) :
    Calls Try.prog 29 #[.agg C, .int .i64 col, .int .i64 n, .int .i64 wide] w fun e w' => e = .returned (.tuple #[.int .i64 (nextV f col n wide), .int .i64 0]) ∧ Below w.heap.size w w' := by
  have hs : (Try.prog.info? 46).map (·.size) = some C.size := by rw [hC.1]; exact sizeStops
  have Hs := Lib.hid hs
  clear hs
  have g1 : ¬ (wide : Int) < 1 := by omega
  have g2 : ¬ 160 < (wide : Int) := by omega
  have g3 : ¬ (col : Int) < 0 := by omega
  have g4 : ¬ (wide : Int) ≤ (col : Int) := by omega
  have g5 : ¬ (n : Int) < 0 := by omega
  have g6 : ¬ 16383 < (n : Int) := by omega
  go_enter Try.func29, Try.ntmps29
  go_wp2_with fail
  have hbl0 : Below w.heap.size w (w.alloc (.cells C 46)) := (Below.refl _ _).alloc (Nat.le_refl _) _
  have hrow0 : (w.alloc (.cells C 46)).heap[w.heap.size]? = some (.cells C 46 (0, 0)) := heap_alloc_new _ _
  obtain ⟨w1, hw1⟩ : ∃ w1, w1 = w.alloc (.cells C 46) := ⟨_, rfl⟩
  rw [← hw1] at hbl0 hrow0 ⊢
  clear hw1
  have hlt0 := row_lt hrow0
  obtain ⟨g, hg⟩ : ∃ g, g = w.heap.size := ⟨_, rfl⟩
  rw [← hg] at hrow0 hlt0
  rw [← hg]
  have Hg := Lib.hid hg
  have Hbl0 := Lib.hid hbl0
  clear hg hbl0
  go_loopw [2, 10] (fun x y wr => ∃ c m : Nat, x = .int .i64 m ∧ y = .int .i64 c ∧ c < wide ∧ 1 ≤ m ∧ m ≤ 16383 ∧ Hid (nextV f c m wide = nextV f col n wide) ∧ Below w1.heap.size w1 wr) (fun _ y _ => 256 - (intOf y).toNat)
  case atStart => exact ⟨col, n, rfl, rfl, h3, h4, h5, rfl, Below.refl _ _⟩
  case round =>
    obtain ⟨c, m, rfl, rfl, hc, hm, hm2, Hv, hbl⟩ := hrel
    have hrow := hbl.row hlt0 hrow0
    by_cases hlt : c + 1 < wide
    · have hh := fun w => tabHas_any C f (c + 1) w hC (by omega)
      cases hbit : bitOf f (c + 1)
      · have hv := Lib.hid ((nextV_no f c m wide hlt hbit).symm.trans Hv.out)
        rw [hbit] at hh
        clear hbit
        go_wp2_with ((with_reducible refine fw_load_var rfl 46 _ rfl g C ?_ _ _ hrow Try.underlying46 rfl Hs.out ?_); (focus rfl))
        refine (hh _).mono ?_
        rintro e w2 ⟨rfl, hb2⟩
        have hbl2 := hbl.trans (hb2.mono hbl.size)
        clear hbl hb2 hrow
        go_wp2_with fail
        go_roundw
        case rel => exact ⟨c + 1, m, rfl, by go_num, by omega, hm, hm2, hv, hbl2⟩
        case measure => simp [intOf]; omega
      · rw [hbit] at hh
        by_cases h1m : m = 1
        · subst h1m
          have hv := Lib.hid ((nextV_one f c wide hlt hbit).symm.trans Hv.out)
          clear hbit
          go_wp2_with ((with_reducible refine fw_load_var rfl 46 _ rfl g C ?_ _ _ hrow Try.underlying46 rfl Hs.out ?_); (focus rfl))
          refine (hh _).mono ?_
          rintro e w2 ⟨rfl, hb2⟩
          have hbl2 := hbl.trans (hb2.mono hbl.size)
          clear hbl hb2 hrow
          go_wp2_with fail
          go_ret2
          exact ⟨ret2 (by rw [← hv.out]; rfl) rfl, ext_trans Hbl0.out hbl2⟩
        · obtain ⟨m, rfl⟩ : ∃ k, m = k + 1 := ⟨m - 1, by omega⟩
          have hv := Lib.hid ((nextV_more f c m wide hlt hbit (by omega)).symm.trans Hv.out)
          clear hbit
          go_wp2_with ((with_reducible refine fw_load_var rfl 46 _ rfl g C ?_ _ _ hrow Try.underlying46 rfl Hs.out ?_); (focus rfl))
          refine (hh _).mono ?_
          rintro e w2 ⟨rfl, hb2⟩
          have hbl2 := hbl.trans (hb2.mono hbl.size)
          clear hbl hb2 hrow
          go_wp2_with fail
          go_roundw
          case rel => exact ⟨c + 1, m, by go_num, by go_num, by omega, by omega, by omega, hv, hbl2⟩
          case measure => simp [intOf]; omega
    · have hv := Lib.hid ((nextV_end f c m wide (by omega)).symm.trans Hv.out)
      go_wp2_with fail
      go_ret2
      exact ⟨ret2 (by rw [← hv.out]; rfl) rfl, ext_trans Hbl0.out hbl⟩

set_option maxRecDepth 100000 in
theorem tabsNext_zero (C : Array Value) (col wide : Int) (w : World) (h1 : 1 ≤ wide) (h2 : wide ≤ 160) (h0 : 0 ≤ col) (h3 : col < wide) :
    Calls Try.prog 29 #[.agg C, .int .i64 col, .int .i64 0, .int .i64 wide] w fun e w' => e = .returned (.tuple #[.int .i64 col, .int .i64 0]) ∧ Below w.heap.size w w' := by
  go_enter Try.func29, Try.ntmps29
  go_wp2_with fail
  refine wp_loop_rounds 2 ?_
  repeat' (first | (rw [rounds_succ]; go_wp2_with fail))
  go_ret2
  exact ⟨rfl, (Below.refl _ _).alloc (Nat.le_refl _) _⟩
set_option maxRecDepth 100000 in
set_option maxHeartbeats 1000000 in
theorem tabsNext_no (C : Array Value) (col n wide : Int) (w : World) (h : wide < 1 ∨ (1 ≤ wide ∧ 160 < wide) ∨ (1 ≤ wide ∧ wide ≤ 160 ∧ col < 0) ∨ (1 ≤ wide ∧ wide ≤ 160 ∧ 0 ≤ col ∧ wide ≤ col) ∨ (1 ≤ wide ∧ wide ≤ 160 ∧ 0 ≤ col ∧ col < wide ∧ n < 0) ∨ (1 ≤ wide ∧ wide ≤ 160 ∧ 0 ≤ col ∧ col < wide ∧ 0 ≤ n ∧ 16383 < n)) :
    Calls Try.prog 29 #[.agg C, .int .i64 col, .int .i64 n, .int .i64 wide] w fun e w' => e = .returned (.tuple #[.int .i64 0, .int .i64 1]) ∧ Below w.heap.size w w' := by
  rcases h with h | ⟨h, h1⟩ | ⟨h, h1, h2⟩ | ⟨h, h1, h2, h3⟩ | ⟨h, h1, h2, h3, h4⟩ | ⟨h, h1, h2, h3, h4, h5⟩
  all_goals
    go_enter Try.func29, Try.ntmps29
    go_wp2_with fail
    go_ret2
    exact ⟨rfl, (Below.refl _ _).alloc (Nat.le_refl _) _⟩

set_option maxRecDepth 100000 in
set_option maxHeartbeats 1000000 in
theorem tabsBack_yes (C : Array Value) (f : Nat → Nat) (col n : Nat) (w : World) (hC : Words C f) (h3 : col ≤ 255) (h4 : 1 ≤ n) (h5 : n ≤ 16383) :
    Calls Try.prog 31 #[.agg C, .int .i64 col, .int .i64 n] w fun e w' => e = .returned (.tuple #[.int .i64 (backV f col n), .int .i64 0]) ∧ Below w.heap.size w w' := by
  have hs : (Try.prog.info? 46).map (·.size) = some C.size := by rw [hC.1]; exact sizeStops
  have Hs := Lib.hid hs
  clear hs
  have g3 : ¬ (col : Int) < 0 := by omega
  have g4 : ¬ 255 < (col : Int) := by omega
  have g5 : ¬ (n : Int) < 0 := by omega
  have g6 : ¬ 16383 < (n : Int) := by omega
  go_enter Try.func31, Try.ntmps31
  go_wp2_with fail
  have hbl0 : Below w.heap.size w (w.alloc (.cells C 46)) := (Below.refl _ _).alloc (Nat.le_refl _) _
  have hrow0 : (w.alloc (.cells C 46)).heap[w.heap.size]? = some (.cells C 46 (0, 0)) := heap_alloc_new _ _
  obtain ⟨w1, hw1⟩ : ∃ w1, w1 = w.alloc (.cells C 46) := ⟨_, rfl⟩
  rw [← hw1] at hbl0 hrow0 ⊢
  clear hw1
  have hlt0 := row_lt hrow0
  obtain ⟨g, hg⟩ : ∃ g, g = w.heap.size := ⟨_, rfl⟩
  rw [← hg] at hrow0 hlt0
  rw [← hg]
  have Hg := Lib.hid hg
  have Hbl0 := Lib.hid hbl0
  clear hg hbl0
  go_loopw [2, 8] (fun x y wr => ∃ c m : Nat, x = .int .i64 m ∧ y = .int .i64 c ∧ c ≤ 255 ∧ 1 ≤ m ∧ m ≤ 16383 ∧ Hid (backV f c m = backV f col n) ∧ Below w1.heap.size w1 wr) (fun _ y _ => (intOf y).toNat)
  case atStart => exact ⟨col, n, rfl, rfl, h3, h4, h5, rfl, Below.refl _ _⟩
  case round =>
    obtain ⟨c, m, rfl, rfl, hc, hm, hm2, Hv, hbl⟩ := hrel
    have hrow := hbl.row hlt0 hrow0
    by_cases hlt : 1 ≤ c
    · obtain ⟨c, rfl⟩ : ∃ k, c = k + 1 := ⟨c - 1, by omega⟩
      have hh := fun w => tabHas_any C f c w hC (by omega)
      have ec : ((c + 1 : Nat) : Int) - 1 = (c : Int) := by omega
      cases hbit : bitOf f c
      · have hv := Lib.hid ((backV_no f c m hbit).symm.trans Hv.out)
        rw [hbit] at hh
        clear hbit
        go_wp2_with ((with_reducible refine fw_load_var rfl 46 _ rfl g C ?_ _ _ hrow Try.underlying46 rfl Hs.out ?_); (focus rfl))
        refine (hh _).mono ?_
        rintro e w2 ⟨rfl, hb2⟩
        have hbl2 := hbl.trans (hb2.mono hbl.size)
        clear hbl hb2 hrow
        go_wp2_with fail
        go_roundw
        case rel => exact ⟨c, m, rfl, by go_num, by omega, hm, hm2, hv, hbl2⟩
        case measure => simp [intOf]
      · rw [hbit] at hh
        by_cases h1m : m = 1
        · subst h1m
          have hv := Lib.hid ((backV_one f c hbit).symm.trans Hv.out)
          clear hbit
          go_wp2_with ((with_reducible refine fw_load_var rfl 46 _ rfl g C ?_ _ _ hrow Try.underlying46 rfl Hs.out ?_); (focus rfl))
          refine (hh _).mono ?_
          rintro e w2 ⟨rfl, hb2⟩
          have hbl2 := hbl.trans (hb2.mono hbl.size)
          clear hbl hb2 hrow
          go_wp2_with fail
          go_ret2
          exact ⟨ret2 (by rw [← hv.out]; rfl) rfl, ext_trans Hbl0.out hbl2⟩
        · obtain ⟨m, rfl⟩ : ∃ k, m = k + 1 := ⟨m - 1, by omega⟩
          have hv := Lib.hid ((backV_more f c m hbit (by omega)).symm.trans Hv.out)
          clear hbit
          go_wp2_with ((with_reducible refine fw_load_var rfl 46 _ rfl g C ?_ _ _ hrow Try.underlying46 rfl Hs.out ?_); (focus rfl))
          refine (hh _).mono ?_
          rintro e w2 ⟨rfl, hb2⟩
          have hbl2 := hbl.trans (hb2.mono hbl.size)
          clear hbl hb2 hrow
          go_wp2_with fail
          go_roundw
          case rel => exact ⟨c, m, by go_num, by go_num, by omega, by omega, by omega, hv, hbl2⟩
          case measure => simp [intOf]
    · obtain rfl : c = 0 := by omega
      have hv := Lib.hid ((backV_end f m).symm.trans Hv.out)
      go_wp2_with fail
      go_ret2
      exact ⟨ret2 (by rw [← hv.out]; rfl) rfl, ext_trans Hbl0.out hbl⟩

set_option maxRecDepth 100000 in
theorem tabsBack_zero (C : Array Value) (col : Int) (w : World) (h0 : 0 ≤ col) (h3 : col ≤ 255) :
    Calls Try.prog 31 #[.agg C, .int .i64 col, .int .i64 0] w fun e w' => e = .returned (.tuple #[.int .i64 col, .int .i64 0]) ∧ Below w.heap.size w w' := by
  go_enter Try.func31, Try.ntmps31
  go_wp2_with fail
  refine wp_loop_rounds 2 ?_
  repeat' (first | (rw [rounds_succ]; go_wp2_with fail))
  go_ret2
  exact ⟨rfl, (Below.refl _ _).alloc (Nat.le_refl _) _⟩
set_option maxRecDepth 100000 in
set_option maxHeartbeats 1000000 in
theorem tabsBack_no (C : Array Value) (col n : Int) (w : World) (h : col < 0 ∨ (0 ≤ col ∧ 255 < col) ∨ (0 ≤ col ∧ col ≤ 255 ∧ n < 0) ∨ (0 ≤ col ∧ col ≤ 255 ∧ 0 ≤ n ∧ 16383 < n)) :
    Calls Try.prog 31 #[.agg C, .int .i64 col, .int .i64 n] w fun e w' => e = .returned (.tuple #[.int .i64 0, .int .i64 1]) ∧ Below w.heap.size w w' := by
  rcases h with h | ⟨h, h1⟩ | ⟨h, h1, h2⟩ | ⟨h, h1, h2, h3⟩
  all_goals
    go_enter Try.func31, Try.ntmps31
    go_wp2_with fail
    go_ret2
    exact ⟨rfl, (Below.refl _ _).alloc (Nat.le_refl _) _⟩

end Go.Proofs.Ytkbkppoefgojaaa
