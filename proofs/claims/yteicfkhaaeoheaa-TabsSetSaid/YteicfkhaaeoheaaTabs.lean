/- Tab stops: the sets of columns left and right of one, and how each side counts through them. -/
import Derived.Test.YteicfkhaaeoheaaMask
namespace Go.Proofs.Yteicfkhaaeoheaa
open Go.RowKit Go.Fw

/-- The stops right of c and left of the edge, rising. -/
def rightOf (f : Nat → Nat) (c wide : Nat) : List Int := ((List.range' (c + 1) (wide - 1 - c)).filter (bitOf f)).map (fun b : Nat => (b : Int))
theorem rightOf_end (f : Nat → Nat) (c wide : Nat) (h : wide ≤ c + 1) : rightOf f c wide = [] := by
  unfold rightOf
  rw [show wide - 1 - c = 0 from by omega]
  rfl
theorem rightOf_yes (f : Nat → Nat) (c wide : Nat) (h : c + 1 < wide) (hb : bitOf f (c + 1) = true) : rightOf f c wide = ((c + 1 : Nat) : Int) :: rightOf f (c + 1) wide := by
  unfold rightOf
  rw [show wide - 1 - c = (wide - 1 - (c + 1)) + 1 from by omega, List.range'_succ, List.filter_cons, if_pos hb]
  rfl
theorem rightOf_no (f : Nat → Nat) (c wide : Nat) (h : c + 1 < wide) (hb : bitOf f (c + 1) = false) : rightOf f c wide = rightOf f (c + 1) wide := by
  unfold rightOf
  rw [show wide - 1 - c = (wide - 1 - (c + 1)) + 1 from by omega, List.range'_succ, List.filter_cons, if_neg (by rw [hb]; decide)]

theorem stops_left (f : Nat → Nat) (c : Nat) (h : c ≤ 256) : (maskTo f 256).filter (fun x => decide (x < (c : Int))) = maskTo f c := by
  unfold maskTo
  rw [List.filter_map]
  congr 1
  have e : List.range 256 = List.range c ++ List.range' c (256 - c) := by
    rw [List.range_eq_range', List.range_eq_range', show (256 : Nat) = c + (256 - c) from by omega, ← List.range'_append]
    simp
  rw [e, List.filter_append, List.filter_append]
  have h1 : List.filter ((fun x => decide (x < (c : Int))) ∘ fun b : Nat => (b : Int)) (List.filter (bitOf f) (List.range c)) = List.filter (bitOf f) (List.range c) := List.filter_eq_self.2 fun x hx => by
    have := (List.mem_range.1 (List.mem_filter.1 hx).1)
    simp; omega
  have h2 : List.filter ((fun x => decide (x < (c : Int))) ∘ fun b : Nat => (b : Int)) (List.filter (bitOf f) (List.range' c (256 - c))) = [] := List.filter_eq_nil_iff.2 fun x hx => by
    have := (List.mem_range'_1.1 (List.mem_filter.1 hx).1)
    simp; omega
  rw [h1, h2, List.append_nil]

theorem stops_right (f : Nat → Nat) (c wide : Nat) (hc : c < wide) (h : wide ≤ 256) : (maskTo f 256).filter (fun x => decide ((c : Int) < x) && decide (x < (wide : Int))) = rightOf f c wide := by
  unfold maskTo rightOf
  rw [List.filter_map]
  congr 1
  have e : List.range 256 = List.range (c + 1) ++ (List.range' (c + 1) (wide - 1 - c) ++ List.range' wide (256 - wide)) := by
    rw [List.range_eq_range', List.range_eq_range']
    have e1 : List.range' (c + 1) (wide - 1 - c) ++ List.range' wide (256 - wide) = List.range' (c + 1) (256 - (c + 1)) := by
      have := @List.range'_append (c + 1) (wide - 1 - c) (256 - wide) 1
      rw [show c + 1 + 1 * (wide - 1 - c) = wide from by omega, show wide - 1 - c + (256 - wide) = 256 - (c + 1) from by omega] at this
      exact this
    rw [e1]
    have := @List.range'_append 0 (c + 1) (256 - (c + 1)) 1
    rw [show 0 + 1 * (c + 1) = c + 1 from by omega, show c + 1 + (256 - (c + 1)) = 256 from by omega] at this
    exact this.symm
  rw [e, List.filter_append, List.filter_append, List.filter_append, List.filter_append]
  have h1 : List.filter ((fun x => decide ((c : Int) < x) && decide (x < (wide : Int))) ∘ fun b : Nat => (b : Int)) (List.filter (bitOf f) (List.range (c + 1))) = [] := List.filter_eq_nil_iff.2 fun x hx => by
    have := (List.mem_range.1 (List.mem_filter.1 hx).1)
    simp; omega
  have h2 : List.filter ((fun x => decide ((c : Int) < x) && decide (x < (wide : Int))) ∘ fun b : Nat => (b : Int)) (List.filter (bitOf f) (List.range' (c + 1) (wide - 1 - c))) = List.filter (bitOf f) (List.range' (c + 1) (wide - 1 - c)) := List.filter_eq_self.2 fun x hx => by
    have := (List.mem_range'_1.1 (List.mem_filter.1 hx).1)
    simp; omega
  have h3 : List.filter ((fun x => decide ((c : Int) < x) && decide (x < (wide : Int))) ∘ fun b : Nat => (b : Int)) (List.filter (bitOf f) (List.range' wide (256 - wide))) = [] := List.filter_eq_nil_iff.2 fun x hx => by
    have := (List.mem_range'_1.1 (List.mem_filter.1 hx).1)
    simp; omega
  rw [h1, h2, h3, List.nil_append, List.append_nil]


set_option maxRecDepth 100000 in
set_option maxHeartbeats 1000000 in
theorem stopList_any (C : Array Value) (f : Nat → Nat) (w : World) (hC : Words C f) :
    Calls Try.prog 27 #[.agg C] w fun e w' => ∃ a c, e = .returned (.slice a (maskTo f 256).length c) ∧ At w' a (ints (maskTo f 256)) ∧ Below w.heap.size w w' := by
  go_enter Try.func27, Try.ntmps27
  go_wp2_with fail
  have hbl0 : Below w.heap.size w (w.alloc (.cells C 30)) := (Below.refl _ _).alloc (Nat.le_refl _) _
  have hrow0 : (w.alloc (.cells C 30)).heap[w.heap.size]? = some (.cells C 30 (0, 0)) := heap_alloc_new _ _
  have hsz0 : (w.alloc (.cells C 30)).heap.size = w.heap.size + 1 := by simp
  obtain ⟨w1, hw1⟩ : ∃ w1, w1 = w.alloc (.cells C 30) := ⟨_, rfl⟩
  rw [← hw1] at hbl0 hrow0 hsz0 ⊢
  clear hw1
  have Hsz := Lib.hid hsz0
  have hlt0 : w.heap.size < w1.heap.size := by omega
  clear hsz0
  go_loopw [3, 5] (fun v i wr => ∃ k : Nat, k ≤ 256 ∧ i = .int .i64 k ∧ wr.ownsRow w1.heap.size 3 1 v (maskTo f k).length (ints (maskTo f k)) ∧ Below w1.heap.size w1 wr) (fun _ i _ => 256 - (intOf i).toNat)
  case atStart => exact ⟨0, Nat.zero_le _, rfl, World.ownsRow_nil _ _ _ _, Below.refl _ _⟩
  case round =>
    obtain ⟨k, hk, rfl, hown, hbl⟩ := hrel
    have hrow := hbl.row hlt0 hrow0
    by_cases hlt : k < 256
    · have hlen := maskTo_len f k
      have hsucc := maskTo_succ f k
      obtain ⟨hx, hx'⟩ := hC.2 (k / 64) (by omega)
      obtain ⟨x, hX⟩ : ∃ x, x = f (k / 64) := ⟨_, rfl⟩
      have Hfin : Hid (bitOf f k = decide (x / 2 ^ (k % 64) % 2 = 1)) := by unfold Hid bitOf; rw [← hX, testBit_mod]
      rw [← hX] at hx hx'
      clear hX
      have hcell : wr.cell? ⟨w.heap.size, k / 64, none⟩ = some (.int .u64 x) := by rw [cell_of_row _ _ _ _ _ _ hrow]; exact hx
      have e1 : IntKind.i64.wrap ((k : Int) / 64) = (k : Int) / 64 := IntWalk.i64_in _ (by omega)
      have e2 : (k : Int).tmod 64 = (k : Int) % 64 := Int.tmod_eq_emod_of_nonneg (by omega)
      have e3 : (0 : Int) ≤ (k : Int) / 64 := by omega
      have e4 : (k : Int) / 64 < 4 := by omega
      have e5 : ((k : Int) / 64).toNat = k / 64 := by omega
      have e6 : (0 : Int) ≤ (k : Int) % 64 := by omega
      have e7 : (k : Int) % 64 ≤ 64 := by omega
      have e8 : ((k : Int) % 64).toNat = k % 64 := by omega
      obtain ⟨p, hp⟩ : ∃ p : Nat, p = 2 ^ (k % 64) := ⟨_, rfl⟩
      have hp0 : 0 < p := by rw [hp]; exact Nat.two_pow_pos _
      have hp1 : p < 18446744073709551616 := by rw [hp]; exact Nat.pow_lt_pow_right (a := 2) (by omega) (show k % 64 < 64 by omega)
      have e9 : IntKind.u64.wrap ((2 : Int) ^ (k % 64)) = (p : Int) := by
        rw [show ((2 : Int) ^ (k % 64)) = (p : Int) from by rw [hp]; simp]
        exact IntWalk.u64_in _ (by omega)
      have e10 : ¬ (p : Int) = 0 := by omega
      have hdb := divbit x p hx'
      have Hp := Lib.hid hp
      rw [hp, ← Hfin.out] at hdb
      rw [← hp] at hdb
      clear hp
      have Hown := Lib.hid hown
      have Hbl := Lib.hid hbl
      have Hrow := Lib.hid hrow
      have Hsucc := Lib.hid hsucc
      clear hown hbl hrow hsucc
      cases hbit : bitOf f k
      · rw [hbit] at hdb
        have hs0 : maskTo f (k + 1) = maskTo f k := by rw [Hsucc.out, hbit]; rfl
        have Hs0 := Lib.hid hs0
        clear hbit hs0
        go_wp2_with fail
        go_quiet (fail)
        go_wp2_with fail
        go_roundw
        case rel => exact ⟨k + 1, by omega, by go_num, by rw [Hs0.out]; exact own_ext Hown.out ((Below.refl _ _).drewN _), Hbl.out.drewN _⟩
        case measure => simp [intOf]; omega
      · rw [hbit] at hdb
        have hs0 : maskTo f (k + 1) = maskTo f k ++ [(k : Int)] := by rw [Hsucc.out, hbit]; rfl
        have Hs0 := Lib.hid hs0
        clear hbit hs0
        go_wp2_with fail
        go_quiet (fail)
        have hown2 := own_ext Hown.out ((Below.refl wr.heap.size wr).drewN nq)
        have hbl2 := Hbl.out.drewN nq
        go_wp2_with (at_builtin; (refine fw_append rfl _ _ 37 rfl w1.heap.size 3 (.int .i64 0) 1 8 Try.underlying37 i64i rfl (by decide) (by decide) _ _ _ rfl hown2 wr.heap.size 1 [.int .i64 k] rfl rfl rfl rfl (one_int _ _) (by omega) hbl2.size ?_); intro v3 w3 hown3 hb3)
        have hbl3 := hbl2.trans hb3
        clear hown2 hbl2 hb3
        go_wp2_with fail
        go_roundw
        case rel => exact ⟨k + 1, by omega, by go_num, by rw [Hs0.out]; simpa [ints] using hown3, hbl3⟩
        case measure => simp [intOf]; omega
    · obtain rfl : k = 256 := by omega
      obtain ⟨a, c, hv, hat⟩ := At.own hown
      rw [hv]
      clear hown
      go_wp2_with fail
      go_ret
      exact ⟨a, c, rfl, hat, ext_trans hbl0 hbl⟩

end Go.Proofs.Yteicfkhaaeoheaa
