/- The walks of mask: sets of bytes as four words of 64 bits. -/
import Derived.Test.YtkbkppoefgojaaaAbout
import Derived.Test.YtkbkppoefgojaaaBase2
import Derived.StillTailTactics
import Derived.RegionTactic
import Derived.ChangeAlike
namespace Go.Proofs.Ytkbkppoefgojaaa
open Go.RowKit Go.Fw

/-- Four words, as cells. -/
def Words (C : Array Value) (f : Nat → Nat) : Prop := C.size = 4 ∧ ∀ j, j < 4 → C[j]? = some (.int .u64 (f j)) ∧ f j < 18446744073709551616
def bitOf (f : Nat → Nat) (b : Nat) : Bool := (f (b / 64)).testBit (b % 64)

theorem and1 (x k : Nat) (hx : x < 18446744073709551616) : (bits .and .u64 ((x : Int) / 2 ^ k) 1 == 1) = decide (x / 2 ^ k % 2 = 1) := by
  have hq : x / 2 ^ k < 18446744073709551616 := Nat.lt_of_le_of_lt (Nat.div_le_self _ _) hx
  have h := u64_and_nat (x / 2 ^ k) 1 hq (by omega)
  have e : ((x / 2 ^ k : Nat) : Int) = (x : Int) / 2 ^ k := by rw [Int.natCast_ediv]; simp
  rw [e] at h
  rw [show (1 : Int) = ((1 : Nat) : Int) from rfl, h, Nat.and_one_is_mod, Bool.eq_iff_iff]
  simp only [beq_iff_eq, decide_eq_true_eq]
  omega
theorem divbit (x p : Nat) (hx : x < 18446744073709551616) : ((IntKind.u64.wrap ((x : Int) / (p : Int))).tmod 2 == 1) = decide (x / p % 2 = 1) := by
  have hq : x / p < 18446744073709551616 := Nat.lt_of_le_of_lt (Nat.div_le_self _ _) hx
  have e : (x : Int) / (p : Int) = ((x / p : Nat) : Int) := by rw [Int.natCast_ediv]
  rw [e]
  clear e
  generalize x / p = q at *
  rw [IntWalk.u64_in _ (by omega), Int.tmod_eq_emod_of_nonneg (by omega), Bool.eq_iff_iff]
  simp only [beq_iff_eq, decide_eq_true_eq]
  omega
theorem testBit_mod (x k : Nat) : x.testBit k = decide (x / 2 ^ k % 2 = 1) := by
  rw [Nat.testBit_eq_decide_div_mod_eq]

theorem bytesOf_one (k : Nat) (h : k < 256) : bytesOf [(k : Int)] = strOfNums [(k : Int)] := by
  unfold bytesOf
  rw [List.map_cons, List.map_nil, Int.emod_eq_of_lt (by omega) (by omega)]

set_option maxRecDepth 100000 in
set_option maxHeartbeats 400000 in
theorem has_any (C : Array Value) (f : Nat → Nat) (b : Nat) (w : World) (hC : Words C f) (h : b < 256) :
    Calls Try.prog 22 #[.agg C, .int .u8 b] w fun e w' => e = .returned (.bool (bitOf f b)) ∧ Below w.heap.size w w' := by
  obtain ⟨hs, hC⟩ := hC
  obtain ⟨hx, hx'⟩ := hC (b / 64) (by omega)
  obtain ⟨x, hX⟩ : ∃ x, x = f (b / 64) := ⟨_, rfl⟩
  have Hfin : Hid (bitOf f b = decide (x / 2 ^ (b % 64) % 2 = 1)) := by unfold Hid bitOf; rw [← hX, testBit_mod]
  rw [← hX] at hx hx'
  clear hX hC hs
  go_enter Try.func22, Try.ntmps22
  go_wp2
  go_ret
  exact ⟨ret_bool (by rw [Hfin.out]; exact and1 x _ hx'), (Below.refl _ _).alloc (Nat.le_refl _) _⟩

set_option maxRecDepth 100000 in
set_option maxHeartbeats 400000 in
theorem inMask_any (C : Array Value) (f : Nat → Nat) (b : Nat) (w : World) (hC : Words C f) (h : b < 256) :
    Calls Try.prog 20 #[.agg C, .int .i64 b] w fun e w' => e = .returned (.bool (bitOf f b)) ∧ Below w.heap.size w w' := by
  obtain ⟨hs, hC⟩ := hC
  obtain ⟨hx, hx'⟩ := hC (b / 64) (by omega)
  obtain ⟨x, hX⟩ : ∃ x, x = f (b / 64) := ⟨_, rfl⟩
  have Hfin : Hid (bitOf f b = decide (x / 2 ^ (b % 64) % 2 = 1)) := by unfold Hid bitOf; rw [← hX, testBit_mod]
  rw [← hX] at hx hx'
  clear hX hC hs
  have e1 : IntKind.i64.wrap ((b : Int) / 64) = (b : Int) / 64 := IntWalk.i64_in _ (by omega)
  have e2 : (b : Int).tmod 64 = (b : Int) % 64 := Int.tmod_eq_emod_of_nonneg (by omega)
  have e3 : (0 : Int) ≤ (b : Int) / 64 := by omega
  have e4 : (b : Int) / 64 < 4 := by omega
  have e5 : ((b : Int) / 64).toNat = b / 64 := by omega
  have e6 : (0 : Int) ≤ (b : Int) % 64 := by omega
  have e7 : (b : Int) % 64 ≤ 64 := by omega
  have e8 : ((b : Int) % 64).toNat = b % 64 := by omega
  obtain ⟨p, hp⟩ : ∃ p : Nat, p = 2 ^ (b % 64) := ⟨_, rfl⟩
  have hp0 : 0 < p := by rw [hp]; exact Nat.two_pow_pos _
  have hp1 : p < 18446744073709551616 := by rw [hp]; exact Nat.pow_lt_pow_right (a := 2) (by omega) (show b % 64 < 64 by omega)
  have e9 : IntKind.u64.wrap ((2 : Int) ^ (b % 64)) = (p : Int) := by
    rw [show ((2 : Int) ^ (b % 64)) = (p : Int) from by rw [hp]; simp]
    exact IntWalk.u64_in _ (by omega)
  have e10 : ¬ (p : Int) = 0 := by omega
  have Hp := Lib.hid hp
  clear hp
  go_enter Try.func20, Try.ntmps20
  go_wp2
  go_quiet (fail)
  go_wp2
  go_ret
  exact ⟨ret_bool (by rw [Hfin.out, ← Hp.out]; exact divbit x p hx'), ((Below.refl _ _).alloc (Nat.le_refl _) _).drewN _⟩

/-- The members of a set below k, rising. -/
def maskTo (f : Nat → Nat) (k : Nat) : List Int := ((List.range k).filter (bitOf f)).map (fun b : Nat => (b : Int))
theorem maskTo_succ (f : Nat → Nat) (k : Nat) : maskTo f (k + 1) = if bitOf f k = true then maskTo f k ++ [(k : Int)] else maskTo f k := by
  unfold maskTo
  rw [List.range_succ, List.filter_append]
  cases h : bitOf f k <;> simp [h]
theorem maskTo_len (f : Nat → Nat) (k : Nat) : (maskTo f k).length ≤ k := by
  unfold maskTo
  rw [List.length_map]
  exact Nat.le_trans (List.length_filter_le _ _) (by simp)
theorem maskTo_mem (f : Nat → Nat) (k : Nat) : ∀ x ∈ maskTo f k, 0 ≤ x ∧ x < k := by
  intro x hx
  unfold maskTo at hx
  simp only [List.mem_map, List.mem_filter, List.mem_range] at hx
  obtain ⟨b, ⟨hb, _⟩, rfl⟩ := hx
  omega

theorem sizeMask : (Try.prog.info? 36).map (·.size) = some 4 := by kernel_rfl
set_option maxRecDepth 100000 in
set_option maxHeartbeats 1000000 in
theorem maskBytes_any (C : Array Value) (f : Nat → Nat) (w : World) (hC : Words C f) :
    Calls Try.prog 23 #[.agg C] w fun e w' => e = .returned (.string (strOfNums (maskTo f 256))) ∧ Below w.heap.size w w' := by
  have hs : (Try.prog.info? 36).map (·.size) = some C.size := by rw [hC.1]; exact sizeMask
  have Hs := Lib.hid hs
  clear hs
  go_enter Try.func23, Try.ntmps23
  go_wp2_with fail
  have hbl0 : Below w.heap.size w (w.alloc (.cells C 36)) := (Below.refl _ _).alloc (Nat.le_refl _) _
  have hrow0 : (w.alloc (.cells C 36)).heap[w.heap.size]? = some (.cells C 36 (0, 0)) := heap_alloc_new _ _
  have hsz0 : (w.alloc (.cells C 36)).heap.size = w.heap.size + 1 := by simp
  obtain ⟨w1, hw1⟩ : ∃ w1, w1 = w.alloc (.cells C 36) := ⟨_, rfl⟩
  rw [← hw1] at hbl0 hrow0 hsz0 ⊢
  clear hw1
  have Hsz := Lib.hid hsz0
  have hlt0 : w.heap.size < w1.heap.size := by omega
  clear hsz0
  go_loopw [3, 5] (fun v i wr => ∃ k : Nat, k ≤ 256 ∧ i = .int .i64 k ∧ wr.ownsRow w1.heap.size 5 1 v (maskTo f k).length (octs (maskTo f k)) ∧ Below w1.heap.size w1 wr) (fun _ i _ => 256 - (intOf i).toNat)
  case atStart => exact ⟨0, Nat.zero_le _, rfl, World.ownsRow_nil _ _ _ _, Below.refl _ _⟩
  case round =>
    obtain ⟨k, hk, rfl, hown, hbl⟩ := hrel
    have hrow := hbl.row hlt0 hrow0
    by_cases hlt : k < 256
    · have hlen := maskTo_len f k
      have hsucc := maskTo_succ f k
      go_wp2_with ((with_reducible refine fw_load_var rfl 36 _ rfl w.heap.size C ?_ _ _ hrow Try.underlying36 rfl Hs.out ?_); (focus rfl))
      refine (has_any C f k _ hC hlt).mono ?_
      rintro e w2 ⟨rfl, hb2⟩
      have hown2 := own_ext hown hb2
      have hbl2 := hbl.trans (hb2.mono hbl.size)
      clear hown hbl hb2 hrow
      cases hbit : bitOf f k
      · rw [hbit] at hsucc
        have Hsucc := Lib.hid hsucc
        clear hsucc hbit
        go_wp2_with fail
        go_roundw
        case rel => exact ⟨k + 1, by omega, by go_num, by rw [Hsucc.out]; exact hown2, hbl2⟩
        case measure => simp [intOf]; omega
      · rw [hbit] at hsucc
        have Hsucc := Lib.hid hsucc
        clear hsucc hbit
        go_wp2_with (at_builtin; (refine fw_append rfl _ _ 89 rfl w1.heap.size 5 (.int .u8 0) 1 1 Try.underlying89 u8i rfl (by decide) (by decide) _ _ _ rfl hown2 w2.heap.size 1 [.int .u8 k] rfl rfl rfl rfl (one_int _ _) (by omega) hbl2.size ?_); intro v3 w3 hown3 hb3)
        have hbl3 := hbl2.trans hb3
        clear hown2 hbl2 hb3
        go_wp2_with fail
        go_roundw
        case rel => exact ⟨k + 1, by omega, by go_num, by rw [Hsucc.out]; simpa [octs] using hown3, hbl3⟩
        case measure => simp [intOf]; omega
    · obtain rfl : k = 256 := by omega
      obtain ⟨a, c, hv, hat⟩ := At.own hown
      have hcv := conv_octs (P := Try.prog) Try.underlying89 Try.underlying5 Try.underlying9 c rfl hat
      rw [hv]
      clear hown hat
      go_wp2_with fail
      go_ret
      exact ⟨rfl, ext_trans hbl0 hbl⟩

set_option maxRecDepth 100000 in
set_option maxHeartbeats 1000000 in
theorem refMaskBytes_any (C : Array Value) (f : Nat → Nat) (w : World) (hC : Words C f) :
    Calls Try.prog 24 #[.agg C] w fun e w' => e = .returned (.string (strOfNums (maskTo f 256))) ∧ Below w.heap.size w w' := by
  have hs : (Try.prog.info? 36).map (·.size) = some C.size := by rw [hC.1]; exact sizeMask
  have Hs := Lib.hid hs
  clear hs
  go_enter Try.func24, Try.ntmps24
  go_wp2_with fail
  have hbl0 : Below w.heap.size w (w.alloc (.cells C 36)) := (Below.refl _ _).alloc (Nat.le_refl _) _
  have hrow0 : (w.alloc (.cells C 36)).heap[w.heap.size]? = some (.cells C 36 (0, 0)) := heap_alloc_new _ _
  have hsz0 : (w.alloc (.cells C 36)).heap.size = w.heap.size + 1 := by simp
  obtain ⟨w1, hw1⟩ : ∃ w1, w1 = w.alloc (.cells C 36) := ⟨_, rfl⟩
  rw [← hw1] at hbl0 hrow0 hsz0 ⊢
  clear hw1
  have hlt0 : w.heap.size < w1.heap.size := by omega
  clear hsz0
  go_loopw [3, 5] (fun v i wr => ∃ k : Nat, k ≤ 256 ∧ i = .int .i64 k ∧ v = .string (strOfNums (maskTo f k)) ∧ Below w1.heap.size w1 wr) (fun _ i _ => 256 - (intOf i).toNat)
  case atStart => exact ⟨0, Nat.zero_le _, rfl, rfl, Below.refl _ _⟩
  case round =>
    obtain ⟨k, hk, rfl, rfl, hbl⟩ := hrel
    have hrow := hbl.row hlt0 hrow0
    by_cases hlt : k < 256
    · have hlen := maskTo_len f k
      have hsucc := maskTo_succ f k
      have hsz := strOfNums_size (maskTo f k)
      go_wp2_with ((with_reducible refine fw_load_var rfl 36 _ rfl w.heap.size C ?_ _ _ hrow Try.underlying36 rfl Hs.out ?_); (focus rfl))
      refine (inMask_any C f k _ hC hlt).mono ?_
      rintro e w2 ⟨rfl, hb2⟩
      have hbl2 := hbl.trans (hb2.mono hbl.size)
      clear hbl hb2 hrow
      cases hbit : bitOf f k
      · rw [hbit] at hsucc
        have Hsucc := Lib.hid hsucc
        clear hsucc hbit
        go_wp2_with fail
        go_roundw
        case rel => exact ⟨k + 1, by omega, by go_num, by rw [Hsucc.out]; rfl, hbl2⟩
        case measure => simp [intOf]; omega
      · rw [hbit] at hsucc
        have Hsucc := Lib.hid hsucc
        clear hsucc hbit
        go_wp2_with fail
        refine (bytes_any [(k : Int)] _ 1 1 _ rfl (by simp) (At.new _ _ _)).mono ?_
        rintro e w3 ⟨rfl, hb3⟩
        have hbl3 := (hbl2.alloc hbl2.size _).trans (hb3.mono (by have := hbl2.size; simp; omega))
        rw [bytesOf_one k hlt]
        have hadd := fun w => str_add (P := Try.prog) (maskTo f k) [(k : Int)] (by simp; omega) w
        clear hbl2 hb3
        go_wp2_with fail
        go_roundw
        case rel => exact ⟨k + 1, by omega, by go_num, by rw [Hsucc.out]; rfl, hbl3⟩
        case measure => simp [intOf]; omega
    · obtain rfl : k = 256 := by omega
      go_wp2_with fail
      go_ret
      exact ⟨rfl, ext_trans hbl0 hbl⟩

/-- The words of the set of the first k bytes of a text. -/
def ofTo (l : List UInt8) (k : Nat) (j : Nat) : Nat := (l.take k).foldl (fun acc c => if c.toNat / 64 = j then acc ||| 2 ^ (c.toNat % 64) else acc) 0

theorem words_one {C : Array Value} {f : Nat → Nat} (hC : Words C f) : C.all (·.oneCell') = true := by
  rw [Array.all_eq_true]
  intro i hi
  have h := (hC.2 i (by rw [hC.1] at hi; exact hi)).1
  rw [Array.getElem?_eq_getElem hi] at h
  rw [Option.some.inj h]
  rfl
theorem words_zero (l : List UInt8) : Words #[.int .u64 0, .int .u64 0, .int .u64 0, .int .u64 0] (ofTo l 0) := by
  refine ⟨rfl, fun j hj => ?_⟩
  have e : ofTo l 0 j = 0 := by simp [ofTo]
  rw [e]
  match j, hj with
  | 0, _ => exact ⟨rfl, by omega⟩
  | 1, _ => exact ⟨rfl, by omega⟩
  | 2, _ => exact ⟨rfl, by omega⟩
  | 3, _ => exact ⟨rfl, by omega⟩
theorem ofTo_step (l : List UInt8) (k c : Nat) (hk : k < l.length) (hc : l[k].toNat = c) {C : Array Value} (hC : Words C (ofTo l k)) :
    Words (C.setIfInBounds (c / 64) (.int .u64 (bits .or .u64 (ofTo l k (c / 64) : Nat) (IntKind.u64.wrap (2 ^ (c % 64)))))) (ofTo l (k + 1)) := by
  have hc256 : c < 256 := by rw [← hc]; exact UInt8.toNat_lt _
  obtain ⟨hs, hC⟩ := hC
  have hp : 2 ^ (c % 64) < 18446744073709551616 := Nat.pow_lt_pow_right (a := 2) (by omega) (show c % 64 < 64 by omega)
  have hw : IntKind.u64.wrap ((2 : Int) ^ (c % 64)) = ((2 ^ (c % 64) : Nat) : Int) := by
    have e : ((2 : Int) ^ (c % 64)) = ((2 ^ (c % 64) : Nat) : Int) := by simp
    rw [e]
    generalize 2 ^ (c % 64) = q at *
    exact IntWalk.u64_in _ (by omega)
  have hstep : ∀ j, ofTo l (k + 1) j = if c / 64 = j then ofTo l k j ||| 2 ^ (c % 64) else ofTo l k j := by
    intro j
    unfold ofTo
    rw [List.take_succ_eq_append_getElem hk, List.foldl_append]
    simp only [List.foldl_cons, List.foldl_nil, hc]
  refine ⟨by simpa using hs, fun j hj => ?_⟩
  rw [hstep j, Array.getElem?_setIfInBounds]
  by_cases h : c / 64 = j
  · subst h
    rw [if_pos rfl, if_pos (by omega), if_pos rfl, hw]
    have hx := (hC (c / 64) hj).2
    refine ⟨?_, Nat.or_lt_two_pow (n := 64) hx hp⟩
    rw [u64_or_nat _ _ hx hp]
  · rw [if_neg h, if_neg h]
    exact hC j hj

set_option maxRecDepth 100000 in
set_option maxHeartbeats 1000000 in
theorem maskOf_any (s : ByteArray) (w : World) (hs : s.size ≤ maxLen) :
    Calls Try.prog 19 #[.string s] w fun e w' => ∃ C, e = .returned (.agg C) ∧ Words C (ofTo s.data.toList s.size) ∧ Below w.heap.size w w' := by
  unfold maxLen at hs
  go_enter Try.func19, Try.ntmps19
  go_wp2_with fail
  go_loopw [7] (fun i wr => ∃ k : Nat, k ≤ s.size ∧ i = .int .i64 k ∧ (∃ C, wr.heap[w.heap.size + 1]? = some (.cells C 36 (0, 0)) ∧ Words C (ofTo s.data.toList k)) ∧ Below (w.heap.size + 1) (w.alloc (.cells #[.int .u64 0, .int .u64 0, .int .u64 0, .int .u64 0] 36)) wr) (fun i _ => s.size - (intOf i).toNat)
  case atStart => exact ⟨0, Nat.zero_le _, rfl, ⟨_, by simpa using heap_alloc_new (w.alloc (.cells #[.int .u64 0, .int .u64 0, .int .u64 0, .int .u64 0] 36)) _, words_zero _⟩, (Below.refl _ _).alloc (by simp) _⟩
  case round =>
    obtain ⟨k, hk, rfl, ⟨C, hrow, hC⟩, hbl⟩ := hrel
    by_cases hlt : k < s.size
    · obtain ⟨c, hc⟩ : ∃ c, c = (s[k]'hlt).toNat := ⟨_, rfl⟩
      have hc256 : c < 256 := by rw [hc]; exact UInt8.toNat_lt _
      go_wp2_with fail
      obtain ⟨x, hX⟩ : ∃ x, x = ofTo s.data.toList k (c / 64) := ⟨_, rfl⟩
      obtain ⟨hx, hx'⟩ := hC.2 (c / 64) (by omega)
      rw [← hX] at hx hx'
      have hcell : wr.cell? ⟨w.heap.size + 1, c / 64, none⟩ = some (.int .u64 x) := by rw [cell_of_row _ _ _ _ _ _ hrow]; exact hx
      have hfz : wr.frozen? ⟨w.heap.size + 1, c / 64, none⟩ = false := frozen_of_row _ _ _ _ _ hrow
      have hcs : (s[k]'hlt).toNat = c := hc.symm
      clear hc
      have hw2 := ofTo_step s.data.toList k c (by rw [Array.length_toList]; exact hlt) (by rw [← hcs]; rfl) hC
      rw [← hX] at hw2
      have Hw2 := Lib.hid hw2
      clear hw2 hC hX
      go_region
      go_wp2
      go_roundw
      case rel =>
        refine ⟨k + 1, by omega, by go_num, ⟨C.setIfInBounds (c / 64) (.int .u64 (bits .or .u64 x (IntKind.u64.wrap (2 ^ (c % 64))))), ?_, Hw2.out⟩, ?_⟩
        · exact heap_setCell_same _ _ _ _ _ _ hrow
        · exact (hbl.setCell (Nat.le_refl _) _).drew
      case measure => simp [intOf]; omega
    · obtain rfl : k = s.size := by omega
      have hsz : (Try.prog.info? 36).map (·.size) = some C.size := by rw [hC.1]; exact sizeMask
      have Hsz := Lib.hid hsz
      clear hsz
      have hone : C.all (·.oneCell') = true := words_one hC
      have Hone := Lib.hid hone
      clear hone
      have hrow0 : wr.heap[w.heap.size]? = some (.cells #[.int .u64 0, .int .u64 0, .int .u64 0, .int .u64 0] 36 (0, 0)) := hbl.row (by omega) (heap_alloc_new _ _)
      go_wp2_with (first | ((with_reducible refine fw_load_var rfl 36 _ rfl (w.heap.size + 1) C ?_ _ _ hrow Try.underlying36 rfl Hsz.out ?_); (focus rfl)) | ((with_reducible refine fw_store_row rfl 36 _ _ rfl w.heap.size _ C _ ?_ ?_ hrow0 Hsz.out ?_ Hone.out ?_); (focus rfl); (focus rfl); (focus (rw [hC.1]; rfl)); intro w2 hrow2 hb2))
      have hb2 := hb2 w.heap.size (Nat.le_refl _)
      refine bodyPost_ret (results_cell_row rfl _ _ w.heap.size _ C _ _ rfl hrow2 Try.underlying36 rfl Hsz.out) rfl ⟨C, rfl, hC, ?_⟩
      exact (((Below.refl _ _).alloc (Nat.le_refl _) _).trans (hbl.mono (by omega))).trans hb2

end Go.Proofs.Ytkbkppoefgojaaa
