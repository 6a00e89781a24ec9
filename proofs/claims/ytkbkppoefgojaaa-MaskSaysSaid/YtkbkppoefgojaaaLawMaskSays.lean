/- farlaw.MaskSays returns true for every input, and each argument reads as it read. -/
import Derived.Test.YtkbkppoefgojaaaLawAgg
import Derived.Test.YtkbkppoefgojaaaMask
import Derived.Test.YtkbkppoefgojaaaBase3
import Derived.Test.YtkbkppoefgojaaaIndexByte
namespace Go.Proofs.Ytkbkppoefgojaaa
open Go.RowKit Go.Fw Go.ChangeShapes Go.WideShapes Go.ChangeAt
open Go.ChangeMaps (open_string)

theorem own : ownKnob Try.prog.godebug = none := by kernel_rfl
theorem laidOut : laidOutB Try.prog = true := by kernel_rfl

/-- A bit of the set of a text: whether the text holds the byte. -/
theorem ofFold_bit (j i : Nat) (hi : i < 64) (l : List UInt8) : ∀ acc : Nat, (l.foldl (fun acc c => if c.toNat / 64 = j then acc ||| 2 ^ (c.toNat % 64) else acc) acc).testBit i = (acc.testBit i || l.any (fun c => decide (c.toNat = j * 64 + i))) := by
  induction l with
  | nil => intro acc; simp
  | cons c l ih =>
    intro acc
    rw [List.foldl_cons, ih, List.any_cons, ← Bool.or_assoc]
    congr 1
    by_cases h : c.toNat / 64 = j
    · rw [if_pos h, Nat.testBit_or, Nat.testBit_two_pow]
      congr 1
      rw [decide_eq_decide]
      omega
    · rw [if_neg h, show decide (c.toNat = j * 64 + i) = false from by simpa using (by omega), Bool.or_false]
theorem bitOf_ofTo (s : ByteArray) (b : Nat) (hb : b < 256) : bitOf (ofTo s.data.toList s.size) b = decide (0 ≤ Lib.indexByte s.data.toList (b : Int).toNat.toUInt8) := by
  rw [Int.toNat_natCast, indexByte_mem]
  unfold bitOf ofTo
  rw [List.take_of_length_le (by rw [Array.length_toList]; exact Nat.le_refl _), ofFold_bit _ _ (by omega), Nat.zero_testBit, Bool.false_or]
  congr 1
  funext c
  rw [Bool.eq_iff_iff]
  simp only [decide_eq_true_eq, beq_iff_eq, ← UInt8.toNat_inj]
  rw [show b.toUInt8.toNat = b from by simp; omega]
  omega

set_option maxRecDepth 100000 in
set_option maxHeartbeats 1000000 in
theorem maskSays_at (C : Array Value) (f : Nat → Nat) (b : Nat) (s : ByteArray) (w : World) (hC : Words C f) (hb : b < 256) (hs : s.size ≤ maxLen) :
    Calls Try.prog 5 #[.agg C, .int .u8 b, .string s] w fun e w' => e = .returned (.bool true) ∧ Below w.heap.size w w' := by
  have hof := fun w => maskOf_any s w hs
  have hb0 : IntKind.i64.wrap (b : Int) = (b : Int) := IntWalk.i64_in _ (by omega)
  have hsz : (Try.prog.info? 36).map (·.size) = some C.size := by rw [hC.1]; exact sizeMask
  have Hsz := Lib.hid hsz
  have Hone := Lib.hid (words_one hC)
  have HC := Lib.hid hC
  clear hsz hC hs
  go_enter Try.func5, Try.ntmps5
  go_wp2_with fail
  refine (hof _).mono ?_
  rintro e w1 ⟨C1, rfl, hC1, hb1⟩
  have hsz1 : (Try.prog.info? 36).map (·.size) = some C1.size := by rw [hC1.1]; exact sizeMask
  have Hsz1 := Lib.hid hsz1
  have Hone1 := Lib.hid (words_one hC1)
  have Hfour := Lib.hid hC1.1
  have HC1 := Lib.hid hC1
  clear hsz1 hC1
  go_wp2_with ((with_reducible refine fw_store_new rfl 36 _ _ rfl _ w1.heap.size _ C1 rfl ?_ ?_ ?_ Hsz1.out ?_ Hone1.out ?_); (focus rfl); (focus rfl); (focus rfl); (focus (rw [Hfour.out]; rfl)))
  obtain ⟨w2, hw2⟩ : ∃ w2, w2 = w1.alloc (.cells C1 36) := ⟨_, rfl⟩
  have hB2 : Below w.heap.size w w2 := by
    rw [hw2]
    exact (((Below.refl _ _).alloc (Nat.le_refl _) _).trans (hb1.mono (by simp))).alloc (Nat.le_of_lt (Nat.lt_of_lt_of_le (by simp) hb1.size)) _
  have hrowC : w2.heap[w.heap.size]? = some (.cells C 36 (0, 0)) := by
    rw [hw2]
    exact ((Below.refl w1.heap.size w1).alloc (Nat.le_refl _) _).row (Nat.lt_of_lt_of_le (by simp) hb1.size) (hb1.row (by simp) (heap_alloc_new _ _))
  have hrow1 : w2.heap[w1.heap.size]? = some (.cells C1 36 (0, 0)) := by
    rw [hw2]
    exact heap_alloc_new _ _
  rw [← hw2]
  clear hw2 hb1
  obtain ⟨g, hg⟩ : ∃ g, g = w.heap.size := ⟨_, rfl⟩
  obtain ⟨g1, hg1⟩ : ∃ g1, g1 = w1.heap.size := ⟨_, rfl⟩
  rw [← hg] at hrowC
  rw [← hg, ← hg1]
  rw [← hg1] at hrow1
  have Hg := Lib.hid hg
  clear hg hg1
  go_loopw [11] (fun i wr => ∃ k : Nat, k ≤ 256 ∧ i = .int .i64 k ∧ Below w2.heap.size w2 wr) (fun i _ => 256 - (intOf i).toNat)
  case atStart => exact ⟨0, Nat.zero_le _, rfl, Below.refl _ _⟩
  case round =>
    obtain ⟨k, hk, rfl, hbl⟩ := hrel
    have hr1 : wr.heap[g1]? = some (.cells C1 36 (0, 0)) := hbl.row (row_lt hrow1) hrow1
    by_cases hlt : k < 256
    · have hin := fun w => inMask_any C1 _ k w HC1.out hlt
      have hix := fun w => indexByte_any s k w
      have hbit := bitOf_ofTo s k hlt
      generalize Lib.indexByte s.data.toList (k : Int).toNat.toUInt8 = m at *
      rw [hbit] at hin
      have hw : IntKind.u8.wrap (k : Int) = (k : Int) := IntWalk.u8_in _ (by omega)
      clear hbit
      by_cases hm : 0 ≤ m
      · rw [decide_eq_true hm] at hin
        go_wp2_with ((with_reducible refine fw_load_var rfl 36 _ rfl g1 C1 ?_ _ _ hr1 Try.underlying36 rfl Hsz1.out ?_); (focus rfl))
        refine (hin _).mono ?_
        rintro e w3 ⟨rfl, hb3⟩
        have hb3 := hbl.trans (hb3.mono hbl.size)
        clear hbl
        go_wp2_with fail
        refine (hix _).mono ?_
        rintro e w4 ⟨rfl, rfl⟩
        go_wp2_with fail
        go_roundw
        case rel => exact ⟨k + 1, by omega, by go_num, hb3⟩
        case measure => simp [intOf]; omega
      · rw [decide_eq_false hm] at hin
        go_wp2_with ((with_reducible refine fw_load_var rfl 36 _ rfl g1 C1 ?_ _ _ hr1 Try.underlying36 rfl Hsz1.out ?_); (focus rfl))
        refine (hin _).mono ?_
        rintro e w3 ⟨rfl, hb3⟩
        have hb3 := hbl.trans (hb3.mono hbl.size)
        clear hbl
        go_wp2_with fail
        refine (hix _).mono ?_
        rintro e w4 ⟨rfl, rfl⟩
        go_wp2_with fail
        go_roundw
        case rel => exact ⟨k + 1, by omega, by go_num, hb3⟩
        case measure => simp [intOf]; omega
    · obtain rfl : k = 256 := by omega
      have hr0 : wr.heap[g]? = some (.cells C 36 (0, 0)) := hbl.row (row_lt hrowC) hrowC
      have hhas := fun w => has_any C f b w HC.out hb
      have hinm := fun w => inMask_any C f b w HC.out hb
      have hby := fun w => maskBytes_any C f w HC.out
      have hrby := fun w => refMaskBytes_any C f w HC.out
      have hl := Lib.hid (Grow.loads (row_lt hr0) hr0 Try.underlying36 rfl Hsz.out)
      have Hr := Lib.hid hbl
      clear hr0 hbl
      go_wp2_with fail
      refine fw_region_grow (wr.heap.size) (by kernel_rfl) (by kernel_rfl) ?_
      repeat (first | (go_big_quiet_want; (with_reducible refine fw_quiet_load 36 _ rfl _ _ rfl hl.out ?_); go_simp; go_big_quiet_on) | (go_big_quiet_step (first | (go_at_call 22; exact Grow.call (Nat.le_refl _) _ (hhas _)) | (go_at_call 20; exact Grow.call (Nat.le_refl _) _ (hinm _)) | (go_at_call 23; exact Grow.call (Nat.le_refl _) _ (hby _)) | (go_at_call 24; exact Grow.call (Nat.le_refl _) _ (hrby _)))))
      refine wpQuiet_nil ?_
      rintro _ ⟨⟨w5, hb5⟩, rfl⟩
      go_wp2_with fail
      go_ret
      have hB3 := hB2.trans (Hr.out.mono hB2.size)
      exact ⟨rfl, hB3.trans (hb5.mono hB3.size)⟩

set_option maxRecDepth 100000 in
theorem maskSays_law {H : Type} (enc : TypeId × Value → H) (W : World) {base : Nat} {v0 v1 v2 : Value} {d0 d1 d2 : DataW H} {p0 p1 p2 : List MemPlace}
    (k0 : Value.okWide Try.prog W .any base 36 v0) (h0 : DataW.Trod enc Try.prog W 0 (fun _ => true) true 36 v0 d0 p0)
    (k1 : Value.okWide Try.prog W .any base 5 v1) (h1 : DataW.Trod enc Try.prog W 0 (fun _ => true) true 5 v1 d1 p1)
    (k2 : Value.okWide Try.prog W .any base 9 v2) (h2 : DataW.Trod enc Try.prog W 0 (fun _ => true) true 9 v2 d2 p2)
    : Calls Try.prog 5 #[v0, v1, v2] W fun e w' => e = .returned (.bool true) ∧ Below W.heap.size W w' := by
  obtain ⟨zs, hz, rfl, hw⟩ := open_struct_ints Try.underlying36 rfl rfl Try.underlying34 Try.underlying33 (by kernel_rfl) (by kernel_rfl) (by kernel_rfl) k0 h0
  obtain ⟨x1, rfl, rfl, rfl, w1⟩ := open_int Try.underlying5 k1 h1
  obtain ⟨x2, rfl, rfl, rfl, w2⟩ := open_string Try.underlying9 k2 h2
  have hb := u8_bounds w1
  obtain ⟨b, rfl⟩ : ∃ m : Nat, x1 = m := ⟨x1.toNat, by omega⟩
  refine maskSays_at _ (fun j => (zs.getD j 0).toNat) b x2 W ⟨by simpa using hz, fun j hj => ?_⟩ (by omega) w2
  have hl : j < zs.length := by omega
  have hg : zs.getD j 0 = zs[j] := by rw [List.getD_eq_getElem?_getD, List.getElem?_eq_getElem hl]; rfl
  have hb := u64_bounds (hw zs[j] (List.getElem_mem hl))
  dsimp only
  refine ⟨?_, by rw [hg]; omega⟩
  rw [List.getElem?_toArray, List.getElem?_map, List.getElem?_eq_getElem hl, hg]
  simp [Int.toNat_of_nonneg hb.1]

set_option maxRecDepth 100000 in
theorem maskSays_contract (H : Type) (enc : TypeId × Value → H) (W : World) (base : Nat) (args : Array Value) (ds gs : List (DataW H)) (before : List MemPlace)
    (hval : ∀ (j : Nat) t v, Try.f5.params[j]? = some t → args[j]? = some v → Value.okWide Try.prog W .any base t v)
    (hW : DataW.Whole enc Try.prog Try.f5.params.toList Rows.maskSaysSpec.vars false W args.toList ds gs before) :
    Calls Try.prog 5 args W fun e W' => ∃ v, e = .returned v ∧ Rows.maskSaysSpec.post enc Try.prog Try.f5 false true false false W args v W' := by
  have hW' := hW
  obtain ⟨p, q, hA0, hV, rfl, hfz, hnd⟩ := hW
  have hA : DataW.TrodAll enc Try.prog W 0 (fun _ => true) true Try.f5.params.toList args.toList ds p := hA0
  rw [Try.params5] at hA hval
  obtain ⟨v0, vs0, d0, ds0, p0, q0, hargs, rfl, rfl, h0, r0⟩ := trodAll_cons hA
  obtain ⟨v1, vs1, d1, ds1, p1, q1, rfl, rfl, rfl, h1, r1⟩ := trodAll_cons r0
  obtain ⟨v2, vs2, d2, ds2, p2, q2, rfl, rfl, rfl, h2, r2⟩ := trodAll_cons r1
  obtain ⟨rfl, rfl, rfl⟩ := trodAll_nil r2
  obtain rfl : args = #[v0, v1, v2] := by cases args; simp_all
  obtain ⟨rfl, rfl⟩ := trodVars_none hV
  clear hA0
  have k0 := hval 0 36 v0 rfl rfl
  have k1 := hval 1 5 v1 rfl rfl
  have k2 := hval 2 9 v2 rfl rfl
  refine (maskSays_law enc W k0 h0 k1 h1 k2 h2).mono fun e W' ⟨he, hg⟩ => ?_
  subst he
  exact ⟨_, rfl, law_post (s := Rows.maskSaysSpec) laidOut (by kernel_rfl) rfl Try.underlying4 rfl hW' rfl hg⟩

set_option maxRecDepth 100000 in
theorem maskSays_lifted (os : Os) (started : os.Started) (H : Type) (enc : TypeId × Value → H) :
    ReturnsInHanded {} Try.checked os 5 .any (Rows.maskSaysSpec.pre6 enc Try.prog Try.f5 Rows.maskSaysRow.domain false) (Rows.maskSaysSpec.post enc Try.prog Try.f5 false true false false) := by
  refine returnsInHanded_of_change (C := Try.checked) own started (by kernel_rfl) Try.func5
    (ChangeSpec.witness6 (enc := enc) (C := Try.checked) false ⟨#[], #[.agg #[.int .u64 0, .int .u64 0, .int .u64 0, .int .u64 0], .int .u8 0, .string .empty], []⟩ 12 (by kernel_rfl) (by kernel_rfl) (by kernel_rfl) (by kernel_rfl)) ?_
  intro W base args ds gs before hval hW _ _
  exact maskSays_contract H enc W base args ds gs before hval hW

theorem maskSays_holds : Rows.MaskSaysSaid :=
  OpenClaim.holds_of_wide 5 Try.f5 rfl rfl rfl rfl rfl rfl rfl ⟨rfl, rfl, rfl, rfl, rfl⟩ rfl rfl rfl rfl rfl (by kernel_rfl) Try.func5 (by kernel_rfl)
    (of_decide_eq_true (by kernel_rfl)) (by unfold Func.isWrapper; first | (rw [if_pos (by decide +kernel)]; kernel_rfl) | (rw [if_neg (by decide +kernel)]; exact ⟨rfl, rfl⟩))
    (fun os started H enc _ => maskSays_lifted os started H enc)

end Go.Proofs.Ytkbkppoefgojaaa
