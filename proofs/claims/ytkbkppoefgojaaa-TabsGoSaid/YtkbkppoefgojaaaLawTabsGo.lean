/- farlaw.TabsGo returns true for every input, and each argument reads as it read. -/
import Derived.Test.YtkbkppoefgojaaaLawAgg
import Derived.Test.YtkbkppoefgojaaaTabs4
namespace Go.Proofs.Ytkbkppoefgojaaa
open Go.RowKit Go.Fw Go.ChangeShapes Go.WideShapes Go.ChangeAt
open Go.ChangeMaps (open_string)

theorem own : ownKnob Try.prog.godebug = none := by kernel_rfl
theorem laidOut : laidOutB Try.prog = true := by kernel_rfl

def goNext (f : Nat → Nat) (col n wide : Int) : Int × Int :=
  if 1 ≤ wide ∧ wide ≤ 160 ∧ 0 ≤ col ∧ col < wide ∧ 0 ≤ n ∧ n ≤ 16383 then (if n = 0 then col else nextV f col.toNat n.toNat wide.toNat, 0) else (0, 1)
def goBack (f : Nat → Nat) (col n : Int) : Int × Int :=
  if 0 ≤ col ∧ col ≤ 255 ∧ 0 ≤ n ∧ n ≤ 16383 then (if n = 0 then col else backV f col.toNat n.toNat, 0) else (0, 1)

theorem tabsNext_any (C : Array Value) (f : Nat → Nat) (col n wide : Int) (w : World) (hC : Words C f) :
    Calls Try.prog 29 #[.agg C, .int .i64 col, .int .i64 n, .int .i64 wide] w fun e w' => e = .returned (.tuple #[.int .i64 (goNext f col n wide).1, .int .i64 (goNext f col n wide).2]) ∧ Below w.heap.size w w' := by
  by_cases h : 1 ≤ wide ∧ wide ≤ 160 ∧ 0 ≤ col ∧ col < wide ∧ 0 ≤ n ∧ n ≤ 16383
  · unfold goNext
    rw [if_pos h]
    obtain ⟨h1, h2, h3, h4, h5, h6⟩ := h
    by_cases h0 : n = 0
    · subst h0
      exact tabsNext_zero C col wide w h1 h2 h3 h4
    · obtain ⟨wide, rfl⟩ : ∃ m : Nat, wide = m := ⟨wide.toNat, by omega⟩
      obtain ⟨col, rfl⟩ : ∃ m : Nat, col = m := ⟨col.toNat, by omega⟩
      obtain ⟨n, rfl⟩ : ∃ m : Nat, n = m := ⟨n.toNat, by omega⟩
      have := tabsNext_yes C f col n wide w hC (by omega) (by omega) (by omega) (by omega) (by omega)
      dsimp only
      rw [if_neg h0]
      exact this
  · unfold goNext
    rw [if_neg h]
    exact tabsNext_no C col n wide w (by omega)
theorem stopNext_any (C : Array Value) (f : Nat → Nat) (col n wide : Int) (w : World) (hC : Words C f) :
    Calls Try.prog 30 #[.agg C, .int .i64 col, .int .i64 n, .int .i64 wide] w fun e w' => e = .returned (.tuple #[.int .i64 (goNext f col n wide).1, .int .i64 (goNext f col n wide).2]) ∧ Below w.heap.size w w' := by
  by_cases h : 1 ≤ wide ∧ wide ≤ 160 ∧ 0 ≤ col ∧ col < wide ∧ 0 ≤ n ∧ n ≤ 16383
  · unfold goNext
    rw [if_pos h]
    obtain ⟨h1, h2, h3, h4, h5, h6⟩ := h
    by_cases h0 : n = 0
    · subst h0
      exact stopNext_zero C col wide w h1 h2 h3 h4
    · obtain ⟨wide, rfl⟩ : ∃ m : Nat, wide = m := ⟨wide.toNat, by omega⟩
      obtain ⟨col, rfl⟩ : ∃ m : Nat, col = m := ⟨col.toNat, by omega⟩
      obtain ⟨n, rfl⟩ : ∃ m : Nat, n = m := ⟨n.toNat, by omega⟩
      have := stopNext_yes C f col n wide w hC (by omega) (by omega) (by omega) (by omega) (by omega)
      dsimp only
      rw [if_neg h0]
      exact this
  · unfold goNext
    rw [if_neg h]
    exact stopNext_no C col n wide w (by omega)
theorem tabsBack_any (C : Array Value) (f : Nat → Nat) (col n : Int) (w : World) (hC : Words C f) :
    Calls Try.prog 31 #[.agg C, .int .i64 col, .int .i64 n] w fun e w' => e = .returned (.tuple #[.int .i64 (goBack f col n).1, .int .i64 (goBack f col n).2]) ∧ Below w.heap.size w w' := by
  by_cases h : 0 ≤ col ∧ col ≤ 255 ∧ 0 ≤ n ∧ n ≤ 16383
  · unfold goBack
    rw [if_pos h]
    obtain ⟨h3, h4, h5, h6⟩ := h
    by_cases h0 : n = 0
    · subst h0
      exact tabsBack_zero C col w h3 h4
    · obtain ⟨col, rfl⟩ : ∃ m : Nat, col = m := ⟨col.toNat, by omega⟩
      obtain ⟨n, rfl⟩ : ∃ m : Nat, n = m := ⟨n.toNat, by omega⟩
      have := tabsBack_yes C f col n w hC (by omega) (by omega) (by omega)
      dsimp only
      rw [if_neg h0]
      exact this
  · unfold goBack
    rw [if_neg h]
    exact tabsBack_no C col n w (by omega)
theorem stopBack_any (C : Array Value) (f : Nat → Nat) (col n : Int) (w : World) (hC : Words C f) :
    Calls Try.prog 32 #[.agg C, .int .i64 col, .int .i64 n] w fun e w' => e = .returned (.tuple #[.int .i64 (goBack f col n).1, .int .i64 (goBack f col n).2]) ∧ Below w.heap.size w w' := by
  by_cases h : 0 ≤ col ∧ col ≤ 255 ∧ 0 ≤ n ∧ n ≤ 16383
  · unfold goBack
    rw [if_pos h]
    obtain ⟨h3, h4, h5, h6⟩ := h
    by_cases h0 : n = 0
    · subst h0
      exact stopBack_zero C col w h3 h4
    · obtain ⟨col, rfl⟩ : ∃ m : Nat, col = m := ⟨col.toNat, by omega⟩
      obtain ⟨n, rfl⟩ : ∃ m : Nat, n = m := ⟨n.toNat, by omega⟩
      have := stopBack_yes C f col n w hC (by omega) (by omega) (by omega)
      dsimp only
      rw [if_neg h0]
      exact this
  · unfold goBack
    rw [if_neg h]
    exact stopBack_no C col n w (by omega)

set_option maxRecDepth 100000 in
set_option maxHeartbeats 1000000 in
theorem tabsGo_at (C : Array Value) (f : Nat → Nat) (col n wide : Int) (w : World) (hC : Words C f) :
    Calls Try.prog 7 #[.agg C, .int .i64 col, .int .i64 n, .int .i64 wide] w fun e w' => e = .returned (.bool true) ∧ Below w.heap.size w w' := by
  have hs : (Try.prog.info? 46).map (·.size) = some C.size := by rw [hC.1]; exact sizeStops
  have Hs := Lib.hid hs
  have c1 := fun w => tabsNext_any C f col n wide w hC
  have c2 := fun w => stopNext_any C f col n wide w hC
  have c3 := fun w => tabsBack_any C f col n w hC
  have c4 := fun w => stopBack_any C f col n w hC
  generalize (goNext f col n wide).1 = x1 at *
  generalize (goNext f col n wide).2 = x2 at *
  generalize (goBack f col n).1 = x3 at *
  generalize (goBack f col n).2 = x4 at *
  clear hs hC
  go_enter Try.func7, Try.ntmps7
  have hr0 := heap_alloc_new w (.cells C 46)
  have hB0 : Below w.heap.size w (w.alloc (.cells C 46)) := (Below.refl _ _).alloc (Nat.le_refl _) _
  have hlt0 : w.heap.size < (w.alloc (.cells C 46)).heap.size := by simp
  have Hr0 := Lib.hid hr0
  have HB0 := Lib.hid hB0
  have Hlt0 := Lib.hid hlt0
  clear hr0 hB0 hlt0
  go_wp2_with ((with_reducible refine fw_load_var rfl 46 _ rfl w.heap.size C ?_ _ _ Hr0.out Try.underlying46 rfl Hs.out ?_); (focus rfl))
  refine (c1 _).mono ?_
  rintro e w1 ⟨rfl, hb1⟩
  have Hr1 := Lib.hid (hb1.row Hlt0.out Hr0.out)
  go_wp2_with ((with_reducible refine fw_load_var rfl 46 _ rfl w.heap.size C ?_ _ _ Hr1.out Try.underlying46 rfl Hs.out ?_); (focus rfl))
  refine (c2 _).mono ?_
  rintro e w2 ⟨rfl, hb2⟩
  have hb2 := ext_trans hb1 hb2
  have Hr2 := Lib.hid (hb2.row Hlt0.out Hr0.out)
  clear hb1
  go_wp2_with ((with_reducible refine fw_load_var rfl 46 _ rfl w.heap.size C ?_ _ _ Hr2.out Try.underlying46 rfl Hs.out ?_); (focus rfl))
  refine (c3 _).mono ?_
  rintro e w3 ⟨rfl, hb3⟩
  have hb3 := ext_trans hb2 hb3
  have Hr3 := Lib.hid (hb3.row Hlt0.out Hr0.out)
  clear hb2
  go_wp2_with ((with_reducible refine fw_load_var rfl 46 _ rfl w.heap.size C ?_ _ _ Hr3.out Try.underlying46 rfl Hs.out ?_); (focus rfl))
  refine (c4 _).mono ?_
  rintro e w4 ⟨rfl, hb4⟩
  have hb4 := ext_trans hb3 hb4
  clear hb3
  go_wp2_with fail
  go_ret
  exact ⟨rfl, ext_trans HB0.out hb4⟩

set_option maxRecDepth 100000 in
theorem tabsGo_law {H : Type} (enc : TypeId × Value → H) (W : World) {base : Nat} {v0 v1 v2 v3 : Value} {d0 d1 d2 d3 : DataW H} {p0 p1 p2 p3 : List MemPlace}
    (k0 : Value.okWide Try.prog W .any base 46 v0) (h0 : DataW.Trod enc Try.prog W 0 (fun _ => true) true 46 v0 d0 p0)
    (k1 : Value.okWide Try.prog W .any base 3 v1) (h1 : DataW.Trod enc Try.prog W 0 (fun _ => true) true 3 v1 d1 p1)
    (k2 : Value.okWide Try.prog W .any base 3 v2) (h2 : DataW.Trod enc Try.prog W 0 (fun _ => true) true 3 v2 d2 p2)
    (k3 : Value.okWide Try.prog W .any base 3 v3) (h3 : DataW.Trod enc Try.prog W 0 (fun _ => true) true 3 v3 d3 p3)
    : Calls Try.prog 7 #[v0, v1, v2, v3] W fun e w' => e = .returned (.bool true) ∧ Below W.heap.size W w' := by
  obtain ⟨zs, hz, rfl, hw⟩ := open_struct_ints Try.underlying46 rfl rfl Try.underlying34 Try.underlying33 (by kernel_rfl) (by kernel_rfl) (by kernel_rfl) k0 h0
  obtain ⟨x1, rfl, rfl, rfl, -⟩ := open_int Try.underlying3 k1 h1
  obtain ⟨x2, rfl, rfl, rfl, -⟩ := open_int Try.underlying3 k2 h2
  obtain ⟨x3, rfl, rfl, rfl, -⟩ := open_int Try.underlying3 k3 h3
  refine tabsGo_at _ (fun j => (zs.getD j 0).toNat) x1 x2 x3 W ⟨by simpa using hz, fun j hj => ?_⟩
  have hl : j < zs.length := by omega
  have hg : zs.getD j 0 = zs[j] := by rw [List.getD_eq_getElem?_getD, List.getElem?_eq_getElem hl]; rfl
  have hb := u64_bounds (hw zs[j] (List.getElem_mem hl))
  dsimp only
  refine ⟨?_, by rw [hg]; omega⟩
  rw [List.getElem?_toArray, List.getElem?_map, List.getElem?_eq_getElem hl, hg]
  simp [Int.toNat_of_nonneg hb.1]

set_option maxRecDepth 100000 in
theorem tabsGo_contract (H : Type) (enc : TypeId × Value → H) (W : World) (base : Nat) (args : Array Value) (ds gs : List (DataW H)) (before : List MemPlace)
    (hval : ∀ (j : Nat) t v, Try.f7.params[j]? = some t → args[j]? = some v → Value.okWide Try.prog W .any base t v)
    (hW : DataW.Whole enc Try.prog Try.f7.params.toList Rows.tabsGoSpec.vars false W args.toList ds gs before) :
    Calls Try.prog 7 args W fun e W' => ∃ v, e = .returned v ∧ Rows.tabsGoSpec.post enc Try.prog Try.f7 false true false false W args v W' := by
  have hW' := hW
  obtain ⟨p, q, hA0, hV, rfl, hfz, hnd⟩ := hW
  have hA : DataW.TrodAll enc Try.prog W 0 (fun _ => true) true Try.f7.params.toList args.toList ds p := hA0
  rw [Try.params7] at hA hval
  obtain ⟨v0, vs0, d0, ds0, p0, q0, hargs, rfl, rfl, h0, r0⟩ := trodAll_cons hA
  obtain ⟨v1, vs1, d1, ds1, p1, q1, rfl, rfl, rfl, h1, r1⟩ := trodAll_cons r0
  obtain ⟨v2, vs2, d2, ds2, p2, q2, rfl, rfl, rfl, h2, r2⟩ := trodAll_cons r1
  obtain ⟨v3, vs3, d3, ds3, p3, q3, rfl, rfl, rfl, h3, r3⟩ := trodAll_cons r2
  obtain ⟨rfl, rfl, rfl⟩ := trodAll_nil r3
  obtain rfl : args = #[v0, v1, v2, v3] := by cases args; simp_all
  obtain ⟨rfl, rfl⟩ := trodVars_none hV
  clear hA0
  have k0 := hval 0 46 v0 rfl rfl
  have k1 := hval 1 3 v1 rfl rfl
  have k2 := hval 2 3 v2 rfl rfl
  have k3 := hval 3 3 v3 rfl rfl
  refine (tabsGo_law enc W k0 h0 k1 h1 k2 h2 k3 h3).mono fun e W' ⟨he, hg⟩ => ?_
  subst he
  exact ⟨_, rfl, law_post (s := Rows.tabsGoSpec) laidOut (by kernel_rfl) rfl Try.underlying4 rfl hW' rfl hg⟩

set_option maxRecDepth 100000 in
theorem tabsGo_lifted (os : Os) (started : os.Started) (H : Type) (enc : TypeId × Value → H) :
    ReturnsInHanded {} Try.checked os 7 .any (Rows.tabsGoSpec.pre6 enc Try.prog Try.f7 Rows.tabsGoRow.domain false) (Rows.tabsGoSpec.post enc Try.prog Try.f7 false true false false) := by
  refine returnsInHanded_of_change (C := Try.checked) own started (by kernel_rfl) Try.func7
    (ChangeSpec.witness6 (enc := enc) (C := Try.checked) false ⟨#[], #[.agg #[.int .u64 0, .int .u64 0, .int .u64 0, .int .u64 0], .int .i64 0, .int .i64 0, .int .i64 0], []⟩ 12 (by kernel_rfl) (by kernel_rfl) (by kernel_rfl) (by kernel_rfl)) ?_
  intro W base args ds gs before hval hW _ _
  exact tabsGo_contract H enc W base args ds gs before hval hW

theorem tabsGo_holds : Rows.TabsGoSaid :=
  OpenClaim.holds_of_wide 7 Try.f7 rfl rfl rfl rfl rfl rfl rfl ⟨rfl, rfl, rfl, rfl, rfl⟩ rfl rfl rfl rfl rfl (by kernel_rfl) Try.func7 (by kernel_rfl)
    (of_decide_eq_true (by kernel_rfl)) (by unfold Func.isWrapper; first | (rw [if_pos (by decide +kernel)]; kernel_rfl) | (rw [if_neg (by decide +kernel)]; exact ⟨rfl, rfl⟩))
    (fun os started H enc _ => tabsGo_lifted os started H enc)

end Go.Proofs.Ytkbkppoefgojaaa
