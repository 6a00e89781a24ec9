/- farlaw.PageSays returns true for every input, and each argument reads as it read. -/
import Derived.Test.YtkbkppoefgojaaaLawBase
import Derived.Test.YtkbkppoefgojaaaPageRef
namespace Go.Proofs.Ytkbkppoefgojaaa
open Go.RowKit Go.Fw Go.ChangeShapes Go.WideShapes Go.ChangeAt
open Go.ChangeMaps (open_string)

theorem own : ownKnob Try.prog.godebug = none := by kernel_rfl
theorem laidOut : laidOutB Try.prog = true := by kernel_rfl

set_option maxRecDepth 100000 in
theorem pageSays_no (p : Int) (b : Nat) (r : Int) (w : World) (hp : ¬ (1 ≤ p ∧ p ≤ 4)) :
    Calls Try.prog 8 #[.int .i64 p, .int .u8 b, .int .i64 r] w fun e w' => e = .returned (.bool true) ∧ Below w.heap.size w w' := by
  have hr := pageRune_no p b w hp
  have hy := fun w => pageByte_no p r w hp
  have hl := fun w => pageRunes_no p w hp
  clear hp
  go_enter Try.func8, Try.ntmps8
  go_wp2_with fail
  refine hr.mono ?_
  rintro e w1 ⟨rfl, hb1⟩
  go_wp2_with fail
  refine (hy _).mono ?_
  rintro e w2 ⟨rfl, hb2⟩
  have hb2 := ext_trans hb1 hb2
  clear hb1
  go_wp2_with fail
  refine (hl _).mono ?_
  rintro e w3 ⟨rfl, rfl⟩
  go_wp2_with fail
  go_ret
  exact ⟨rfl, hb2⟩

set_option maxRecDepth 100000 in
theorem pageSays_at (p : Int) (b : Nat) (r i k x e : Int) (w : World) (hb : b < 256) (hi : -1 ≤ i ∧ i < 256)
    (hr : ∀ w, Calls Try.prog 33 #[.int .i64 p, .int .u8 b] w fun e w' => e = .returned (.tuple #[.int .i64 x, .int .i64 0]) ∧ Below w.heap.size w w')
    (hy : ∀ w, Calls Try.prog 34 #[.int .i64 p, .int .i64 r] w fun e' w' => e' = .returned (.tuple #[.int .u8 k, .int .i64 e]) ∧ Below w.heap.size w w')
    (hl : ∀ w, Calls Try.prog 35 #[.int .i64 p] w fun e w' => ∃ g, e = .returned (.slice (some ⟨g, 0, none⟩) 256 256) ∧ w'.cell? ⟨g, b, none⟩ = some (.int .i64 x) ∧ g < w'.heap.size ∧ Below w.heap.size w w')
    (hx : ∀ w, Calls Try.prog 36 #[.int .i64 p, .int .i64 r] w fun e w' => e = .returned (.int .i64 i) ∧ Below w.heap.size w w')
    (hk : (0 ≤ i ∧ k = i ∧ e = 0) ∨ (i < 0 ∧ k = 0 ∧ e = 6)) :
    Calls Try.prog 8 #[.int .i64 p, .int .u8 b, .int .i64 r] w fun e w' => e = .returned (.bool true) ∧ Below w.heap.size w w' := by
  have hk0 : IntKind.i64.wrap k = k := IntWalk.i64_in _ (by omega)
  rcases hk with ⟨h, rfl, rfl⟩ | ⟨h, rfl, rfl⟩
  all_goals
    go_enter Try.func8, Try.ntmps8
    go_wp2_with fail
    refine (hr _).mono ?_
    rintro e w1 ⟨rfl, hb1⟩
    go_wp2_with fail
    refine (hy _).mono ?_
    rintro e w2 ⟨rfl, hb2⟩
    have hb2 := ext_trans hb1 hb2
    clear hb1
    go_wp2_with fail
    refine (hl _).mono ?_
    rintro e w3 ⟨g, rfl, hc, hg, hb3⟩
    have hb3 := ext_trans hb2 hb3
    clear hb2
    go_wp2_with fail
    refine (hx _).mono ?_
    rintro e w4 ⟨rfl, hb4⟩
    have hc := (hb4.cell (p := ⟨g, b, none⟩) hg).trans hc
    have hb4 := ext_trans hb3 hb4
    clear hb3
    go_wp2_with fail
    go_ret
    exact ⟨rfl, hb4⟩

theorem pageSays_walk (p n r : Int) (w : World) (_ : -9223372036854775808 ≤ p ∧ p ≤ 9223372036854775807) (hn : 0 ≤ n ∧ n ≤ 255) (_ : -9223372036854775808 ≤ r ∧ r ≤ 9223372036854775807) :
    Calls Try.prog 8 #[.int .i64 p, .int .u8 n, .int .i64 r] w fun e w' => e = .returned (.bool true) ∧ Below w.heap.size w w' := by
  obtain ⟨n, rfl⟩ : ∃ m : Nat, n = m := ⟨n.toNat, by omega⟩
  have hn : n < 256 := by omega
  by_cases hp : 1 ≤ p ∧ p ≤ 4
  · have hi := idxIntsAt_ge (pageM p) r
    have hi2 : idxIntsAt (pageM p) r < 256 := by
      have := mostOf_le p
      have hl := pageM_len p
      unfold idxIntsAt
      split
      · next h =>
        obtain ⟨y, hy, e⟩ := List.any_eq_true.1 h
        have := List.findIdx_lt_length_of_exists (p := fun x => decide (x = r)) ⟨y, hy, e⟩
        omega
      · omega
    refine pageSays_at p n r (idxIntsAt (pageM p) r) (byteOf p r) (pageOf p n) (byteErr p r) w hn ⟨hi, hi2⟩ (fun w => pageRune_yes p n w hn hp) (fun w => pageByte_yes p r w hp) (fun w => ?_) (fun w => refByte_yes p r w hp) ?_
    · refine (pageRunes_yes p w hp).mono ?_
      rintro e w' ⟨g, rfl, hA, hB⟩
      obtain ⟨b, o, ha, hb, hc⟩ := hA.int (i := n) (by rw [pageL_len]; exact hn)
      cases ha
      refine ⟨_, rfl, ?_, hb, hB⟩
      have h := hc n (by rw [pageL_len]; exact hn)
      rw [Nat.zero_add, pageL_get p n hn] at h
      exact h
    · unfold byteOf byteErr
      by_cases h : 0 ≤ idxIntsAt (pageM p) r
      · left; rw [if_pos ⟨hp, h⟩, if_pos ⟨hp, h⟩]; exact ⟨h, rfl, rfl⟩
      · right; rw [if_neg (fun h' => h h'.2), if_neg (fun h' => h h'.2)]; exact ⟨by omega, rfl, rfl⟩
  · exact pageSays_no p n r w hp

set_option maxRecDepth 100000 in
theorem pageSays_law {H : Type} (enc : TypeId × Value → H) (W : World) {base : Nat} {v0 v1 v2 : Value} {d0 d1 d2 : DataW H} {p0 p1 p2 : List MemPlace}
    (k0 : Value.okWide Try.prog W .any base 3 v0) (h0 : DataW.Trod enc Try.prog W 0 (fun _ => true) true 3 v0 d0 p0)
    (k1 : Value.okWide Try.prog W .any base 5 v1) (h1 : DataW.Trod enc Try.prog W 0 (fun _ => true) true 5 v1 d1 p1)
    (k2 : Value.okWide Try.prog W .any base 3 v2) (h2 : DataW.Trod enc Try.prog W 0 (fun _ => true) true 3 v2 d2 p2)
    : Calls Try.prog 8 #[v0, v1, v2] W fun e w' => e = .returned (.bool true) ∧ Below W.heap.size W w' := by
  obtain ⟨x0, rfl, rfl, rfl, w0⟩ := open_int Try.underlying3 k0 h0
  obtain ⟨x1, rfl, rfl, rfl, w1⟩ := open_int Try.underlying5 k1 h1
  obtain ⟨x2, rfl, rfl, rfl, w2⟩ := open_int Try.underlying3 k2 h2
  exact pageSays_walk x0 x1 x2 W (int_bounds w0) (u8_bounds w1) (int_bounds w2)

set_option maxRecDepth 100000 in
theorem pageSays_contract (H : Type) (enc : TypeId × Value → H) (W : World) (base : Nat) (args : Array Value) (ds gs : List (DataW H)) (before : List MemPlace)
    (hval : ∀ (j : Nat) t v, Try.f8.params[j]? = some t → args[j]? = some v → Value.okWide Try.prog W .any base t v)
    (hW : DataW.Whole enc Try.prog Try.f8.params.toList Rows.pageSaysSpec.vars false W args.toList ds gs before) :
    Calls Try.prog 8 args W fun e W' => ∃ v, e = .returned v ∧ Rows.pageSaysSpec.post enc Try.prog Try.f8 false true false false W args v W' := by
  have hW' := hW
  obtain ⟨p, q, hA0, hV, rfl, hfz, hnd⟩ := hW
  have hA : DataW.TrodAll enc Try.prog W 0 (fun _ => true) true Try.f8.params.toList args.toList ds p := hA0
  rw [Try.params8] at hA hval
  obtain ⟨v0, vs0, d0, ds0, p0, q0, hargs, rfl, rfl, h0, r0⟩ := trodAll_cons hA
  obtain ⟨v1, vs1, d1, ds1, p1, q1, rfl, rfl, rfl, h1, r1⟩ := trodAll_cons r0
  obtain ⟨v2, vs2, d2, ds2, p2, q2, rfl, rfl, rfl, h2, r2⟩ := trodAll_cons r1
  obtain ⟨rfl, rfl, rfl⟩ := trodAll_nil r2
  obtain rfl : args = #[v0, v1, v2] := by cases args; simp_all
  obtain ⟨rfl, rfl⟩ := trodVars_none hV
  clear hA0
  have k0 := hval 0 3 v0 rfl rfl
  have k1 := hval 1 5 v1 rfl rfl
  have k2 := hval 2 3 v2 rfl rfl
  refine (pageSays_law enc W k0 h0 k1 h1 k2 h2).mono fun e W' ⟨he, hg⟩ => ?_
  subst he
  exact ⟨_, rfl, law_post (s := Rows.pageSaysSpec) laidOut (by kernel_rfl) rfl Try.underlying4 rfl hW' rfl hg⟩

set_option maxRecDepth 100000 in
theorem pageSays_lifted (os : Os) (started : os.Started) (H : Type) (enc : TypeId × Value → H) :
    ReturnsInHanded {} Try.checked os 8 .any (Rows.pageSaysSpec.pre6 enc Try.prog Try.f8 Rows.pageSaysRow.domain false) (Rows.pageSaysSpec.post enc Try.prog Try.f8 false true false false) := by
  refine returnsInHanded_of_change (C := Try.checked) own started (by kernel_rfl) Try.func8
    (ChangeSpec.witness6 (enc := enc) (C := Try.checked) false ⟨#[], #[.int .i64 0, .int .u8 0, .int .i64 0], []⟩ 12 (by kernel_rfl) (by kernel_rfl) (by kernel_rfl) (by kernel_rfl)) ?_
  intro W base args ds gs before hval hW _ _
  exact pageSays_contract H enc W base args ds gs before hval hW

theorem pageSays_holds : Rows.PageSaysSaid :=
  OpenClaim.holds_of_wide 8 Try.f8 rfl rfl rfl rfl rfl rfl rfl ⟨rfl, rfl, rfl, rfl, rfl⟩ rfl rfl rfl rfl rfl (by kernel_rfl) Try.func8 (by kernel_rfl)
    (of_decide_eq_true (by kernel_rfl)) (by unfold Func.isWrapper; first | (rw [if_pos (by decide +kernel)]; kernel_rfl) | (rw [if_neg (by decide +kernel)]; exact ⟨rfl, rfl⟩))
    (fun os started H enc _ => pageSays_lifted os started H enc)

end Go.Proofs.Ytkbkppoefgojaaa
