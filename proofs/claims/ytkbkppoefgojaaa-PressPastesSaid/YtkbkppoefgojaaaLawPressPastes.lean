/- farlaw.PressPastes returns true for every input, and each argument reads as it read. -/
import Derived.Test.YtkbkppoefgojaaaLawBase
import Derived.Test.YtkbkppoefgojaaaPaste4
namespace Go.Proofs.Ytkbkppoefgojaaa
open Go.RowKit Go.Fw Go.ChangeShapes Go.WideShapes Go.ChangeAt
open Go.ChangeMaps (open_string)

theorem own : ownKnob Try.prog.godebug = none := by kernel_rfl
theorem laidOut : laidOutB Try.prog = true := by kernel_rfl

set_option maxRecDepth 100000 in
theorem paste_big (a : Option Addr) (n c : Nat) (modes : Int) (w : World) (h : 4000 < (n : Int)) :
    Calls Try.prog 41 #[.slice a n c, .int .i64 modes] w fun e w' => e = .returned (.tuple #[.string ⟨#[]⟩, .int .i64 2]) ∧ Below w.heap.size w w' := by
  go_enter Try.func41, Try.ntmps41
  go_wp2_with fail
  go_ret2
  exact ⟨rfl, Below.refl _ _⟩
set_option maxRecDepth 100000 in
theorem pasteText_big (a : Option Addr) (n c : Nat) (modes : Int) (w : World) (h : 4000 < (n : Int)) :
    Calls Try.prog 42 #[.slice a n c, .int .i64 modes] w fun e w' => e = .returned (.tuple #[.string ⟨#[]⟩, .int .i64 2]) ∧ Below w.heap.size w w' := by
  go_enter Try.func42, Try.ntmps42
  go_wp2_with fail
  go_ret2
  exact ⟨rfl, Below.refl _ _⟩

set_option maxRecDepth 100000 in
set_option maxHeartbeats 1000000 in
theorem pressPastes_at (a : Option Addr) (n c : Nat) (modes : Int) (w : World) (s : ByteArray) (e0 : Int)
    (h1 : ∀ w', Below w.heap.size w w' → Calls Try.prog 41 #[.slice a n c, .int .i64 modes] w' fun e w2 => e = .returned (.tuple #[.string s, .int .i64 e0]) ∧ Below w'.heap.size w' w2)
    (h2 : ∀ w', Below w.heap.size w w' → Calls Try.prog 42 #[.slice a n c, .int .i64 modes] w' fun e w2 => e = .returned (.tuple #[.string s, .int .i64 e0]) ∧ Below w'.heap.size w' w2) :
    Calls Try.prog 10 #[.slice a n c, .int .i64 modes] w fun e w' => e = .returned (.bool true) ∧ Below w.heap.size w w' := by
  go_enter Try.func10, Try.ntmps10
  go_wp2_with fail
  refine (h1 _ (Below.refl _ _)).mono ?_
  rintro e w1 ⟨rfl, hb1⟩
  go_wp2_with fail
  refine (h2 _ hb1).mono ?_
  rintro e w2 ⟨rfl, hb2⟩
  go_wp2_with fail
  go_ret
  exact ⟨rfl, ext_trans hb1 hb2⟩

theorem pressPastes_walk (a : Option Addr) (l : List Int) (c : Nat) (modes : Int) (w : World) (h : At w a (ints l)) (_ : ∀ x ∈ l, (Lit.int .i64 x).wf = true) (_ : l.length ≤ maxLen) (_ : -9223372036854775808 ≤ modes ∧ modes ≤ 9223372036854775807) :
    Calls Try.prog 10 #[.slice a l.length c, .int .i64 modes] w fun e w' => e = .returned (.bool true) ∧ Below w.heap.size w w' := by
  by_cases hl : l.length ≤ 4000
  · exact pressPastes_at a _ c modes w _ _ (fun w' hb => paste_yes l modes a _ c w' rfl hl (h.mono hb) _ rfl) (fun w' hb => pasteText_yes l modes a _ c w' rfl hl (h.mono hb) _ rfl)
  · exact pressPastes_at a _ c modes w _ _ (fun w' _ => paste_big a _ c modes w' (by omega)) (fun w' _ => pasteText_big a _ c modes w' (by omega))

set_option maxRecDepth 100000 in
theorem pressPastes_law {H : Type} (enc : TypeId × Value → H) (W : World) {base : Nat} {v0 v1 : Value} {d0 d1 : DataW H} {p0 p1 : List MemPlace}
    (k0 : Value.okWide Try.prog W .any base 24 v0) (h0 : DataW.Trod enc Try.prog W 0 (fun _ => true) true 24 v0 d0 p0)
    (k1 : Value.okWide Try.prog W .any base 3 v1) (h1 : DataW.Trod enc Try.prog W 0 (fun _ => true) true 3 v1 d1 p1)
    : Calls Try.prog 10 #[v0, v1] W fun e w' => e = .returned (.bool true) ∧ Below W.heap.size W w' := by
  obtain ⟨a0, x0, y0, c0, rfl, m0, w0, l0, e0⟩ := open_ints_at Try.underlying24 Try.underlying3 (by kernel_rfl) k0 h0
  obtain ⟨x1, rfl, rfl, rfl, w1⟩ := open_int Try.underlying3 k1 h1
  exact pressPastes_walk a0 x0 c0 x1 W m0 w0 l0 (int_bounds w1)

set_option maxRecDepth 100000 in
theorem pressPastes_contract (H : Type) (enc : TypeId × Value → H) (W : World) (base : Nat) (args : Array Value) (ds gs : List (DataW H)) (before : List MemPlace)
    (hval : ∀ (j : Nat) t v, Try.f10.params[j]? = some t → args[j]? = some v → Value.okWide Try.prog W .any base t v)
    (hW : DataW.Whole enc Try.prog Try.f10.params.toList Rows.pressPastesSpec.vars false W args.toList ds gs before) :
    Calls Try.prog 10 args W fun e W' => ∃ v, e = .returned v ∧ Rows.pressPastesSpec.post enc Try.prog Try.f10 false true false false W args v W' := by
  have hW' := hW
  obtain ⟨p, q, hA0, hV, rfl, hfz, hnd⟩ := hW
  have hA : DataW.TrodAll enc Try.prog W 0 (fun _ => true) true Try.f10.params.toList args.toList ds p := hA0
  rw [Try.params10] at hA hval
  obtain ⟨v0, vs0, d0, ds0, p0, q0, hargs, rfl, rfl, h0, r0⟩ := trodAll_cons hA
  obtain ⟨v1, vs1, d1, ds1, p1, q1, rfl, rfl, rfl, h1, r1⟩ := trodAll_cons r0
  obtain ⟨rfl, rfl, rfl⟩ := trodAll_nil r1
  obtain rfl : args = #[v0, v1] := by cases args; simp_all
  obtain ⟨rfl, rfl⟩ := trodVars_none hV
  clear hA0
  have k0 := hval 0 24 v0 rfl rfl
  have k1 := hval 1 3 v1 rfl rfl
  refine (pressPastes_law enc W k0 h0 k1 h1).mono fun e W' ⟨he, hg⟩ => ?_
  subst he
  exact ⟨_, rfl, law_post (s := Rows.pressPastesSpec) laidOut (by kernel_rfl) rfl Try.underlying4 rfl hW' rfl hg⟩

set_option maxRecDepth 100000 in
theorem pressPastes_lifted (os : Os) (started : os.Started) (H : Type) (enc : TypeId × Value → H) :
    ReturnsInHanded {} Try.checked os 10 .any (Rows.pressPastesSpec.pre6 enc Try.prog Try.f10 Rows.pressPastesRow.domain false) (Rows.pressPastesSpec.post enc Try.prog Try.f10 false true false false) := by
  refine returnsInHanded_of_change (C := Try.checked) own started (by kernel_rfl) Try.func10
    (ChangeSpec.witness6 (enc := enc) (C := Try.checked) false ⟨#[], #[.slice none 0 0, .int .i64 0], []⟩ 12 (by kernel_rfl) (by kernel_rfl) (by kernel_rfl) (by kernel_rfl)) ?_
  intro W base args ds gs before hval hW _ _
  exact pressPastes_contract H enc W base args ds gs before hval hW

theorem pressPastes_holds : Rows.PressPastesSaid :=
  OpenClaim.holds_of_wide 10 Try.f10 rfl rfl rfl rfl rfl rfl rfl ⟨rfl, rfl, rfl, rfl, rfl⟩ rfl rfl rfl rfl rfl (by kernel_rfl) Try.func10 (by kernel_rfl)
    (of_decide_eq_true (by kernel_rfl)) (by unfold Func.isWrapper; first | (rw [if_pos (by decide +kernel)]; kernel_rfl) | (rw [if_neg (by decide +kernel)]; exact ⟨rfl, rfl⟩))
    (fun os started H enc _ => pressPastes_lifted os started H enc)

end Go.Proofs.Ytkbkppoefgojaaa
