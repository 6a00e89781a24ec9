/- farlaw.Names returns true: a closed sentence, its loops walked round by round; no condition. -/
import Derived.Test.YtkbkppoefgojaaaLawBase
import Derived.Test.YtkbkppoefgojaaaSlices
namespace Go.Proofs.Ytkbkppoefgojaaa
open Go.RowKit Go.Fw Go.ChangeShapes Go.WideShapes Go.ChangeAt

theorem own : ownKnob Try.prog.godebug = none := by kernel_rfl
theorem laidOut : laidOutB Try.prog = true := by kernel_rfl
def namesBytes : List Int := [240, 250, 251, 252, 253, 254, 255, 10, 11, 12, 13, 14, 17, 18, 0, 1, 24, 31, 34, 39, 0, 23, 24, 25, 26]
def namesLimits : List Int := [4096, 1000, 200, 8, 20, 200, 1024, 32, 16383, 256, 160, 60, 40, 500, 4000, 300, 200]

set_option maxRecDepth 100000 in
set_option maxHeartbeats 40000000 in
theorem names_walk (w : World) :
    Calls Try.prog 3 #[] w fun e w' => e = .returned (.bool true) ∧ Below w.heap.size w w' := by
  go_enter Try.func3, Try.ntmps3
  go_wp2_with fail
  repeat' (first | (rw [rounds_succ]; go_wp2_with fail) | (refine wp_loop_rounds 30 ?_))
  refine (eqInts_any namesBytes namesBytes _ _ 25 25 25 25 _ rfl rfl (by simp [namesBytes, maxLen]) (by simp [namesBytes, maxLen]) (((At.newAt (by simp) rfl).alloc _).alloc _) (At.newAt (by simp) rfl)).mono ?_
  rintro e w1 ⟨rfl, hb1⟩
  have hl : At w1 (some ⟨w.heap.size + 1 + 1 + 1 + 1 + 1 + 1 + 1 + 1 + 1 + 1 + 1 + 1 + 1 + 1, 0, none⟩) (ints namesLimits) := ((At.newAt (by simp) rfl).alloc _).mono hb1
  have hb : Below w.heap.size w w1 := by refine Below.trans ?_ (hb1.mono ?_) <;> first | go_grown | (simp; omega)
  clear hb1
  rw [show decide (namesBytes = namesBytes) = true from by simp]
  go_wp2_with fail
  refine (eqInts_any namesLimits namesLimits _ _ 17 17 17 17 _ rfl rfl (by simp [namesLimits, maxLen]) (by simp [namesLimits, maxLen]) (hl.alloc _) (At.newAt rfl rfl)).mono ?_
  rintro e w2 ⟨rfl, hb2⟩
  have hb3 : Below w.heap.size w w2 := (hb.alloc hb.size _).trans (hb2.mono (by have := hb.size; simp; omega))
  clear hb hb2 hl
  rw [show decide (namesLimits = namesLimits) = true from by simp]
  go_wp2_with fail
  go_ret
  exact ⟨rfl, hb3⟩

set_option maxRecDepth 100000 in
theorem names_law {H : Type} (_enc : TypeId × Value → H) (W : World)
    : Calls Try.prog 3 #[] W fun e w' => e = .returned (.bool true) ∧ Below W.heap.size W w' := by
  exact names_walk  W 

set_option maxRecDepth 100000 in
theorem names_contract (H : Type) (enc : TypeId × Value → H) (W : World) (base : Nat) (args : Array Value) (ds gs : List (DataW H)) (before : List MemPlace)
    (hval : ∀ (j : Nat) t v, Try.f3.params[j]? = some t → args[j]? = some v → Value.okWide Try.prog W .any base t v)
    (hW : DataW.Whole enc Try.prog Try.f3.params.toList Rows.namesSpec.vars false W args.toList ds gs before) :
    Calls Try.prog 3 args W fun e W' => ∃ v, e = .returned v ∧ Rows.namesSpec.post enc Try.prog Try.f3 false true false false W args v W' := by
  have hW' := hW
  obtain ⟨p, q, hA0, hV, rfl, hfz, hnd⟩ := hW
  have hA : DataW.TrodAll enc Try.prog W 0 (fun _ => true) true Try.f3.params.toList args.toList ds p := hA0
  rw [Try.params3] at hA hval
  obtain ⟨rfl, rfl, rfl⟩ := trodAll_none hA
  obtain ⟨rfl, rfl⟩ := trodVars_none hV
  clear hA0
  refine (names_law enc W ).mono fun e W' ⟨he, hg⟩ => ?_
  subst he
  exact ⟨_, rfl, law_post (s := Rows.namesSpec) laidOut (by kernel_rfl) rfl Try.underlying4 rfl hW' rfl hg⟩

set_option maxRecDepth 100000 in
theorem names_lifted (os : Os) (started : os.Started) (H : Type) (enc : TypeId × Value → H) :
    ReturnsInHanded {} Try.checked os 3 .any (Rows.namesSpec.pre6 enc Try.prog Try.f3 Rows.namesRow.domain false) (Rows.namesSpec.post enc Try.prog Try.f3 false true false false) := by
  refine returnsInHanded_of_change (C := Try.checked) own started (by kernel_rfl) Try.func3
    (ChangeSpec.witness6 (enc := enc) (C := Try.checked) false ⟨#[], #[], []⟩ 12 (by kernel_rfl) (by kernel_rfl) (by kernel_rfl) (by kernel_rfl)) ?_
  intro W base args ds gs before hval hW _ _
  exact names_contract H enc W base args ds gs before hval hW

theorem names_holds : Rows.NamesSaid :=
  OpenClaim.holds_of_wide 3 Try.f3 rfl rfl rfl rfl rfl rfl rfl ⟨rfl, rfl, rfl, rfl, rfl⟩ rfl rfl rfl rfl rfl (by kernel_rfl) Try.func3 (by kernel_rfl)
    (of_decide_eq_true (by kernel_rfl)) (by unfold Func.isWrapper; first | (rw [if_pos (by decide +kernel)]; kernel_rfl) | (rw [if_neg (by decide +kernel)]; exact ⟨rfl, rfl⟩))
    (fun os started H enc _ => names_lifted os started H enc)

end Go.Proofs.Ytkbkppoefgojaaa
