/- farlaw.AboutSizes returns true for every input, and each argument reads as it read: no condition. -/
import Derived.Test.YtkbkppoefgojaaaLawBase
import Derived.Test.YtkbkppoefgojaaaAbout
namespace Go.Proofs.Ytkbkppoefgojaaa
open Go.RowKit Go.Fw Go.ChangeShapes Go.WideShapes Go.ChangeAt
open Go.ChangeMaps (open_string)

theorem own : ownKnob Try.prog.godebug = none := by kernel_rfl
theorem laidOut : laidOutB Try.prog = true := by kernel_rfl

set_option maxRecDepth 100000 in
theorem aboutSizes_walk (a b : Int) (s : ByteArray) (w : World) (_ha : -9223372036854775808 ≤ a ∧ a ≤ 9223372036854775807) (_hb : -9223372036854775808 ≤ b ∧ b ≤ 9223372036854775807) (hm : s.size ≤ maxLen) :
    Calls Try.prog 4 #[.int .i64 a, .int .i64 b, .string s] w fun e w' => e = .returned (.bool true) ∧ Below w.heap.size w w' := by
  have hm' := hm
  unfold maxLen at hm'
  rcases Nat.lt_trichotomy s.size 4 with h | h | h
  all_goals
    go_enter Try.func4, Try.ntmps4
    go_wp2_with fail
    refine (writeSize_any _ _ _).mono ?_
    rintro e w1 ⟨rfl, hb1⟩
    go_wp2_with fail
    refine (sizeText_any _ _ _).mono ?_
    rintro e w2 ⟨rfl, hb2⟩
    go_wp2_with fail
    first | refine (readSize_short _ _ h).mono ?_ | refine (readSize_four _ _ h).mono ?_ | refine (readSize_long _ _ h hm).mono ?_
    rintro e w3 ⟨rfl, hb3⟩
    have hb := ext_trans (ext_trans hb1 hb2) hb3
    clear hb1 hb2 hb3
    go_wp2
    first
      | (go_ret; exact ⟨rfl, hb⟩)
      | (have h0 : (s[0]'(by omega)).toNat < 256 := UInt8.toNat_lt _
         have h1 : (s[1]'(by omega)).toNat < 256 := UInt8.toNat_lt _
         have h2 : (s[2]'(by omega)).toNat < 256 := UInt8.toNat_lt _
         have h3 : (s[3]'(by omega)).toNat < 256 := UInt8.toNat_lt _
         go_quiet (fail)
         go_wp2
         go_ret
         exact ⟨rfl, hb.drewN _⟩)

set_option maxRecDepth 100000 in
theorem aboutSizes_law {H : Type} (enc : TypeId × Value → H) (W : World) {base : Nat} {v0 v1 v2 : Value} {d0 d1 d2 : DataW H} {p0 p1 p2 : List MemPlace}
    (k0 : Value.okWide Try.prog W .any base 3 v0) (h0 : DataW.Trod enc Try.prog W 0 (fun _ => true) true 3 v0 d0 p0)
    (k1 : Value.okWide Try.prog W .any base 3 v1) (h1 : DataW.Trod enc Try.prog W 0 (fun _ => true) true 3 v1 d1 p1)
    (k2 : Value.okWide Try.prog W .any base 9 v2) (h2 : DataW.Trod enc Try.prog W 0 (fun _ => true) true 9 v2 d2 p2)
    : Calls Try.prog 4 #[v0, v1, v2] W fun e w' => e = .returned (.bool true) ∧ Below W.heap.size W w' := by
  obtain ⟨x0, rfl, rfl, rfl, w0⟩ := open_int Try.underlying3 k0 h0
  obtain ⟨x1, rfl, rfl, rfl, w1⟩ := open_int Try.underlying3 k1 h1
  obtain ⟨x2, rfl, rfl, rfl, w2⟩ := open_string Try.underlying9 k2 h2
  exact aboutSizes_walk x0 x1 x2 W (int_bounds w0) (int_bounds w1) w2

set_option maxRecDepth 100000 in
theorem aboutSizes_contract (H : Type) (enc : TypeId × Value → H) (W : World) (base : Nat) (args : Array Value) (ds gs : List (DataW H)) (before : List MemPlace)
    (hval : ∀ (j : Nat) t v, Try.f4.params[j]? = some t → args[j]? = some v → Value.okWide Try.prog W .any base t v)
    (hW : DataW.Whole enc Try.prog Try.f4.params.toList Rows.aboutSizesSpec.vars false W args.toList ds gs before) :
    Calls Try.prog 4 args W fun e W' => ∃ v, e = .returned v ∧ Rows.aboutSizesSpec.post enc Try.prog Try.f4 false true false false W args v W' := by
  have hW' := hW
  obtain ⟨p, q, hA0, hV, rfl, hfz, hnd⟩ := hW
  have hA : DataW.TrodAll enc Try.prog W 0 (fun _ => true) true Try.f4.params.toList args.toList ds p := hA0
  rw [Try.params4] at hA hval
  obtain ⟨v0, vs0, d0, ds0, p0, q0, hargs, rfl, rfl, h0, r0⟩ := trodAll_cons hA
  obtain ⟨v1, vs1, d1, ds1, p1, q1, rfl, rfl, rfl, h1, r1⟩ := trodAll_cons r0
  obtain ⟨v2, vs2, d2, ds2, p2, q2, rfl, rfl, rfl, h2, r2⟩ := trodAll_cons r1
  obtain ⟨rfl, rfl, rfl⟩ := trodAll_nil r2
  obtain rfl : args = #[v0, v1, v2] := by cases args; simp_all
  obtain ⟨rfl, rfl⟩ := trodVars_none hV
  clear hA0
  have k0 := hval 0 3 v0 rfl rfl
  have k1 := hval 1 3 v1 rfl rfl
  have k2 := hval 2 9 v2 rfl rfl
  refine (aboutSizes_law enc W k0 h0 k1 h1 k2 h2).mono fun e W' ⟨he, hg⟩ => ?_
  subst he
  exact ⟨_, rfl, law_post (s := Rows.aboutSizesSpec) laidOut (by kernel_rfl) rfl Try.underlying4 rfl hW' rfl hg⟩

set_option maxRecDepth 100000 in
theorem aboutSizes_lifted (os : Os) (started : os.Started) (H : Type) (enc : TypeId × Value → H) :
    ReturnsInHanded {} Try.checked os 4 .any (Rows.aboutSizesSpec.pre6 enc Try.prog Try.f4 Rows.aboutSizesRow.domain false) (Rows.aboutSizesSpec.post enc Try.prog Try.f4 false true false false) := by
  refine returnsInHanded_of_change (C := Try.checked) own started (by kernel_rfl) Try.func4
    (ChangeSpec.witness6 (enc := enc) (C := Try.checked) false ⟨#[], #[.int .i64 0, .int .i64 0, .string .empty], []⟩ 12 (by kernel_rfl) (by kernel_rfl) (by kernel_rfl) (by kernel_rfl)) ?_
  intro W base args ds gs before hval hW _ _
  exact aboutSizes_contract H enc W base args ds gs before hval hW

theorem aboutSizes_holds : Rows.AboutSizesSaid :=
  OpenClaim.holds_of_wide 4 Try.f4 rfl rfl rfl rfl rfl rfl rfl ⟨rfl, rfl, rfl, rfl, rfl⟩ rfl rfl rfl rfl rfl (by kernel_rfl) Try.func4 (by kernel_rfl)
    (of_decide_eq_true (by kernel_rfl)) (by unfold Func.isWrapper; first | (rw [if_pos (by decide +kernel)]; kernel_rfl) | (rw [if_neg (by decide +kernel)]; exact ⟨rfl, rfl⟩))
    (fun os started H enc _ => aboutSizes_lifted os started H enc)

end Go.Proofs.Ytkbkppoefgojaaa
