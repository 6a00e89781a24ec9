/- farlaw.WidthSays returns true for every input of bulk at most 1048576, and each argument reads as it read. -/
import Derived.Test.YtkbkppoefgojaaaLawBase
import Derived.Test.YtkbkppoefgojaaaWidthSame
import Derived.Test.YtkbkppoefgojaaaWidthSum
namespace Go.Proofs.Ytkbkppoefgojaaa
open Go.RowKit Go.Fw Go.ChangeShapes Go.WideShapes Go.ChangeAt
open Go.ChangeMaps (open_string)

theorem own : ownKnob Try.prog.godebug = none := by kernel_rfl
theorem laidOut : laidOutB Try.prog = true := by kernel_rfl

theorem sums_same (l : List Int) : widthSum l = refWidths l := by
  unfold widthSum refWidths
  rw [show widthOf = refWidth from funext width_same]

set_option maxRecDepth 100000 in
set_option maxHeartbeats 400000 in
theorem widthSays_walk (x : Int) (a : Option Addr) (l : List Int) (c : Nat) (w : World) (_hx : -9223372036854775808 ≤ x ∧ x ≤ 9223372036854775807) (h : At w a (ints l)) (_hw : ∀ x ∈ l, (Lit.int .i64 x).wf = true) (_hl : l.length ≤ maxLen) (hb : l.length ≤ 1048576) :
    Calls Try.prog 6 #[.int .i64 x, .slice a l.length c] w fun e w' => e = .returned (.bool true) ∧ Below w.heap.size w w' := by
  clear _hw _hl
  have h1 : (widthOf x == refWidth x) = true := by rw [width_same]; exact beq_self_eq_true _
  have h2 : (widthSum l == refWidths l) = true := by rw [sums_same]; exact beq_self_eq_true _
  go_enter Try.func6, Try.ntmps6
  go_wp2_with fail
  refine (widthOf_any _ _).mono ?_
  rintro e w1 ⟨rfl, hb1⟩
  go_wp2_with fail
  refine (refWidth_any _ _).mono ?_
  rintro e w2 ⟨rfl, hb2⟩
  have hb2 := ext_trans hb1 hb2
  clear hb1
  go_wp2_with fail
  refine (widthSum_any l a _ c _ rfl (by omega) (h.mono hb2)).mono ?_
  rintro e w3 ⟨rfl, hb3⟩
  have hb3 := ext_trans hb2 hb3
  clear hb2
  go_wp2_with fail
  refine (refWidths_any l a _ c _ rfl (by omega) (h.mono hb3)).mono ?_
  rintro e w4 ⟨rfl, hb4⟩
  have hb4 := ext_trans hb3 hb4
  clear hb3
  go_wp2_with fail
  go_ret
  exact ⟨rfl, hb4⟩

set_option maxRecDepth 100000 in
theorem widthSays_law {H : Type} (enc : TypeId × Value → H) (W : World) {base : Nat} {v0 v1 : Value} {d0 d1 : DataW H} {p0 p1 : List MemPlace}
    (k0 : Value.okWide Try.prog W .any base 3 v0) (h0 : DataW.Trod enc Try.prog W 0 (fun _ => true) true 3 v0 d0 p0)
    (k1 : Value.okWide Try.prog W .any base 24 v1) (h1 : DataW.Trod enc Try.prog W 0 (fun _ => true) true 24 v1 d1 p1)
    (hk : Rows.uptoSmall H [d0, d1] = true)
    : Calls Try.prog 6 #[v0, v1] W fun e w' => e = .returned (.bool true) ∧ Below W.heap.size W w' := by
  obtain ⟨x0, rfl, rfl, rfl, w0⟩ := open_int Try.underlying3 k0 h0
  obtain ⟨a1, x1, y1, c1, rfl, m1, w1, l1, e1⟩ := open_ints_at Try.underlying24 Try.underlying3 (by kernel_rfl) k1 h1
  exact widthSays_walk x0 a1 x1 c1 W (int_bounds w0) m1 w1 l1 (bulk_ints hk (d := d1) (by simp) e1)

set_option maxRecDepth 100000 in
theorem widthSays_contract (H : Type) (enc : TypeId × Value → H) (W : World) (base : Nat) (args : Array Value) (ds gs : List (DataW H)) (before : List MemPlace)
    (hval : ∀ (j : Nat) t v, Try.f6.params[j]? = some t → args[j]? = some v → Value.okWide Try.prog W .any base t v)
    (hW : DataW.Whole enc Try.prog Try.f6.params.toList Rows.widthSaysSpec.vars false W args.toList ds gs before) (hk : Rows.uptoSmall H (ds ++ gs) = true) :
    Calls Try.prog 6 args W fun e W' => ∃ v, e = .returned v ∧ Rows.widthSaysSpec.post enc Try.prog Try.f6 false true false false W args v W' := by
  have hW' := hW
  obtain ⟨p, q, hA0, hV, rfl, hfz, hnd⟩ := hW
  have hA : DataW.TrodAll enc Try.prog W 0 (fun _ => true) true Try.f6.params.toList args.toList ds p := hA0
  rw [Try.params6] at hA hval
  obtain ⟨v0, vs0, d0, ds0, p0, q0, hargs, rfl, rfl, h0, r0⟩ := trodAll_cons hA
  obtain ⟨v1, vs1, d1, ds1, p1, q1, rfl, rfl, rfl, h1, r1⟩ := trodAll_cons r0
  obtain ⟨rfl, rfl, rfl⟩ := trodAll_nil r1
  obtain rfl : args = #[v0, v1] := by cases args; simp_all
  obtain ⟨rfl, rfl⟩ := trodVars_none hV
  clear hA0
  have k0 := hval 0 3 v0 rfl rfl
  have k1 := hval 1 24 v1 rfl rfl
  simp only [List.append_nil] at hk
  refine (widthSays_law enc W k0 h0 k1 h1 hk).mono fun e W' ⟨he, hg⟩ => ?_
  subst he
  exact ⟨_, rfl, law_post (s := Rows.widthSaysSpec) laidOut (by kernel_rfl) rfl Try.underlying4 rfl hW' rfl hg⟩

set_option maxRecDepth 100000 in
theorem widthSays_lifted (os : Os) (started : os.Started) (H : Type) (enc : TypeId × Value → H) (F : Stop.Interp) :
    ReturnsInHanded {} Try.checked os 6 .any ((Rows.OpenSpec.upto Rows.widthSaysSpec).pre6 enc Try.prog Try.f6 Rows.widthSaysUptoRow.domain false) (((Rows.OpenSpec.upto Rows.widthSaysSpec).at F).post enc Try.prog Try.f6 false true false false) := by
  refine returnsInHanded_of_cond (C := Try.checked) (s := Rows.OpenSpec.upto Rows.widthSaysSpec) (k := Rows.uptoSmall) rfl own started (by kernel_rfl) Try.func6
    (OpenSpec.witness (enc := enc) (C := Try.checked) (s := Rows.OpenSpec.upto Rows.widthSaysSpec) (k := Rows.uptoSmall) rfl false ⟨#[], #[.int .i64 0, .slice none 0 0], []⟩ 12 (by kernel_rfl) (by kernel_rfl) (by kernel_rfl)
      (x := ([.lit (.int .i64 0), .nil], [], [])) (by kernel_rfl) rfl (by kernel_rfl)) ?_
  intro W base args ds gs before hval hW _ hk _
  exact widthSays_contract H enc W base args ds gs before hval hW hk

theorem widthSays_holds : Rows.WidthSaysUptoSaid :=
  OpenClaim.holds_of_cond 6 Try.f6 rfl rfl rfl rfl rfl rfl rfl ⟨rfl, rfl, rfl, rfl, rfl⟩ rfl rfl rfl rfl rfl (by kernel_rfl) Try.func6 (by kernel_rfl)
    (of_decide_eq_true (by kernel_rfl)) (by unfold Func.isWrapper; first | (rw [if_pos (by decide +kernel)]; kernel_rfl) | (rw [if_neg (by decide +kernel)]; exact ⟨rfl, rfl⟩))
    (fun os started H enc _ F => widthSays_lifted os started H enc F)

end Go.Proofs.Ytkbkppoefgojaaa
