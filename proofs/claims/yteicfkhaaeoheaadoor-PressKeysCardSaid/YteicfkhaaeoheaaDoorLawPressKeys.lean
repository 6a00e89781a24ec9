/- farlaw.PressKeys returns true for every input, and each argument reads as it read. -/
import Derived.Test.YteicfkhaaeoheaaDoorCardBase
import Derived.Test.YteicfkhaaeoheaaDoorLawTr
import Derived.Test.YteicfkhaaeoheaaDoorKey2
namespace Go.Proofs.YteicfkhaaeoheaaDoor
open Go Go.RowKit Go.Fw Go.Sx Go.ChangeShapes Go.WideShapes Go.ChangeAt
set_option maxRecDepth 100000
set_option maxHeartbeats 2000000
attribute [local irreducible] SW SL SQ AtQ SV SC BB LD PK Yields SO SOT SOA SY

theorem own : ownKnob Tryd.prog.godebug = none := by kernel_rfl
theorem laidOut : laidOutB Tryd.prog = true := by kernel_rfl
abbrev A3 := Int
abbrev en3 : A3 → List Value := fun z => [.int .i64 z]
abbrev ok3 : World → A3 → Prop := fun _ z => (Lit.int .i64 z).wf = true
abbrev bk3 : A3 → Nat := fun _ => 0
theorem tr3 : Tr Tryd.prog 3 A3 en3 ok3 bk3 := Tr.int Tryd.underlying3 (by kernel_rfl)
abbrev A45 := (A3) × (A3) × (A3)
abbrev en45 : A45 → List Value := fun p => en3 p.1 ++ (en3 p.2.1 ++ (en3 p.2.2))
abbrev ok45 : World → A45 → Prop := fun W p => ok3 W p.1 ∧ ok3 W p.2.1 ∧ ok3 W p.2.2
abbrev bk45 : A45 → Nat := fun p => bk3 p.1 + (bk3 p.2.1 + (bk3 p.2.2))
theorem tr45 : Tr Tryd.prog 45 A45 en45 ok45 bk45 := Tr.struct (l := [(0, 3), (1, 3), (2, 3)]) (n := 3) (TrS.cons (o := 0) (o' := 1) (n := 3) tr3 (by kernel_rfl) (TrS.cons (o := 1) (o' := 2) (n := 3) tr3 (by kernel_rfl) (TrS.one (o := 2) (n := 3) tr3 (by kernel_rfl)))) Tryd.underlying45 (by kernel_rfl) (by kernel_rfl)
theorem pressKeys_sv (G : Ctx) (name c mods modes : Int) : SV Tryd.prog G 6 [keyV name c mods, .int .i64 modes] [] (.bool true) := by
  obtain ⟨r, e, c1, c2⟩ := key_both G name c mods modes
  refine sv_enter2 Tryd.func6 rfl rfl rfl rfl rfl ?_
  repeat' (first | (apply g_sl; first | (apply ks_nil; refine sl_nil ?_) | (apply ks_move; refine s_move rfl rfl ?_) | (apply ks_bin; refine s_bin rfl rfl rfl ?_; first | refine bb_seq ?_ | (first | refine bb_of rfl ?_)) | (apply ks_load; first | (refine s_load rfl rfl ?_; first | refine ld_cell rfl ?_ | refine ld_whole rfl ?_ | refine ld_elem rfl ?_ | refine ld_part rfl rfl ?_) | refine bb_seq ?_) | (apply ks_asgn; refine s_asgn rfl rfl ?_) | (apply ks_pick; refine s_pick rfl rfl ?_; first | (apply kp_t; refine pk_t rfl ?_) | (apply kp_f; refine pk_f rfl ?_) | refine pk_s rfl rfl ?_) | (apply ks_extr; refine s_extr (y_extract rfl rfl rfl) rfl ?_) | (apply ks_fn; first | first | refine c_callv rfl rfl rfl (c1 _) rfl rfl ?_ | refine c_callv rfl rfl rfl (c2 _) rfl rfl ?_) | (apply ks_box; refine c_box rfl rfl rfl rfl rfl rfl (fun _ => ?_)) | (apply ks_guard; first | (refine sl_gd rfl rfl rfl rfl ?_; first | (apply gd_t) | (apply gd_ft) | (apply gd_tf) | (apply gd_dec_t <;> intro hq <;> (try (exfalso; omega))) | (apply gd_dec_f <;> intro hq <;> (try (exfalso; omega))) | (apply gd_beq_t <;> intro hq <;> (try (exfalso; omega))) | (apply gd_beq_f <;> intro hq <;> (try (exfalso; omega))) | (apply gd_bne_t <;> intro hq <;> (try (exfalso; omega))) | (apply gd_bne_f <;> intro hq <;> (try (exfalso; omega))) | (apply gd_not_t <;> intro hq) | (apply gd_not_f <;> intro hq) | (apply gd_raw_t <;> intro hq) | (apply gd_raw_f <;> intro hq)) | refine sl_skip_u rfl rfl rfl rfl rfl rfl ?_) | refine bb_seq ?_) | (apply sw_seq) | (apply at_srd) | (apply sw_skip) | (apply sw_ret) | (apply sw_exit) | (apply sw_block) | (apply sw_region) | (refine sw_cd rfl ?_; first | (apply gd_t) | (apply gd_ft) | (apply gd_tf) | (apply gd_dec_t <;> intro hq <;> (try (exfalso; omega))) | (apply gd_dec_f <;> intro hq <;> (try (exfalso; omega))) | (apply gd_beq_t <;> intro hq <;> (try (exfalso; omega))) | (apply gd_beq_f <;> intro hq <;> (try (exfalso; omega))) | (apply gd_bne_t <;> intro hq <;> (try (exfalso; omega))) | (apply gd_bne_f <;> intro hq <;> (try (exfalso; omega))) | (apply gd_not_t <;> intro hq) | (apply gd_not_f <;> intro hq) | (apply gd_raw_t <;> intro hq) | (apply gd_raw_f <;> intro hq)) | (apply at_thn) | (apply at_thn_ret) | (apply at_thn_exit) | (apply at_inb) | (apply at_inb_ret) | (apply at_inb_exit) | refine at_inb_pass rfl ?_ | refine c_drawn (by kernel_rfl) ?_)
  all_goals first | exact absurd rfl (by assumption) | (refine e_sv (by first | exact .inl rfl | exact .inr rfl) rfl (List.nil_sublist _) ?_; simp [resV])
theorem pressKeys_walk (W : World) (y0 : A45) (_ : ok45 W y0) (y1 : A3) (_ : ok3 W y1) (_ : laidMetH Tryd.prog Rows.pressKeysRow.laid W) (_ : W.ShapedOpen Tryd.prog) : Calls Tryd.prog 6 #[.agg (en45 y0).toArray, .int .i64 y1] W fun e w' => e = .returned (.bool true) ∧ Below W.heap.size W w' := by
  exact calls_of_sv (pressKeys_sv ⟨W.heap.size, W⟩ y0.1 y0.2.1 y0.2.2 y1)

set_option maxRecDepth 100000 in
theorem pressKeys_law {H : Type} (enc : TypeId × Value → H) (W : World) {base : Nat} {v0 v1 : Value} {d0 d1 : DataW H} {p0 p1 : List MemPlace}
    (k0 : Value.okWide Tryd.prog W .any base 45 v0) (h0 : DataW.Trod enc Tryd.prog W 0 (fun _ => true) true 45 v0 d0 p0)
    (k1 : Value.okWide Tryd.prog W .any base 3 v1) (h1 : DataW.Trod enc Tryd.prog W 0 (fun _ => true) true 3 v1 d1 p1)
    (hL : laidMetH Tryd.prog Rows.pressKeysRow.laid W) (hS : W.ShapedOpen Tryd.prog)
    : Calls Tryd.prog 6 #[v0, v1] W fun e w' => e = .returned (.bool true) ∧ Below W.heap.size W w' := by
  obtain ⟨y0, rfl, o0, b0⟩ := tr_agg Tryd.underlying45 tr45 k0 h0
  obtain ⟨y1, rfl, o1, b1⟩ := tr_int Tryd.underlying3 tr3 k1 h1
  exact pressKeys_walk W y0 o0 y1 o1 hL hS

set_option maxRecDepth 100000 in
theorem pressKeys_contract (H : Type) (enc : TypeId × Value → H) (W : World) (base : Nat) (args : Array Value) (ds gs : List (DataW H)) (before : List MemPlace)
    (hval : ∀ (j : Nat) t v, Tryd.f6.params[j]? = some t → args[j]? = some v → Value.okWide Tryd.prog W .any base t v)
    (hW : DataW.Whole enc Tryd.prog Tryd.f6.params.toList Rows.pressKeysSpec.vars false W args.toList ds gs before) (hL : laidMetH Tryd.prog Rows.pressKeysRow.laid W) (hS : W.ShapedOpen Tryd.prog) :
    Calls Tryd.prog 6 args W fun e W' => ∃ v, e = .returned v ∧ Rows.pressKeysSpec.post enc Tryd.prog Tryd.f6 false true false false W args v W' := by
  have hW' := hW
  obtain ⟨p, q, hA0, hV, rfl, hfz, hnd⟩ := hW'
  have hA : DataW.TrodAll enc Tryd.prog W 0 (fun _ => true) true Tryd.f6.params.toList args.toList ds p := hA0
  rw [Tryd.params6] at hA hval
  obtain ⟨v0, vs0, d0, ds0, p0, q0, hargs, rfl, rfl, h0, r0⟩ := trodAll_cons hA
  obtain ⟨v1, vs1, d1, ds1, p1, q1, rfl, rfl, rfl, h1, r1⟩ := trodAll_cons r0
  obtain ⟨rfl, rfl, rfl⟩ := trodAll_nil r1
  obtain rfl : args = #[v0, v1] := by cases args; simp_all
  obtain ⟨rfl, rfl⟩ := trodVars_none hV
  clear hA0
  have k0 := hval 0 45 v0 rfl rfl
  have k1 := hval 1 3 v1 rfl rfl
  refine (pressKeys_law enc W k0 h0 k1 h1 hL hS).mono fun e W' ⟨he, hg⟩ => ?_
  subst he
  exact ⟨_, rfl, law_post (s := Rows.pressKeysSpec) laidOut (by kernel_rfl) rfl Tryd.underlying4 rfl hW rfl hg⟩

noncomputable def pressKeys_world (os : Os) : World := { World.holding Tryd.prog os ⟨#[], #[], []⟩ with heap := ((((World.holding Tryd.prog os ⟨#[], #[], []⟩).heap.modify 4 fun | .cells _ t frozen => .cells (dCells Rows.laid_math_bits_deBruijn32tab).toArray t frozen | o => o).modify 5 fun | .cells _ t frozen => .cells (dCells Rows.laid_math_bits_deBruijn64tab).toArray t frozen | o => o).modify 3 fun | .cells _ t frozen => .cells (dCells Rows.laid_internal_strconv_uint64pow10).toArray t frozen | o => o) }
theorem pressKeys_met (os : Os) : laidMet Tryd.prog Rows.pressKeysRow.laid ((pressKeys_world os).forCall (fun _ _ => 0) ⟨#[], #[.agg #[.int .i64 0, .int .i64 0, .int .i64 0], .int .i64 0], []⟩).memory := laidMet_of_run' 12 (by kernel_rfl) (by kernel_rfl)
theorem pressKeys_reads (os : Os) {H : Type} (enc : TypeId × Value → H) : ∃ places, DataW.whole enc Tryd.prog ((pressKeys_world os).forCall (fun _ _ => 0) ⟨#[], #[.agg #[.int .i64 0, .int .i64 0, .int .i64 0], .int .i64 0], []⟩).memory Tryd.f6.params.toList Rows.pressKeysSpec.vars false (#[.agg #[.int .i64 0, .int .i64 0, .int .i64 0], .int .i64 0] : Array Value).toList 12 = some ([.agg [.lit (.int .i64 0), .lit (.int .i64 0), .lit (.int .i64 0)], .lit (.int .i64 0)], [], places) := ⟨[], by kernel_rfl⟩
set_option maxRecDepth 100000 in
theorem pressKeys_lifted (os : Os) (started : os.Started) (H : Type) (enc : TypeId × Value → H) (F : Stop.Interp) :
    ReturnsInHanded {} Tryd.checked os 6 .any ((OpenSpec.ofChange Rows.pressKeysSpec).preRow enc Tryd.prog Tryd.f6 Rows.pressKeysRow.domain false Rows.pressKeysRow.laid) (((OpenSpec.ofChange Rows.pressKeysSpec).at F).post enc Tryd.prog Tryd.f6 false true false false) := by
  obtain ⟨places, hx⟩ := pressKeys_reads os enc
  refine returnsInHanded_of_row (C := Tryd.checked) (s := OpenSpec.ofChange Rows.pressKeysSpec) own started (by kernel_rfl) Tryd.func6
    (witness_row_at (enc := enc) (C := Tryd.checked) false (pressKeys_world os) #[.agg #[.int .i64 0, .int .i64 0, .int .i64 0], .int .i64 0] rfl (by kernel_rfl) (by kernel_rfl) (by kernel_rfl)
      (OpenSpec.preRow_of_cond 12 hx (by kernel_rfl) (fun k hk => by cases hk) (by kernel_rfl) (pressKeys_met os))) ?_
  intro W base args ds gs before hval hW _ _ _ hL hS _
  exact pressKeys_contract H enc W base args ds gs before hval hW hL hS

theorem pressKeys_holds : Rows.PressKeysSaid :=
  OpenClaim.holds_of_cond 6 Tryd.f6 rfl rfl rfl rfl rfl rfl rfl ⟨rfl, rfl, rfl, rfl, rfl⟩ rfl rfl rfl rfl rfl (by kernel_rfl) Tryd.func6 (by kernel_rfl)
    (of_decide_eq_true (by kernel_rfl)) (by unfold Func.isWrapper; first | (rw [if_pos (by decide +kernel)]; kernel_rfl) | (rw [if_neg (by decide +kernel)]; exact ⟨rfl, rfl⟩))
    (fun os started H enc _ F => by rw [OpenClaim.pre_eq_preRow]; exact pressKeys_lifted os started H enc F)
theorem pressKeys_plain (f : FuncId) (fn : Func) (hf : Tryd.pinned.checked.prog.funcNamed "farwriter/farlaw.PressKeys" = some f) (hfn : Tryd.pinned.checked.prog.funcs[f]? = some fn) :
    false = Tryd.pinned.checked.prog.looks [] ∧ ∀ (j : Nat) t, fn.params[j]? = some t → Tryd.pinned.checked.prog.wantsStandIn t = false := by
  obtain rfl : f = 6 := Option.some.inj ((show Tryd.prog.funcNamed "farwriter/farlaw.PressKeys" = some 6 by kernel_rfl).symm.trans hf) |>.symm
  obtain rfl : fn = Tryd.f6 := (Option.some.inj (Tryd.func6.symm.trans hfn)).symm
  refine ⟨by kernel_rfl, fun j t ht => ?_⟩
  rw [Tryd.params6] at ht
  have hm : t ∈ [45, 3] := by simpa using Array.mem_of_getElem? ht
  have hall : ([45, 3].all fun u => !Tryd.prog.wantsStandIn u) = true := by kernel_rfl
  exact (show Tryd.prog.wantsStandIn t = false by simpa using List.all_eq_true.1 hall t hm)
theorem pressKeys_card : Rows.PressKeysCardSaid :=
  Claim7.holds_tied_plain_at .later [] _ _ _ _ pressKeys_holds (fun _ h => by cases h) (by kernel_rfl) (fun _ h => by cases h) pressKeys_row_tie rfl ⟨rfl, rfl⟩ (by kernel_rfl) rfl pressKeys_plain (by kernel_rfl)

end Go.Proofs.YteicfkhaaeoheaaDoor
