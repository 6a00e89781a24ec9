/- farlaw.MaskWrites returns true for every input, and each argument reads as it read. -/
import Derived.Test.YtgcnfcgnkfkpeaaDoorCardBase
import Derived.Test.YtgcnfcgnkfkpeaaDoorMaskW5
namespace Go.Proofs.YtgcnfcgnkfkpeaaDoor
open Go Go.RowKit Go.Fw Go.Sx Go.ChangeShapes Go.WideShapes Go.ChangeAt
set_option maxRecDepth 100000
set_option maxHeartbeats 2000000
attribute [local irreducible] SW SL SQ AtQ SV SC BB LD PK Yields SO SOT SOA SY

theorem own : ownKnob Tryd.prog.godebug = none := by kernel_rfl
theorem laidOut : laidOutB Tryd.prog = true := by kernel_rfl
abbrev A22 := Int
abbrev en22 : A22 → List Value := fun z => [.int .u64 z]
abbrev ok22 : World → A22 → Prop := fun _ z => (Lit.int .u64 z).wf = true
abbrev bk22 : A22 → Nat := fun _ => 0
theorem tr22 : Tr Tryd.prog 22 A22 en22 ok22 bk22 := Tr.int Tryd.underlying22 (by kernel_rfl)
abbrev A23 := {L : List A22 // L.length = 4}
abbrev en23 : A23 → List Value := fun L => L.1.flatMap en22
abbrev ok23 : World → A23 → Prop := fun W L => ∀ y ∈ L.1, ok22 W y
abbrev bk23 : A23 → Nat := fun _ => 0
theorem tr23 : Tr Tryd.prog 23 A23 en23 ok23 bk23 := Tr.array tr22 Tryd.underlying23 (by kernel_rfl)
abbrev A25 := (A23)
abbrev en25 : A25 → List Value := en23
abbrev ok25 : World → A25 → Prop := ok23
abbrev bk25 : A25 → Nat := bk23
theorem tr25 : Tr Tryd.prog 25 A25 en25 ok25 bk25 := Tr.struct (l := [(0, 23)]) (n := 4) (TrS.one (o := 0) (n := 4) tr23 (by kernel_rfl)) Tryd.underlying25 (by kernel_rfl) (by kernel_rfl)
abbrev A9 := ByteArray
abbrev en9 : A9 → List Value := fun z => [.string z]
abbrev ok9 : World → A9 → Prop := fun _ z => z.size ≤ maxLen
abbrev bk9 : A9 → Nat := fun z => z.size
theorem tr9 : Tr Tryd.prog 9 A9 en9 ok9 bk9 := Tr.str Tryd.underlying9 (by kernel_rfl)
theorem maskSelf (M : List Int) (h : M.length = 4) : EqSelf Tryd.prog 10000 25 (maskV M) := by
  have hfs : Tryd.prog.fieldsOf 25 = (match Tryd.prog.underlying 25 with | some (.struct fs) => fs | _ => #[]) := rfl
  have harw : EqSelf Tryd.prog 9999 23 (.agg (wdL M).toArray) :=
    eqself_arr (n := 4) (e := 22) (by kernel_rfl) fun j hj => ⟨_, wdL_at j (by omega), eqself_int _⟩
  refine eqself_struct (d := 9999) (by rw [hfs, Tryd.underlying25]) (by kernel_rfl) ?_
  rw [hfs, Tryd.underlying25]
  have e : ((wdL M).drop 0).take 4 = wdL M := by rw [List.drop_zero, List.take_of_length_le (by rw [wdL_len, h]; exact Nat.le_refl _)]
  refine List.forall_mem_cons.2 ⟨⟨by decide, .agg (wdL M).toArray, part_agg (sz := 4) e, harw⟩, fun f hf => by cases hf⟩
theorem maskWrites_sv (G : Ctx) (V : List Int) (d : ByteArray) (hV : W64 V) (hd : d.size ≤ 9223372036854775807) : SV Tryd.prog G 3 [maskV V, .string d] [] (.bool true) := by
  obtain ⟨M, e, hM, c1, c2⟩ : ∃ (M : List Int) (e : Int), M.length = 4 ∧ (∀ H, SV Tryd.prog G 8 [.string d] H (.tuple #[maskV M, .int .i64 e])) ∧ (∀ H, SV Tryd.prog G 9 [.string d] H (.tuple #[maskV M, .int .i64 e])) := by
    rcases Nat.lt_or_ge 32 d.size with h | h
    · exact ⟨[0, 0, 0, 0], 2, rfl, fun H => maskRead_e G H d h hd, fun H => textMask_e G H d h hd⟩
    · exact ⟨_, 0, rdW_len _ _, fun H => maskRead_ok G H d h, fun H => textMask_ok G H d h⟩
  have c3 := fun H => maskWrite_sv G H V hV
  have c4 := fun H => maskText_sv G H V hV
  have hs := maskSelf M hM
  have hb := wdL_oneB V hV.1
  have hbM := wdL_oneB M hM
  have hone := wdL_one M
  clear hM hd hV
  refine sv_enter2 Tryd.func3 rfl rfl rfl rfl rfl ?_
  repeat' (first | (apply g_sl; first | (apply ks_nil; refine sl_nil ?_) | (apply ks_move; refine s_move rfl rfl ?_) | (apply ks_bin; refine s_bin rfl rfl rfl ?_; first | first | (refine s_load rfl rfl ?_; first | refine ld_whole hb ?_ | refine ld_whole hbM ?_) | (refine c_storew rfl rfl rfl rfl hone hbM rfl rfl ?_) | (first | refine bb_of rfl ?_)) | (apply ks_load; first | (refine s_load rfl rfl ?_; first | refine ld_cell rfl ?_ | refine ld_whole rfl ?_ | refine ld_elem rfl ?_ | refine ld_part rfl rfl ?_) | first | (refine s_load rfl rfl ?_; first | refine ld_whole hb ?_ | refine ld_whole hbM ?_) | (refine c_storew rfl rfl rfl rfl hone hbM rfl rfl ?_)) | (apply ks_asgn; refine s_asgn rfl rfl ?_) | (apply ks_pick; refine s_pick rfl rfl ?_; first | (apply kp_t; refine pk_t rfl ?_) | (apply kp_f; refine pk_f rfl ?_) | refine pk_s rfl rfl ?_) | (apply ks_extr; refine s_extr (y_extract rfl rfl rfl) rfl ?_) | (apply ks_fn; first | first | refine c_callv rfl rfl rfl (c1 _) rfl rfl ?_ | refine c_callv rfl rfl rfl (c2 _) rfl rfl ?_) | (apply ks_store; first | first | refine c_store rfl rfl rfl rfl rfl rfl rfl ?_ | refine c_storew rfl rfl rfl rfl rfl rfl rfl rfl ?_ | refine c_storee rfl rfl rfl rfl rfl (by omega) rfl ?_ | first | (refine s_load rfl rfl ?_; first | refine ld_whole hb ?_ | refine ld_whole hbM ?_) | (refine c_storew rfl rfl rfl rfl hone hbM rfl rfl ?_)) | (apply ks_box; refine c_box rfl rfl rfl rfl rfl rfl (fun _ => ?_)) | (apply ks_alloc; refine c_alloc rfl rfl rfl rfl (fun _ => ?_)) | (apply ks_guard; first | (refine sl_gd rfl rfl rfl rfl ?_; first | (apply gd_t) | (apply gd_ft) | (apply gd_tf) | (apply gd_dec_t <;> intro hq <;> (try (exfalso; omega))) | (apply gd_dec_f <;> intro hq <;> (try (exfalso; omega))) | (apply gd_beq_t <;> intro hq <;> (try (exfalso; omega))) | (apply gd_beq_f <;> intro hq <;> (try (exfalso; omega))) | (apply gd_bne_t <;> intro hq <;> (try (exfalso; omega))) | (apply gd_bne_f <;> intro hq <;> (try (exfalso; omega))) | (apply gd_not_t <;> intro hq) | (apply gd_not_f <;> intro hq) | (apply gd_raw_t <;> intro hq) | (apply gd_raw_f <;> intro hq)) | refine sl_skip_u rfl rfl rfl rfl rfl rfl ?_) | first | (refine s_load rfl rfl ?_; first | refine ld_whole hb ?_ | refine ld_whole hbM ?_) | (refine c_storew rfl rfl rfl rfl hone hbM rfl rfl ?_)) | (apply g_sq; first | (apply kq_nil; refine sq_nil ?_) | (apply kq_move; refine q_move rfl rfl ?_) | (apply kq_bin; refine q_bin rfl rfl rfl ?_; first | first | (refine bb_self hs (by kernel_rfl) ?_) | (refine bb_seq ?_) | (refine q_load rfl rfl ?_; first | refine ld_whole hb ?_ | refine ld_whole hbM ?_) | (first | refine bb_of rfl ?_)) | (apply kq_load; first | (refine q_load rfl rfl ?_; first | refine ld_cell rfl ?_ | refine ld_whole rfl ?_ | refine ld_elem rfl ?_ | refine ld_part rfl rfl ?_) | first | (refine bb_self hs (by kernel_rfl) ?_) | (refine bb_seq ?_) | (refine q_load rfl rfl ?_; first | refine ld_whole hb ?_ | refine ld_whole hbM ?_)) | (apply kq_asgn; refine q_asgn rfl rfl ?_) | (apply kq_pick; refine q_pick rfl rfl ?_; first | (apply kp_t; refine pk_t rfl ?_) | (apply kp_f; refine pk_f rfl ?_) | refine pk_s rfl rfl ?_) | (apply kq_extr; refine q_extr (y_extract rfl rfl rfl) rfl ?_) | (apply kq_fn; first | first | refine c_callq rfl rfl rfl (c3 _) rfl rfl ?_ | refine c_callq rfl rfl rfl (c4 _) rfl rfl ?_) | (apply kq_guard; first | (refine sq_gd rfl rfl rfl rfl ?_; first | (apply gd_t) | (apply gd_ft) | (apply gd_tf) | (apply gd_dec_t <;> intro hq <;> (try (exfalso; omega))) | (apply gd_dec_f <;> intro hq <;> (try (exfalso; omega))) | (apply gd_beq_t <;> intro hq <;> (try (exfalso; omega))) | (apply gd_beq_f <;> intro hq <;> (try (exfalso; omega))) | (apply gd_bne_t <;> intro hq <;> (try (exfalso; omega))) | (apply gd_bne_f <;> intro hq <;> (try (exfalso; omega))) | (apply gd_not_t <;> intro hq) | (apply gd_not_f <;> intro hq) | (apply gd_raw_t <;> intro hq) | (apply gd_raw_f <;> intro hq)) | refine sq_skip_u rfl rfl rfl rfl rfl rfl ?_) | first | (refine bb_self hs (by kernel_rfl) ?_) | (refine bb_seq ?_) | (refine q_load rfl rfl ?_; first | refine ld_whole hb ?_ | refine ld_whole hbM ?_)) | (apply sw_seq) | (apply at_srd) | (apply sw_skip) | (apply sw_ret) | (apply sw_exit) | (apply sw_block) | (apply sw_region) | (refine sw_cd rfl ?_; first | (apply gd_t) | (apply gd_ft) | (apply gd_tf) | (apply gd_dec_t <;> intro hq <;> (try (exfalso; omega))) | (apply gd_dec_f <;> intro hq <;> (try (exfalso; omega))) | (apply gd_beq_t <;> intro hq <;> (try (exfalso; omega))) | (apply gd_beq_f <;> intro hq <;> (try (exfalso; omega))) | (apply gd_bne_t <;> intro hq <;> (try (exfalso; omega))) | (apply gd_bne_f <;> intro hq <;> (try (exfalso; omega))) | (apply gd_not_t <;> intro hq) | (apply gd_not_f <;> intro hq) | (apply gd_raw_t <;> intro hq) | (apply gd_raw_f <;> intro hq)) | (apply at_thn) | (apply at_thn_ret) | (apply at_thn_exit) | (apply at_inb) | (apply at_inb_ret) | (apply at_inb_exit) | refine at_inb_pass rfl ?_ | refine c_drawn (by kernel_rfl) ?_)
  all_goals first | exact absurd rfl (by assumption) | (refine e_sv (by first | exact .inl rfl | exact .inr rfl) rfl (by repeat (first | exact List.Sublist.refl _ | exact List.nil_sublist _ | refine List.Sublist.cons _ ?_)) ?_; simp [resV])
theorem maskWrites_walk (W : World) (y0 : A25) (o0 : ok25 W y0) (y1 : A9) (o1 : ok9 W y1) (_ : laidMetH Tryd.prog Rows.maskWritesRow.laid W) (_ : W.ShapedOpen Tryd.prog) : Calls Tryd.prog 3 #[.agg (en25 y0).toArray, .string y1] W fun e w' => e = .returned (.bool true) ∧ Below W.heap.size W w' := by
  obtain ⟨V, hV⟩ := y0
  have e : V.flatMap (fun z => [Value.int .u64 z]) = wdL V := fm_map (Value.int .u64) V
  have h64 : ∀ x ∈ V, 0 ≤ x ∧ x ≤ 18446744073709551615 := fun x hx => u64_bounds (o0 x hx)
  have h1 : y1.size ≤ 9223372036854775807 := Nat.le_trans o1 (by unfold maxLen; omega)
  have h2 := calls_of_sv (maskWrites_sv ⟨W.heap.size, W⟩ V y1 ⟨hV, h64⟩ h1)
  show Calls Tryd.prog 3 #[.agg (V.flatMap (fun z => [Value.int .u64 z])).toArray, .string y1] W _
  rw [e]
  exact h2

set_option maxRecDepth 100000 in
theorem maskWrites_law {H : Type} (enc : TypeId × Value → H) (W : World) {base : Nat} {v0 v1 : Value} {d0 d1 : DataW H} {p0 p1 : List MemPlace}
    (k0 : Value.okWide Tryd.prog W .any base 25 v0) (h0 : DataW.Trod enc Tryd.prog W 0 (fun _ => true) true 25 v0 d0 p0)
    (k1 : Value.okWide Tryd.prog W .any base 9 v1) (h1 : DataW.Trod enc Tryd.prog W 0 (fun _ => true) true 9 v1 d1 p1)
    (hL : laidMetH Tryd.prog Rows.maskWritesRow.laid W) (hS : W.ShapedOpen Tryd.prog)
    : Calls Tryd.prog 3 #[v0, v1] W fun e w' => e = .returned (.bool true) ∧ Below W.heap.size W w' := by
  obtain ⟨y0, rfl, o0, b0⟩ := tr_agg Tryd.underlying25 tr25 k0 h0
  obtain ⟨y1, rfl, o1, b1⟩ := tr_str Tryd.underlying9 tr9 k1 h1
  exact maskWrites_walk W y0 o0 y1 o1 hL hS

set_option maxRecDepth 100000 in
theorem maskWrites_contract (H : Type) (enc : TypeId × Value → H) (W : World) (base : Nat) (args : Array Value) (ds gs : List (DataW H)) (before : List MemPlace)
    (hval : ∀ (j : Nat) t v, Tryd.f3.params[j]? = some t → args[j]? = some v → Value.okWide Tryd.prog W .any base t v)
    (hW : DataW.Whole enc Tryd.prog Tryd.f3.params.toList Rows.maskWritesSpec.vars false W args.toList ds gs before) (hL : laidMetH Tryd.prog Rows.maskWritesRow.laid W) (hS : W.ShapedOpen Tryd.prog) :
    Calls Tryd.prog 3 args W fun e W' => ∃ v, e = .returned v ∧ Rows.maskWritesSpec.post enc Tryd.prog Tryd.f3 false true false false W args v W' := by
  have hW' := hW
  obtain ⟨p, q, hA0, hV, rfl, hfz, hnd⟩ := hW'
  have hA : DataW.TrodAll enc Tryd.prog W 0 (fun _ => true) true Tryd.f3.params.toList args.toList ds p := hA0
  rw [Tryd.params3] at hA hval
  obtain ⟨v0, vs0, d0, ds0, p0, q0, hargs, rfl, rfl, h0, r0⟩ := trodAll_cons hA
  obtain ⟨v1, vs1, d1, ds1, p1, q1, rfl, rfl, rfl, h1, r1⟩ := trodAll_cons r0
  obtain ⟨rfl, rfl, rfl⟩ := trodAll_nil r1
  obtain rfl : args = #[v0, v1] := by cases args; simp_all
  obtain ⟨rfl, rfl⟩ := trodVars_none hV
  clear hA0
  have k0 := hval 0 25 v0 rfl rfl
  have k1 := hval 1 9 v1 rfl rfl
  refine (maskWrites_law enc W k0 h0 k1 h1 hL hS).mono fun e W' ⟨he, hg⟩ => ?_
  subst he
  exact ⟨_, rfl, law_post (s := Rows.maskWritesSpec) laidOut (by kernel_rfl) rfl Tryd.underlying4 rfl hW rfl hg⟩

noncomputable def maskWrites_world (os : Os) : World := { World.holding Tryd.prog os ⟨#[], #[], []⟩ with heap := (((World.holding Tryd.prog os ⟨#[], #[], []⟩).heap.modify 1 fun | .cells _ t frozen => .cells (dCells Rows.laid_unicode_utf8_acceptRanges).toArray t frozen | o => o).modify 0 fun | .cells _ t frozen => .cells (dCells Rows.laid_unicode_utf8_first).toArray t frozen | o => o) }
theorem maskWrites_met (os : Os) : laidMet Tryd.prog Rows.maskWritesRow.laid ((maskWrites_world os).forCall (fun _ _ => 0) ⟨#[], #[.agg #[.int .u64 0, .int .u64 0, .int .u64 0, .int .u64 0], .string .empty], []⟩).memory := laidMet_of_run' 12 (by kernel_rfl) (by kernel_rfl)
theorem maskWrites_reads (os : Os) {H : Type} (enc : TypeId × Value → H) : ∃ places, DataW.whole enc Tryd.prog ((maskWrites_world os).forCall (fun _ _ => 0) ⟨#[], #[.agg #[.int .u64 0, .int .u64 0, .int .u64 0, .int .u64 0], .string .empty], []⟩).memory Tryd.f3.params.toList Rows.maskWritesSpec.vars false (#[.agg #[.int .u64 0, .int .u64 0, .int .u64 0, .int .u64 0], .string .empty] : Array Value).toList 12 = some ([.agg [.agg [.lit (.int .u64 0), .lit (.int .u64 0), .lit (.int .u64 0), .lit (.int .u64 0)]], .lit (.string [])], [], places) := ⟨[], by kernel_rfl⟩
set_option maxRecDepth 100000 in
theorem maskWrites_lifted (os : Os) (started : os.Started) (H : Type) (enc : TypeId × Value → H) (F : Stop.Interp) :
    ReturnsInHanded {} Tryd.checked os 3 .any ((OpenSpec.ofChange Rows.maskWritesSpec).preRow enc Tryd.prog Tryd.f3 Rows.maskWritesRow.domain false Rows.maskWritesRow.laid) (((OpenSpec.ofChange Rows.maskWritesSpec).at F).post enc Tryd.prog Tryd.f3 false true false false) := by
  obtain ⟨places, hx⟩ := maskWrites_reads os enc
  refine returnsInHanded_of_row (C := Tryd.checked) (s := OpenSpec.ofChange Rows.maskWritesSpec) own started (by kernel_rfl) Tryd.func3
    (witness_row_at (enc := enc) (C := Tryd.checked) false (maskWrites_world os) #[.agg #[.int .u64 0, .int .u64 0, .int .u64 0, .int .u64 0], .string .empty] rfl (by kernel_rfl) (by kernel_rfl) (by kernel_rfl)
      (OpenSpec.preRow_of_cond 12 hx (by kernel_rfl) (fun k hk => by cases hk) (by kernel_rfl) (maskWrites_met os))) ?_
  intro W base args ds gs before hval hW _ _ _ hL hS _
  exact maskWrites_contract H enc W base args ds gs before hval hW hL hS

theorem maskWrites_holds : Rows.MaskWritesSaid :=
  OpenClaim.holds_of_cond 3 Tryd.f3 rfl rfl rfl rfl rfl rfl rfl ⟨rfl, rfl, rfl, rfl, rfl⟩ rfl rfl rfl rfl rfl (by kernel_rfl) Tryd.func3 (by kernel_rfl)
    (of_decide_eq_true (by kernel_rfl)) (by unfold Func.isWrapper; first | (rw [if_pos (by decide +kernel)]; kernel_rfl) | (rw [if_neg (by decide +kernel)]; exact ⟨rfl, rfl⟩))
    (fun os started H enc _ F => by rw [OpenClaim.pre_eq_preRow]; exact maskWrites_lifted os started H enc F)
theorem maskWrites_plain (f : FuncId) (fn : Func) (hf : Tryd.pinned.checked.prog.funcNamed "farwriter/farlaw.MaskWrites" = some f) (hfn : Tryd.pinned.checked.prog.funcs[f]? = some fn) :
    false = Tryd.pinned.checked.prog.looks [] ∧ ∀ (j : Nat) t, fn.params[j]? = some t → Tryd.pinned.checked.prog.wantsStandIn t = false := by
  obtain rfl : f = 3 := Option.some.inj ((show Tryd.prog.funcNamed "farwriter/farlaw.MaskWrites" = some 3 by kernel_rfl).symm.trans hf) |>.symm
  obtain rfl : fn = Tryd.f3 := (Option.some.inj (Tryd.func3.symm.trans hfn)).symm
  refine ⟨by kernel_rfl, fun j t ht => ?_⟩
  rw [Tryd.params3] at ht
  have hm : t ∈ [25, 9] := by simpa using Array.mem_of_getElem? ht
  have hall : ([25, 9].all fun u => !Tryd.prog.wantsStandIn u) = true := by kernel_rfl
  exact (show Tryd.prog.wantsStandIn t = false by simpa using List.all_eq_true.1 hall t hm)
theorem maskWrites_card : Rows.MaskWritesCardSaid :=
  Claim7.holds_tied_plain_at .later [] _ _ _ _ maskWrites_holds (fun _ h => by cases h) (by kernel_rfl) (fun _ h => by cases h) maskWrites_row_tie rfl ⟨rfl, rfl⟩ (by kernel_rfl) rfl maskWrites_plain (by kernel_rfl)

end Go.Proofs.YtgcnfcgnkfkpeaaDoor
