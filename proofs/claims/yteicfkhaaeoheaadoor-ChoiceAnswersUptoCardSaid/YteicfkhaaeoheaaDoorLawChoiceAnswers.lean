/- farlaw.ChoiceAnswers returns true for every input of bulk at most 1048576, and each argument reads as it read. -/
import Derived.Test.YteicfkhaaeoheaaDoorCardM
import Derived.Test.YteicfkhaaeoheaaDoorLawTr
import Derived.Test.YteicfkhaaeoheaaDoorAns2
namespace Go.Proofs.YteicfkhaaeoheaaDoor
open Go Go.RowKit Go.Fw Go.Sx Go.ChangeShapes Go.WideShapes Go.ChangeAt
set_option maxRecDepth 100000
set_option maxHeartbeats 2000000
attribute [local irreducible] SW SL SQ AtQ SV SC BB LD PK Yields SO SOT SOA SY

theorem own : ownKnob Tryd.prog.godebug = none := by kernel_rfl
theorem laidOut : laidOutB Tryd.prog = true := by kernel_rfl
abbrev A9 := ByteArray
abbrev en9 : A9 → List Value := fun z => [.string z]
abbrev ok9 : World → A9 → Prop := fun _ z => z.size ≤ maxLen
abbrev bk9 : A9 → Nat := fun z => z.size
theorem tr9 : Tr Tryd.prog 9 A9 en9 ok9 bk9 := Tr.str Tryd.underlying9 (by kernel_rfl)
abbrev A31 := Rx A9
abbrev en31 : A31 → List Value := fun x => [rxV x]
abbrev ok31 : World → A31 → Prop := fun W x => x.2.2.length ≤ x.2.1 ∧ x.2.2.length ≤ maxLen ∧ At W x.1 (x.2.2.flatMap en9) ∧ ∀ y ∈ x.2.2, ok9 W y
abbrev bk31 : A31 → Nat := fun x => (x.2.2.map fun y => bk9 y + 1).sum
theorem tr31 : Tr Tryd.prog 31 A31 en31 ok31 bk31 := Tr.slice tr9 Tryd.underlying31 (by kernel_rfl) (of_decide_eq_true (by kernel_rfl))
theorem choiceAnswers_sv (G : Ctx) (m : Int) (hm : ∀ H w, Holds G H w → w.cell? ⟨2, 0, none⟩ = some (.int .i64 m)) (L : List ByteArray) (d : ByteArray) (a : Option Addr) (n c : Nat) [h1 : ∀ H, RdC G H a (Go.Fw.strs L)] (hn : n = L.length) (hmn : n ≤ maxLen) (hz : ∀ x ∈ L, x.size ≤ maxLen) (hd : d.size ≤ 1048576) : SV Tryd.prog G 4 [.slice a n c, .string d] [] (.bool true) := by
  obtain ⟨r1, r2, r3, c1, c2⟩ : ∃ (r1 r2 : ByteArray) (r3 : Int), (∀ H, SV Tryd.prog G 17 [.slice a n c, .string d] H (.tuple #[.string r1, .string r2, .int .i64 r3])) ∧ (∀ H, SV Tryd.prog G 18 [.slice a n c, .string d] H (.tuple #[.string r1, .string r2, .int .i64 r3])) := by
    by_cases h : formD d
    · exact ⟨_, _, _, fun H => answer_yes G H m (hm H) L d a n c hn hmn hz (by omega) h, fun H => chosen_yes G H L d a n c hn hmn hz (by omega) h⟩
    · exact ⟨_, _, _, fun H => answer_no G H L d a n c h, fun H => chosen_no G H L d a n c h⟩
  clear hn hmn hz hd hm
  refine sv_enter2 Tryd.func4 rfl rfl rfl rfl rfl ?_
  repeat' (first | (apply g_sl; first | (apply ks_nil; refine sl_nil ?_) | (apply ks_move; refine s_move rfl rfl ?_) | (apply ks_bin; refine s_bin rfl rfl rfl ?_; first | refine bb_seq ?_ | (first | refine bb_of rfl ?_)) | (apply ks_asgn; refine s_asgn rfl rfl ?_) | (apply ks_pick; refine s_pick rfl rfl ?_; first | (apply kp_t; refine pk_t rfl ?_) | (apply kp_f; refine pk_f rfl ?_) | refine pk_s rfl rfl ?_) | (apply ks_extr; refine s_extr (y_extract rfl rfl rfl) rfl ?_) | (apply ks_fn; first | first | refine c_callv rfl rfl rfl (c1 _) rfl rfl ?_ | refine c_callv rfl rfl rfl (c2 _) rfl rfl ?_) | (apply ks_guard; first | (refine sl_gd rfl rfl rfl rfl ?_; first | (apply gd_t) | (apply gd_ft) | (apply gd_tf) | (apply gd_dec_t <;> intro hq <;> (try (exfalso; omega))) | (apply gd_dec_f <;> intro hq <;> (try (exfalso; omega))) | (apply gd_beq_t <;> intro hq <;> (try (exfalso; omega))) | (apply gd_beq_f <;> intro hq <;> (try (exfalso; omega))) | (apply gd_bne_t <;> intro hq <;> (try (exfalso; omega))) | (apply gd_bne_f <;> intro hq <;> (try (exfalso; omega))) | (apply gd_not_t <;> intro hq) | (apply gd_not_f <;> intro hq) | (apply gd_raw_t <;> intro hq) | (apply gd_raw_f <;> intro hq)) | refine sl_skip_u rfl rfl rfl rfl rfl rfl ?_) | refine bb_seq ?_) | (apply sw_seq) | (apply at_srd) | (apply sw_skip) | (apply sw_ret) | (apply sw_exit) | (apply sw_block) | (apply sw_region) | (refine sw_cd rfl ?_; first | (apply gd_t) | (apply gd_ft) | (apply gd_tf) | (apply gd_dec_t <;> intro hq <;> (try (exfalso; omega))) | (apply gd_dec_f <;> intro hq <;> (try (exfalso; omega))) | (apply gd_beq_t <;> intro hq <;> (try (exfalso; omega))) | (apply gd_beq_f <;> intro hq <;> (try (exfalso; omega))) | (apply gd_bne_t <;> intro hq <;> (try (exfalso; omega))) | (apply gd_bne_f <;> intro hq <;> (try (exfalso; omega))) | (apply gd_not_t <;> intro hq) | (apply gd_not_f <;> intro hq) | (apply gd_raw_t <;> intro hq) | (apply gd_raw_f <;> intro hq)) | (apply at_thn) | (apply at_thn_ret) | (apply at_thn_exit) | (apply at_inb) | (apply at_inb_ret) | (apply at_inb_exit) | refine at_inb_pass rfl ?_ | refine c_drawn (by kernel_rfl) ?_)
  all_goals first | exact absurd rfl (by assumption) | (refine e_sv (by first | exact .inl rfl | exact .inr rfl) rfl (List.nil_sublist _) ?_; simp [resV])
theorem choiceAnswers_walk (W : World) (y0 : A31) (o0 : ok31 W y0) (y1 : A9) (o1 : ok9 W y1) (hb : bk31 y0 + bk9 y1 ≤ 1048576) (_ : laidMetH Tryd.prog Rows.choiceAnswersRow.laid W) (hS : W.ShapedOpen Tryd.prog) : Calls Tryd.prog 4 #[rxV y0, .string y1] W fun e w' => e = .returned (.bool true) ∧ Below W.heap.size W w' := by
  obtain ⟨a, c, xs⟩ := y0
  obtain ⟨hc, hm, hA, hz⟩ := o0
  obtain ⟨m, hM⟩ := maxLen_cell W hS
  have hd : y1.size ≤ 1048576 := by have h1 : (xs.map fun y : ByteArray => y.size + 1).sum + y1.size ≤ 1048576 := hb; omega
  have hA' : At W a (Go.Fw.strs xs) := by
    have e : xs.flatMap en9 = Go.Fw.strs xs := fm_map _ xs
    rw [← e]; exact hA
  haveI : ∀ H, RdC ⟨W.heap.size, W⟩ H a (Go.Fw.strs xs) := fun H => RdC.top hA'
  exact calls_of_sv (choiceAnswers_sv _ m hM xs y1 a xs.length c rfl hm hz hd)

set_option maxRecDepth 100000 in
theorem choiceAnswers_law {H : Type} (enc : TypeId × Value → H) (W : World) {base : Nat} {v0 v1 : Value} {d0 d1 : DataW H} {p0 p1 : List MemPlace}
    (k0 : Value.okWide Tryd.prog W .any base 31 v0) (h0 : DataW.Trod enc Tryd.prog W 0 (fun _ => true) true 31 v0 d0 p0)
    (k1 : Value.okWide Tryd.prog W .any base 9 v1) (h1 : DataW.Trod enc Tryd.prog W 0 (fun _ => true) true 9 v1 d1 p1)
    (hk : Rows.uptoSmall H [d0, d1] = true)
    (hL : laidMetH Tryd.prog Rows.choiceAnswersUptoRow.laid W) (hS : W.ShapedOpen Tryd.prog)
    : Calls Tryd.prog 4 #[v0, v1] W fun e w' => e = .returned (.bool true) ∧ Below W.heap.size W w' := by
  obtain ⟨y0, rfl, o0, b0⟩ := tr_slice Tryd.underlying31 tr31 k0 h0
  obtain ⟨y1, rfl, o1, b1⟩ := tr_str Tryd.underlying9 tr9 k1 h1
  have hb := bulk_all hk
  simp only [Rows.uptoBulkAll] at hb
  exact choiceAnswers_walk W y0 o0 y1 o1 (by omega) hL hS

set_option maxRecDepth 100000 in
theorem choiceAnswers_contract (H : Type) (enc : TypeId × Value → H) (W : World) (base : Nat) (args : Array Value) (ds gs : List (DataW H)) (before : List MemPlace)
    (hval : ∀ (j : Nat) t v, Tryd.f4.params[j]? = some t → args[j]? = some v → Value.okWide Tryd.prog W .any base t v)
    (hW : DataW.Whole enc Tryd.prog Tryd.f4.params.toList Rows.choiceAnswersSpec.vars false W args.toList ds gs before) (hk : Rows.uptoSmall H (ds ++ gs) = true) (hL : laidMetH Tryd.prog Rows.choiceAnswersUptoRow.laid W) (hS : W.ShapedOpen Tryd.prog) :
    Calls Tryd.prog 4 args W fun e W' => ∃ v, e = .returned v ∧ Rows.choiceAnswersSpec.post enc Tryd.prog Tryd.f4 false true false false W args v W' := by
  have hW' := hW
  obtain ⟨p, q, hA0, hV, rfl, hfz, hnd⟩ := hW'
  have hA : DataW.TrodAll enc Tryd.prog W 0 (fun _ => true) true Tryd.f4.params.toList args.toList ds p := hA0
  rw [Tryd.params4] at hA hval
  obtain ⟨v0, vs0, d0, ds0, p0, q0, hargs, rfl, rfl, h0, r0⟩ := trodAll_cons hA
  obtain ⟨v1, vs1, d1, ds1, p1, q1, rfl, rfl, rfl, h1, r1⟩ := trodAll_cons r0
  obtain ⟨rfl, rfl, rfl⟩ := trodAll_nil r1
  obtain rfl : args = #[v0, v1] := by cases args; simp_all
  obtain ⟨rfl, rfl⟩ := trodVars_none hV
  clear hA0
  have k0 := hval 0 31 v0 rfl rfl
  have k1 := hval 1 9 v1 rfl rfl
  simp only [List.append_nil] at hk
  refine (choiceAnswers_law enc W k0 h0 k1 h1 hk hL hS).mono fun e W' ⟨he, hg⟩ => ?_
  subst he
  exact ⟨_, rfl, law_post (s := Rows.choiceAnswersSpec) laidOut (by kernel_rfl) rfl Tryd.underlying4 rfl hW rfl hg⟩

noncomputable def choiceAnswers_world (os : Os) : World := { World.holding Tryd.prog os ⟨#[], #[], []⟩ with heap := (((World.holding Tryd.prog os ⟨#[], #[], []⟩).heap.modify 1 fun | .cells _ t frozen => .cells (dCells Rows.laid_unicode_utf8_acceptRanges).toArray t frozen | o => o).modify 0 fun | .cells _ t frozen => .cells (dCells Rows.laid_unicode_utf8_first).toArray t frozen | o => o) }
theorem choiceAnswers_met (os : Os) : laidMet Tryd.prog Rows.choiceAnswersUptoRow.laid ((choiceAnswers_world os).forCall (fun _ _ => 0) ⟨#[], #[.slice none 0 0, .string .empty], []⟩).memory := laidMet_of_run' 12 (by kernel_rfl) (by kernel_rfl)
theorem choiceAnswers_reads (os : Os) {H : Type} (enc : TypeId × Value → H) : ∃ places, DataW.whole enc Tryd.prog ((choiceAnswers_world os).forCall (fun _ _ => 0) ⟨#[], #[.slice none 0 0, .string .empty], []⟩).memory Tryd.f4.params.toList Rows.choiceAnswersSpec.vars false (#[.slice none 0 0, .string .empty] : Array Value).toList 12 = some ([.nil, .lit (.string [])], [], places) := ⟨[], by kernel_rfl⟩
set_option maxRecDepth 100000 in
theorem choiceAnswers_lifted (os : Os) (started : os.Started) (H : Type) (enc : TypeId × Value → H) (F : Stop.Interp) :
    ReturnsInHanded {} Tryd.checked os 4 .any ((Rows.OpenSpec.upto Rows.choiceAnswersSpec).preRow enc Tryd.prog Tryd.f4 Rows.choiceAnswersUptoRow.domain false Rows.choiceAnswersUptoRow.laid) (((Rows.OpenSpec.upto Rows.choiceAnswersSpec).at F).post enc Tryd.prog Tryd.f4 false true false false) := by
  obtain ⟨places, hx⟩ := choiceAnswers_reads os enc
  refine returnsInHanded_of_row (C := Tryd.checked) (s := Rows.OpenSpec.upto Rows.choiceAnswersSpec) own started (by kernel_rfl) Tryd.func4
    (witness_row_at (enc := enc) (C := Tryd.checked) false (choiceAnswers_world os) #[.slice none 0 0, .string .empty] rfl (by kernel_rfl) (by kernel_rfl) (by kernel_rfl)
      (OpenSpec.preRow_of_cond 12 hx (by kernel_rfl) (fun k hk => by cases hk; kernel_rfl) (by kernel_rfl) (choiceAnswers_met os))) ?_
  intro W base args ds gs before hval hW _ hk _ hL hS _
  exact choiceAnswers_contract H enc W base args ds gs before hval hW (hk _ rfl) hL hS

theorem choiceAnswers_holds : Rows.ChoiceAnswersUptoSaid :=
  OpenClaim.holds_of_cond 4 Tryd.f4 rfl rfl rfl rfl rfl rfl rfl ⟨rfl, rfl, rfl, rfl, rfl⟩ rfl rfl rfl rfl rfl (by kernel_rfl) Tryd.func4 (by kernel_rfl)
    (of_decide_eq_true (by kernel_rfl)) (by unfold Func.isWrapper; first | (rw [if_pos (by decide +kernel)]; kernel_rfl) | (rw [if_neg (by decide +kernel)]; exact ⟨rfl, rfl⟩))
    (fun os started H enc _ F => by rw [OpenClaim.pre_eq_preRow]; exact choiceAnswers_lifted os started H enc F)
theorem choiceAnswers_plain (f : FuncId) (fn : Func) (hf : Tryd.pinned.checked.prog.funcNamed "farwriter/farlaw.ChoiceAnswers" = some f) (hfn : Tryd.pinned.checked.prog.funcs[f]? = some fn) :
    false = Tryd.pinned.checked.prog.looks [] ∧ ∀ (j : Nat) t, fn.params[j]? = some t → Tryd.pinned.checked.prog.wantsStandIn t = false := by
  obtain rfl : f = 4 := Option.some.inj ((show Tryd.prog.funcNamed "farwriter/farlaw.ChoiceAnswers" = some 4 by kernel_rfl).symm.trans hf) |>.symm
  obtain rfl : fn = Tryd.f4 := (Option.some.inj (Tryd.func4.symm.trans hfn)).symm
  refine ⟨by kernel_rfl, fun j t ht => ?_⟩
  rw [Tryd.params4] at ht
  have hm : t ∈ [31, 9] := by simpa using Array.mem_of_getElem? ht
  have hall : ([31, 9].all fun u => !Tryd.prog.wantsStandIn u) = true := by kernel_rfl
  exact (show Tryd.prog.wantsStandIn t = false by simpa using List.all_eq_true.1 hall t hm)
theorem choiceAnswers_card : Rows.ChoiceAnswersUptoCardSaid :=
  Claim7.holds_tied_plain_at .later [] _ _ _ _ choiceAnswers_holds (fun _ h => by cases h) (by kernel_rfl) (fun _ h => by cases h) choiceAnswersUpto_row_tie rfl ⟨rfl, rfl⟩ (by kernel_rfl) rfl choiceAnswers_plain (by kernel_rfl)

end Go.Proofs.YteicfkhaaeoheaaDoor
