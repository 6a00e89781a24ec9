/- farlaw.UtfFeeds returns true for every input of bulk at most 1048576, and each argument reads as it read. -/
import Derived.Test.YteicfkhaaeoheaaDoorCardU
import Derived.Test.YteicfkhaaeoheaaDoorLawTr
import Derived.Test.YteicfkhaaeoheaaDoorUtf8
import Derived.Test.YteicfkhaaeoheaaDoorEqF
namespace Go.Proofs.YteicfkhaaeoheaaDoor
open Go Go.RowKit Go.Fw Go.Sx Go.ChangeShapes Go.WideShapes Go.ChangeAt
set_option maxRecDepth 100000
set_option maxHeartbeats 2000000
attribute [local irreducible] SW SL SQ AtQ SV SC BB LD PK Yields SO SOT SOA SY

theorem own : ownKnob Tryd.prog.godebug = none := by kernel_rfl
theorem laidOut : laidOutB Tryd.prog = true := by kernel_rfl
abbrev A9 := ByteArray
abbrev en9 : A9 → List Value := fun z => [.string z]
abbrev ok9 : World → A9 → Prop := fun _ z => z.size ≤ maxLen
abbrev bk9 : A9 → Nat := fun z => z.size
theorem tr9 : Tr Tryd.prog 9 A9 en9 ok9 bk9 := Tr.str Tryd.underlying9 (by kernel_rfl)
theorem eqI2_sv (G : Ctx) (H : List Ent) (L : List Int) (a a2 : Option Addr) (n m c c2 : Nat) {vs us : List Value} [h1 : RdC G H a vs] [h2 : RdC G H a2 us] (hv : vs = ints L) (hu : us = ints L) (hn : n = L.length) (hn2 : m = L.length) (hm : L.length ≤ maxLen) : SV Tryd.prog G 16 [.slice a n c, .slice a2 m c2] H (.bool true) := by
  subst hv
  subst hu
  have h : ∀ w, Holds G H w → Calls Tryd.prog 16 #[.slice a n c, .slice a2 m c2] w fun e w' => e = .returned (.bool (decide (L = L))) ∧ Below w.heap.size w w' := fun w hw => eqInts_any L L a a2 _ _ c c2 w hn hn2 hm hm (h1.here w hw) (h2.here w hw)
  rw [decide_eq_true rfl] at h
  exact sv_of_calls (callee_of Tryd.func16 rfl rfl) h
theorem run_len : ∀ (m : Nat) (l : List Int), (runU m l).2.length ≤ m
  | 0, l => Nat.le_refl _
  | m + 1, l => by
    rw [runU]
    split
    · exact Nat.zero_le _
    · split
      · exact Nat.zero_le _
      · rename_i p _
        have := run_len m (l.drop p.2)
        simp; omega
theorem utfFeeds_sv (G : Ctx) (hT : ∀ H w, Holds G H w → Lib.Utf8Tabs 0 1 w) (p s : ByteArray) (hp : p.size ≤ 1048576) (hs : s.size ≤ 1048576) : SV Tryd.prog G 3 [.string p, .string s] [] (.bool true) := by
  have c1 := fun H => feed_sc G H hT p s (by omega) (by omega)
  have c2 := fun H => partRight_sv G H p (by omega)
  have c3 := fun H => utfCheck_sv G H p (by omega)
  have hz : (p ++ s).size ≤ 4000000 := by rw [ByteArray.size_append]; omega
  have c4 := fun H => unrune_sc G H (p ++ s) hz
  have hcat : p.size + s.size ≤ 9223372036854775807 := by omega
  have hrl := run_len (p ++ s).size (nums (p ++ s))
  have hfe : feedU p s = if chkU (nums p) ≠ 0 then (⟨#[]⟩, [], chkU (nums p)) else (strOfNums (runU (p ++ s).size (nums (p ++ s))).1, (runU (p ++ s).size (nums (p ++ s))).2, 0) := rfl
  generalize feedU p s = F at *
  obtain ⟨t, ht⟩ : ∃ t, p ++ s = t := ⟨_, rfl⟩
  rw [ht] at c4 hrl hfe hz
  generalize runU t.size (nums t) = R at *
  obtain ⟨R1, R2⟩ := R
  dsimp only at c4 hrl hfe
  generalize chkU (nums p) = q at *
  generalize strOfNums R1 = w at *
  have c5 := fun (H : List Ent) (a b : Option Addr) (c d : Nat) (h1 : RdC G H a (ints R2)) (h2 : RdC G H b (ints R2)) => eqI2_sv G H R2 a b R2.length R2.length c d rfl rfl rfl rfl (by unfold maxLen; omega)
  clear hT hp hs
  by_cases hq0 : q ≠ 0
  · rw [if_pos hq0] at hfe
    subst hfe
    dsimp only at c1
    refine sv_enter2 Tryd.func3 rfl rfl rfl rfl rfl ?_
    repeat' (first | (apply g_sl; first | (apply ks_nil; refine sl_nil ?_) | (apply ks_move; refine s_move rfl rfl ?_) | (apply ks_bin; refine s_bin rfl rfl rfl ?_; first | first | refine bb_seq ?_ | refine bb_sne ?_ | (first | (apply kb_add; first | refine bb_add ⟨by omega, by omega⟩ ?_ | refine bb_of rfl ?_) | refine bb_of rfl ?_)) | (apply ks_asgn; refine s_asgn rfl rfl ?_) | (apply ks_pick; refine s_pick rfl rfl ?_; first | (apply kp_t; refine pk_t rfl ?_) | (apply kp_f; refine pk_f rfl ?_) | refine pk_s rfl rfl ?_) | (apply ks_extr; refine s_extr (y_extract rfl rfl rfl) rfl ?_) | (apply ks_fn; first | first | (refine c_call rfl rfl rfl (c1 _) rfl rfl ?_; rintro _ _ ⟨a1, d1, rfl, rfl⟩) | refine c_callv rfl rfl rfl (c2 _) rfl rfl ?_ | refine c_callv rfl rfl rfl (c3 _) rfl rfl ?_) | (apply ks_bi; first | first | refine bb_seq ?_ | refine bb_sne ?_ | refine s_call (c_len rfl rfl) rfl ?_ | refine s_call (c_len_str rfl rfl) rfl ?_ | refine s_call (c_bi rfl rfl rfl rfl) rfl ?_ | refine c_append rfl rfl rfl rfl (by first | rfl | simp [ints]) (by first | rfl | exact ints_one _ | exact octs_one _ | exact strs_one _) (by omega) rfl rfl (fun _ _ => ?_) | refine c_append_nil rfl rfl rfl rfl (by first | rfl | simp [ints]) (by first | rfl | exact ints_one _ | exact octs_one _ | exact strs_one _) (by omega) rfl rfl (fun _ _ => ?_)) | (apply ks_guard; first | (refine sl_gd rfl rfl rfl rfl ?_; first | (apply gd_t) | (apply gd_ft) | (apply gd_tf) | (apply gd_dec_t <;> intro hq <;> (try (exfalso; omega))) | (apply gd_dec_f <;> intro hq <;> (try (exfalso; omega))) | (apply gd_beq_t <;> intro hq <;> (try (exfalso; omega))) | (apply gd_beq_f <;> intro hq <;> (try (exfalso; omega))) | (apply gd_bne_t <;> intro hq <;> (try (exfalso; omega))) | (apply gd_bne_f <;> intro hq <;> (try (exfalso; omega))) | (apply gd_not_t <;> intro hq) | (apply gd_not_f <;> intro hq) | (apply gd_raw_t <;> intro hq) | (apply gd_raw_f <;> intro hq)) | refine sl_skip_u rfl rfl rfl rfl rfl rfl ?_) | first | refine bb_seq ?_ | refine bb_sne ?_) | (apply sw_seq) | (apply at_srd) | (apply sw_skip) | (apply sw_ret) | (apply sw_exit) | (apply sw_block) | (apply sw_region) | (refine sw_cd rfl ?_; first | (apply gd_t) | (apply gd_ft) | (apply gd_tf) | (apply gd_dec_t <;> intro hq <;> (try (exfalso; omega))) | (apply gd_dec_f <;> intro hq <;> (try (exfalso; omega))) | (apply gd_beq_t <;> intro hq <;> (try (exfalso; omega))) | (apply gd_beq_f <;> intro hq <;> (try (exfalso; omega))) | (apply gd_bne_t <;> intro hq <;> (try (exfalso; omega))) | (apply gd_bne_f <;> intro hq <;> (try (exfalso; omega))) | (apply gd_not_t <;> intro hq) | (apply gd_not_f <;> intro hq) | (apply gd_raw_t <;> intro hq) | (apply gd_raw_f <;> intro hq)) | (apply at_thn) | (apply at_thn_ret) | (apply at_thn_exit) | (apply at_inb) | (apply at_inb_ret) | (apply at_inb_exit) | refine at_inb_pass rfl ?_ | refine c_drawn (by kernel_rfl) ?_)
    all_goals first | exact absurd (by assumption) hq0 | exact absurd rfl (by assumption) | (refine e_sv (by first | exact .inl rfl | exact .inr rfl) rfl (List.nil_sublist _) ?_; simp [resV])
  · rw [if_neg hq0] at hfe
    have hq := Classical.not_not.1 hq0
    subst hq
    subst hfe
    dsimp only at c1
    clear hq0
    refine sv_enter2 Tryd.func3 rfl rfl rfl rfl rfl ?_
    repeat' (first | (apply g_sl; first | (apply ks_nil; refine sl_nil ?_) | (apply ks_move; refine s_move rfl rfl ?_) | (apply ks_bin; refine s_bin rfl rfl rfl ?_; first | first | (refine bb_catV ht hcat ?_) | refine bb_seq ?_ | refine bb_sne ?_ | (first | (apply kb_add; first | refine bb_add ⟨by omega, by omega⟩ ?_ | refine bb_of rfl ?_) | refine bb_of rfl ?_)) | (apply ks_asgn; refine s_asgn rfl rfl ?_) | (apply ks_pick; refine s_pick rfl rfl ?_; first | (apply kp_t; refine pk_t rfl ?_) | (apply kp_f; refine pk_f rfl ?_) | refine pk_s rfl rfl ?_) | (apply ks_extr; refine s_extr (y_extract rfl rfl rfl) rfl ?_) | (apply ks_fn; first | first | (refine c_call rfl rfl rfl (c1 _) rfl rfl ?_; rintro _ _ ⟨a1, d1, rfl, rfl⟩) | refine c_callv rfl rfl rfl (c2 _) rfl rfl ?_ | refine c_callv rfl rfl rfl (c3 _) rfl rfl ?_ | (refine c_call rfl rfl rfl (c4 _) rfl rfl ?_; rintro _ _ ⟨a4, d4, rfl, rfl⟩) | refine c_callv rfl rfl rfl (c5 _ _ _ _ _ inferInstance inferInstance) rfl rfl ?_) | (apply ks_bi; first | first | (refine bb_catV ht hcat ?_) | refine bb_seq ?_ | refine bb_sne ?_ | refine s_call (c_len rfl rfl) rfl ?_ | refine s_call (c_len_str rfl rfl) rfl ?_ | refine s_call (c_bi rfl rfl rfl rfl) rfl ?_ | refine c_append rfl rfl rfl rfl (by first | rfl | simp [ints]) (by first | rfl | exact ints_one _ | exact octs_one _ | exact strs_one _) (by omega) rfl rfl (fun _ _ => ?_) | refine c_append_nil rfl rfl rfl rfl (by first | rfl | simp [ints]) (by first | rfl | exact ints_one _ | exact octs_one _ | exact strs_one _) (by omega) rfl rfl (fun _ _ => ?_)) | (apply ks_guard; first | (refine sl_gd rfl rfl rfl rfl ?_; first | (apply gd_t) | (apply gd_ft) | (apply gd_tf) | (apply gd_dec_t <;> intro hq <;> (try (exfalso; omega))) | (apply gd_dec_f <;> intro hq <;> (try (exfalso; omega))) | (apply gd_beq_t <;> intro hq <;> (try (exfalso; omega))) | (apply gd_beq_f <;> intro hq <;> (try (exfalso; omega))) | (apply gd_bne_t <;> intro hq <;> (try (exfalso; omega))) | (apply gd_bne_f <;> intro hq <;> (try (exfalso; omega))) | (apply gd_not_t <;> intro hq) | (apply gd_not_f <;> intro hq) | (apply gd_raw_t <;> intro hq) | (apply gd_raw_f <;> intro hq)) | refine sl_skip_u rfl rfl rfl rfl rfl rfl ?_) | first | (refine bb_catV ht hcat ?_) | refine bb_seq ?_ | refine bb_sne ?_) | (apply sw_seq) | (apply at_srd) | (apply sw_skip) | (apply sw_ret) | (apply sw_exit) | (apply sw_block) | (apply sw_region) | (refine sw_cd rfl ?_; first | (apply gd_t) | (apply gd_ft) | (apply gd_tf) | (apply gd_dec_t <;> intro hq <;> (try (exfalso; omega))) | (apply gd_dec_f <;> intro hq <;> (try (exfalso; omega))) | (apply gd_beq_t <;> intro hq <;> (try (exfalso; omega))) | (apply gd_beq_f <;> intro hq <;> (try (exfalso; omega))) | (apply gd_bne_t <;> intro hq <;> (try (exfalso; omega))) | (apply gd_bne_f <;> intro hq <;> (try (exfalso; omega))) | (apply gd_not_t <;> intro hq) | (apply gd_not_f <;> intro hq) | (apply gd_raw_t <;> intro hq) | (apply gd_raw_f <;> intro hq)) | (apply at_thn) | (apply at_thn_ret) | (apply at_thn_exit) | (apply at_inb) | (apply at_inb_ret) | (apply at_inb_exit) | refine at_inb_pass rfl ?_ | refine c_drawn (by kernel_rfl) ?_)
    all_goals first | exact absurd rfl (by assumption) | (refine e_sv (by first | exact .inl rfl | exact .inr rfl) rfl (List.nil_sublist _) ?_; simp [resV])
theorem utfFeeds_walk (W : World) (y0 : A9) (_ : ok9 W y0) (y1 : A9) (_ : ok9 W y1) (hb : bk9 y0 + bk9 y1 ≤ 1048576) (hL : laidMetH Tryd.prog Rows.utfFeedsRow.laid W) (_ : W.ShapedOpen Tryd.prog) : Calls Tryd.prog 3 #[.string y0, .string y1] W fun e w' => e = .returned (.bool true) ∧ Below W.heap.size W w' := by
  have hL' : laidMet Tryd.prog Rows.utfFeedsRow.laid W := hL
  have hT := u8_hold (u8Tabs hL' (.tail _ (.head _)) (.head _))
  have hb' : ByteArray.size y0 + ByteArray.size y1 ≤ 1048576 := hb
  exact calls_of_sv (utfFeeds_sv _ hT y0 y1 (by omega) (by omega))

set_option maxRecDepth 100000 in
theorem utfFeeds_law {H : Type} (enc : TypeId × Value → H) (W : World) {base : Nat} {v0 v1 : Value} {d0 d1 : DataW H} {p0 p1 : List MemPlace}
    (k0 : Value.okWide Tryd.prog W .any base 9 v0) (h0 : DataW.Trod enc Tryd.prog W 0 (fun _ => true) true 9 v0 d0 p0)
    (k1 : Value.okWide Tryd.prog W .any base 9 v1) (h1 : DataW.Trod enc Tryd.prog W 0 (fun _ => true) true 9 v1 d1 p1)
    (hk : Rows.uptoSmall H [d0, d1] = true)
    (hL : laidMetH Tryd.prog Rows.utfFeedsUptoRow.laid W) (hS : W.ShapedOpen Tryd.prog)
    : Calls Tryd.prog 3 #[v0, v1] W fun e w' => e = .returned (.bool true) ∧ Below W.heap.size W w' := by
  obtain ⟨y0, rfl, o0, b0⟩ := tr_str Tryd.underlying9 tr9 k0 h0
  obtain ⟨y1, rfl, o1, b1⟩ := tr_str Tryd.underlying9 tr9 k1 h1
  have hb := bulk_all hk
  simp only [Rows.uptoBulkAll] at hb
  exact utfFeeds_walk W y0 o0 y1 o1 (by omega) hL hS

set_option maxRecDepth 100000 in
theorem utfFeeds_contract (H : Type) (enc : TypeId × Value → H) (W : World) (base : Nat) (args : Array Value) (ds gs : List (DataW H)) (before : List MemPlace)
    (hval : ∀ (j : Nat) t v, Tryd.f3.params[j]? = some t → args[j]? = some v → Value.okWide Tryd.prog W .any base t v)
    (hW : DataW.Whole enc Tryd.prog Tryd.f3.params.toList Rows.utfFeedsSpec.vars false W args.toList ds gs before) (hk : Rows.uptoSmall H (ds ++ gs) = true) (hL : laidMetH Tryd.prog Rows.utfFeedsUptoRow.laid W) (hS : W.ShapedOpen Tryd.prog) :
    Calls Tryd.prog 3 args W fun e W' => ∃ v, e = .returned v ∧ Rows.utfFeedsSpec.post enc Tryd.prog Tryd.f3 false true false false W args v W' := by
  have hW' := hW
  obtain ⟨p, q, hA0, hV, rfl, hfz, hnd⟩ := hW'
  have hA : DataW.TrodAll enc Tryd.prog W 0 (fun _ => true) true Tryd.f3.params.toList args.toList ds p := hA0
  rw [Tryd.params3] at hA hval
  obtain ⟨v0, vs0, d0, ds0, p0, q0, hargs, rfl, rfl, h0, r0⟩ := trodAll_cons hA
  obtain ⟨v1, vs1, d1, ds1, p1, q1, rfl, rfl, rfl, h1, r1⟩ := trodAll_cons r0
  obtain ⟨rfl, rfl, rfl⟩ := trodAll_nil r1
  obtain rfl : args = #[v0, v1] := by cases args; simp_all
  obtain ⟨rfl, rfl⟩ := trodVars_none hV
  clear hA0
  have k0 := hval 0 9 v0 rfl rfl
  have k1 := hval 1 9 v1 rfl rfl
  simp only [List.append_nil] at hk
  refine (utfFeeds_law enc W k0 h0 k1 h1 hk hL hS).mono fun e W' ⟨he, hg⟩ => ?_
  subst he
  exact ⟨_, rfl, law_post (s := Rows.utfFeedsSpec) laidOut (by kernel_rfl) rfl Tryd.underlying4 rfl hW rfl hg⟩

noncomputable def utfFeeds_world (os : Os) : World := { World.holding Tryd.prog os ⟨#[], #[], []⟩ with heap := (((World.holding Tryd.prog os ⟨#[], #[], []⟩).heap.modify 1 fun | .cells _ t frozen => .cells (dCells Rows.laid_unicode_utf8_acceptRanges).toArray t frozen | o => o).modify 0 fun | .cells _ t frozen => .cells (dCells Rows.laid_unicode_utf8_first).toArray t frozen | o => o) }
theorem utfFeeds_met (os : Os) : laidMet Tryd.prog Rows.utfFeedsUptoRow.laid ((utfFeeds_world os).forCall (fun _ _ => 0) ⟨#[], #[.string .empty, .string .empty], []⟩).memory := laidMet_of_run' 12 (by kernel_rfl) (by kernel_rfl)
theorem utfFeeds_reads (os : Os) {H : Type} (enc : TypeId × Value → H) : ∃ places, DataW.whole enc Tryd.prog ((utfFeeds_world os).forCall (fun _ _ => 0) ⟨#[], #[.string .empty, .string .empty], []⟩).memory Tryd.f3.params.toList Rows.utfFeedsSpec.vars false (#[.string .empty, .string .empty] : Array Value).toList 12 = some ([.lit (.string []), .lit (.string [])], [], places) := ⟨[], by kernel_rfl⟩
set_option maxRecDepth 100000 in
theorem utfFeeds_lifted (os : Os) (started : os.Started) (H : Type) (enc : TypeId × Value → H) (F : Stop.Interp) :
    ReturnsInHanded {} Tryd.checked os 3 .any ((Rows.OpenSpec.upto Rows.utfFeedsSpec).preRow enc Tryd.prog Tryd.f3 Rows.utfFeedsUptoRow.domain false Rows.utfFeedsUptoRow.laid) (((Rows.OpenSpec.upto Rows.utfFeedsSpec).at F).post enc Tryd.prog Tryd.f3 false true false false) := by
  obtain ⟨places, hx⟩ := utfFeeds_reads os enc
  refine returnsInHanded_of_row (C := Tryd.checked) (s := Rows.OpenSpec.upto Rows.utfFeedsSpec) own started (by kernel_rfl) Tryd.func3
    (witness_row_at (enc := enc) (C := Tryd.checked) false (utfFeeds_world os) #[.string .empty, .string .empty] rfl (by kernel_rfl) (by kernel_rfl) (by kernel_rfl)
      (OpenSpec.preRow_of_cond 12 hx (by kernel_rfl) (fun k hk => by cases hk; kernel_rfl) (by kernel_rfl) (utfFeeds_met os))) ?_
  intro W base args ds gs before hval hW _ hk _ hL hS _
  exact utfFeeds_contract H enc W base args ds gs before hval hW (hk _ rfl) hL hS

theorem utfFeeds_holds : Rows.UtfFeedsUptoSaid :=
  OpenClaim.holds_of_cond 3 Tryd.f3 rfl rfl rfl rfl rfl rfl rfl ⟨rfl, rfl, rfl, rfl, rfl⟩ rfl rfl rfl rfl rfl (by kernel_rfl) Tryd.func3 (by kernel_rfl)
    (of_decide_eq_true (by kernel_rfl)) (by unfold Func.isWrapper; first | (rw [if_pos (by decide +kernel)]; kernel_rfl) | (rw [if_neg (by decide +kernel)]; exact ⟨rfl, rfl⟩))
    (fun os started H enc _ F => by rw [OpenClaim.pre_eq_preRow]; exact utfFeeds_lifted os started H enc F)
theorem utfFeeds_plain (f : FuncId) (fn : Func) (hf : Tryd.pinned.checked.prog.funcNamed "farwriter/farlaw.UtfFeeds" = some f) (hfn : Tryd.pinned.checked.prog.funcs[f]? = some fn) :
    false = Tryd.pinned.checked.prog.looks [] ∧ ∀ (j : Nat) t, fn.params[j]? = some t → Tryd.pinned.checked.prog.wantsStandIn t = false := by
  obtain rfl : f = 3 := Option.some.inj ((show Tryd.prog.funcNamed "farwriter/farlaw.UtfFeeds" = some 3 by kernel_rfl).symm.trans hf) |>.symm
  obtain rfl : fn = Tryd.f3 := (Option.some.inj (Tryd.func3.symm.trans hfn)).symm
  refine ⟨by kernel_rfl, fun j t ht => ?_⟩
  rw [Tryd.params3] at ht
  have hm : t ∈ [9, 9] := by simpa using Array.mem_of_getElem? ht
  have hall : ([9, 9].all fun u => !Tryd.prog.wantsStandIn u) = true := by kernel_rfl
  exact (show Tryd.prog.wantsStandIn t = false by simpa using List.all_eq_true.1 hall t hm)
theorem utfFeeds_card : Rows.UtfFeedsUptoCardSaid :=
  Claim7.holds_tied_plain_at .later [] _ _ _ _ utfFeeds_holds (fun _ h => by cases h) (by kernel_rfl) (fun _ h => by cases h) utfFeedsUpto_row_tie rfl ⟨rfl, rfl⟩ (by kernel_rfl) rfl utfFeeds_plain (by kernel_rfl)

end Go.Proofs.YteicfkhaaeoheaaDoor
