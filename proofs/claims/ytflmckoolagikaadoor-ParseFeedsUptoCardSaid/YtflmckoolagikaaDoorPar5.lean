/- farref.class, stepTable, RuneText, finalAct: walks. -/
import Derived.Test.YtflmckoolagikaaDoorParP
import Derived.Test.YtflmckoolagikaaDoorSlc4
namespace Go.Proofs.YtflmckoolagikaaDoor
open Go Go.RowKit Go.Fw Go.Sx
set_option maxRecDepth 100000
set_option maxHeartbeats 1000000
attribute [local irreducible] SW SL SQ AtQ SV SC BB LD PK Yields SO SOT SOA SY SP SPT SPA
theorem class_sv (G : Ctx) (H : List Ent) (x : Int) : SV Tryd.prog G 77 [.int .i64 x] H (.int .u8 (clsL.getD (clsN x) 0)) := by
  have c1 := fun H lo hi => bet_sv G H x lo hi
  refine sv_enter1 Tryd.func77 rfl rfl rfl rfl rfl ?_
  repeat' (first | (apply g_sl; first | (apply ks_nil; refine sl_nil ?_) | (apply ks_move; refine s_move rfl rfl ?_) | (apply ks_bin; refine s_bin rfl rfl rfl ?_; first | first | (refine s_conv (c_conv (k := .u8) rfl rfl ⟨by omega, by omega⟩) rfl ?_) | (first | refine bb_of rfl ?_)) | (apply ks_asgn; refine s_asgn rfl rfl ?_) | (apply ks_pick; refine s_pick rfl rfl ?_; first | (apply kp_t; refine pk_t rfl ?_) | (apply kp_f; refine pk_f rfl ?_) | refine pk_s rfl rfl ?_) | (apply ks_conv; first | first | (refine s_conv (c_conv (k := .u8) rfl rfl ⟨by omega, by omega⟩) rfl ?_) | refine s_conv (c_conv (k := .i64) rfl rfl ⟨by omega, by omega⟩) rfl ?_ | refine s_conv (c_conv (k := .u8) rfl rfl ⟨by omega, by omega⟩) rfl ?_ | refine s_conv (c_conv (k := .u64) rfl rfl ⟨by omega, by omega⟩) rfl ?_ | refine s_conv (c_convw rfl rfl) rfl ?_) | (apply ks_fn; first | refine c_callv rfl rfl rfl (c1 _ _ _) rfl rfl ?_) | (apply ks_guard; first | (refine sl_gd rfl rfl rfl rfl ?_; first | (apply gd_t) | (apply gd_ft) | (apply gd_tf) | (apply gd_dec_t <;> intro hq <;> (try (exfalso; omega))) | (apply gd_dec_f <;> intro hq <;> (try (exfalso; omega))) | (apply gd_beq_t <;> intro hq <;> (try (exfalso; omega))) | (apply gd_beq_f <;> intro hq <;> (try (exfalso; omega))) | (apply gd_bne_t <;> intro hq <;> (try (exfalso; omega))) | (apply gd_bne_f <;> intro hq <;> (try (exfalso; omega))) | (apply gd_not_t <;> intro hq) | (apply gd_not_f <;> intro hq) | (apply gd_raw_t <;> intro hq) | (apply gd_raw_f <;> intro hq)) | refine sl_skip_u rfl rfl rfl rfl rfl rfl ?_) | first | (refine s_conv (c_conv (k := .u8) rfl rfl ⟨by omega, by omega⟩) rfl ?_)) | (apply sw_seq) | (apply at_srd) | (apply sw_skip) | (apply sw_ret) | (apply sw_exit) | (apply sw_block) | (apply sw_region) | (refine sw_cd rfl ?_; first | (apply gd_t) | (apply gd_ft) | (apply gd_tf) | (apply gd_dec_t <;> intro hq <;> (try (exfalso; omega))) | (apply gd_dec_f <;> intro hq <;> (try (exfalso; omega))) | (apply gd_beq_t <;> intro hq <;> (try (exfalso; omega))) | (apply gd_beq_f <;> intro hq <;> (try (exfalso; omega))) | (apply gd_bne_t <;> intro hq <;> (try (exfalso; omega))) | (apply gd_bne_f <;> intro hq <;> (try (exfalso; omega))) | (apply gd_not_t <;> intro hq) | (apply gd_not_f <;> intro hq) | (apply gd_raw_t <;> intro hq) | (apply gd_raw_f <;> intro hq)) | (apply at_thn) | (apply at_thn_ret) | (apply at_thn_exit) | (apply at_inb) | (apply at_inb_ret) | (apply at_inb_exit) | refine at_inb_pass rfl ?_ | refine c_drawn (by kernel_rfl) ?_)
  all_goals
    refine e_sv (by first | exact .inl rfl | exact .inr rfl) rfl (by repeat (first | exact List.Sublist.refl _ | exact List.nil_sublist _ | refine List.Sublist.cons _ ?_)) ?_
    clear c1
    unfold clsN
    (repeat (first | rw [if_pos (by first | assumption | omega)] | rw [if_neg (by first | assumption | omega)]))
    first | rfl | (subst x; rfl)
theorem stepTable_sv (G : Ctx) (H : List Ent) (s : Int) : SV Tryd.prog G 76 [.int .i64 s] H (.string (strOfNums (tabL s))) := by
  refine sv_enter1 Tryd.func76 rfl rfl rfl rfl rfl ?_
  repeat' (first | (apply g_sl; first | (apply ks_nil; refine sl_nil ?_) | (apply ks_move; refine s_move rfl rfl ?_) | (apply ks_bin; refine s_bin rfl rfl rfl ?_; first | fail | (first | refine bb_of rfl ?_)) | (apply ks_asgn; refine s_asgn rfl rfl ?_) | fail) | (apply sw_seq) | (apply at_srd) | (apply sw_skip) | (apply sw_ret) | (apply sw_exit) | (apply sw_block) | (apply sw_region) | (refine sw_cd rfl ?_; first | (apply gd_t) | (apply gd_ft) | (apply gd_tf) | (apply gd_dec_t <;> intro hq <;> (try (exfalso; omega))) | (apply gd_dec_f <;> intro hq <;> (try (exfalso; omega))) | (apply gd_beq_t <;> intro hq <;> (try (exfalso; omega))) | (apply gd_beq_f <;> intro hq <;> (try (exfalso; omega))) | (apply gd_bne_t <;> intro hq <;> (try (exfalso; omega))) | (apply gd_bne_f <;> intro hq <;> (try (exfalso; omega))) | (apply gd_not_t <;> intro hq) | (apply gd_not_f <;> intro hq) | (apply gd_raw_t <;> intro hq) | (apply gd_raw_f <;> intro hq)) | (apply at_thn) | (apply at_thn_ret) | (apply at_thn_exit) | (apply at_inb) | (apply at_inb_ret) | (apply at_inb_exit) | refine at_inb_pass rfl ?_ | refine c_drawn (by kernel_rfl) ?_)
  all_goals
    refine e_sv (by first | exact .inl rfl | exact .inr rfl) rfl (by repeat (first | exact List.Sublist.refl _ | exact List.nil_sublist _ | refine List.Sublist.cons _ ?_)) ?_
    unfold tabL
    (repeat (first | rw [if_pos (by first | assumption | omega)] | rw [if_neg (by first | assumption | omega)]))
    rfl
theorem rune_sv2 (G : Ctx) (H : List Ent) (x : Int) (hx : 0 ≤ x ∧ x ≤ 1114111) : SV Tryd.prog G 42 [.int .i64 x] H (.bool (decide (x < 55296 ∨ 57343 < x))) := by
  have c1 := fun H lo hi => bet_sv G H x lo hi
  refine sv_enter1 Tryd.func42 rfl rfl rfl rfl rfl ?_
  repeat' (first | (apply g_sl; first | (apply ks_nil; refine sl_nil ?_) | (apply ks_move; refine s_move rfl rfl ?_) | (apply ks_asgn; refine s_asgn rfl rfl ?_) | (apply ks_pick; refine s_pick rfl rfl ?_; first | (apply kp_t; refine pk_t rfl ?_) | (apply kp_f; refine pk_f rfl ?_) | refine pk_s rfl rfl ?_) | (apply ks_fn; first | refine c_callv rfl rfl rfl (c1 _ _ _) rfl rfl ?_) | (apply ks_guard; first | (refine sl_gd rfl rfl rfl rfl ?_; first | (apply gd_t) | (apply gd_ft) | (apply gd_tf) | (apply gd_dec_t <;> intro hq <;> (try (exfalso; omega))) | (apply gd_dec_f <;> intro hq <;> (try (exfalso; omega))) | (apply gd_beq_t <;> intro hq <;> (try (exfalso; omega))) | (apply gd_beq_f <;> intro hq <;> (try (exfalso; omega))) | (apply gd_bne_t <;> intro hq <;> (try (exfalso; omega))) | (apply gd_bne_f <;> intro hq <;> (try (exfalso; omega))) | (apply gd_not_t <;> intro hq) | (apply gd_not_f <;> intro hq) | (apply gd_raw_t <;> intro hq) | (apply gd_raw_f <;> intro hq)) | refine sl_skip_u rfl rfl rfl rfl rfl rfl ?_) | fail) | (apply sw_seq) | (apply at_srd) | (apply sw_skip) | (apply sw_ret) | (apply sw_exit) | (apply sw_block) | (apply sw_region) | (refine sw_cd rfl ?_; first | (apply gd_t) | (apply gd_ft) | (apply gd_tf) | (apply gd_dec_t <;> intro hq <;> (try (exfalso; omega))) | (apply gd_dec_f <;> intro hq <;> (try (exfalso; omega))) | (apply gd_beq_t <;> intro hq <;> (try (exfalso; omega))) | (apply gd_beq_f <;> intro hq <;> (try (exfalso; omega))) | (apply gd_bne_t <;> intro hq <;> (try (exfalso; omega))) | (apply gd_bne_f <;> intro hq <;> (try (exfalso; omega))) | (apply gd_not_t <;> intro hq) | (apply gd_not_f <;> intro hq) | (apply gd_raw_t <;> intro hq) | (apply gd_raw_f <;> intro hq)) | (apply at_thn) | (apply at_thn_ret) | (apply at_thn_exit) | (apply at_inb) | (apply at_inb_ret) | (apply at_inb_exit) | refine at_inb_pass rfl ?_ | refine c_drawn (by kernel_rfl) ?_)
  all_goals (try simp only [decide_eq_true_eq, decide_eq_false_iff_not] at *)
  all_goals first | (exfalso; omega) | skip
  · refine e_sv (by first | exact .inl rfl | exact .inr rfl) rfl (by repeat (first | exact List.Sublist.refl _ | exact List.nil_sublist _ | refine List.Sublist.cons _ ?_)) ?_
    exact congrArg Value.bool (decide_eq_decide.2 (by omega))
  · refine e_sv (by first | exact .inl rfl | exact .inr rfl) rfl (by repeat (first | exact List.Sublist.refl _ | exact List.nil_sublist _ | refine List.Sublist.cons _ ?_)) ?_
    exact congrArg Value.bool (decide_eq_true (by omega)).symm
theorem rbytes_sv (G : Ctx) (H : List Ent) (c : Int) (h : 0 ≤ c ∧ c ≤ 1114111) : SV Tryd.prog G 127 [.int .i64 c] H (.string (strOfNums (runeL c))) := sv_of_calls (callee_of Tryd.func127 rfl rfl) fun w _ => runeBytes_any c w h.1 h.2
theorem runeText_sv (G : Ctx) (H : List Ent) (x : Int) (hx : 0 ≤ x ∧ x ≤ 1114111) : SV Tryd.prog G 78 [.int .i64 x] H (.string (rtB x)) := by
  have c1 := fun H => rune_sv2 G H x hx
  have c2 := fun H => rbytes_sv G H x hx
  have c3 := fun H => rbytes_sv G H 65533 (by omega)
  refine sv_enter1 Tryd.func78 rfl rfl rfl rfl rfl ?_
  repeat' (first | (apply g_sl; first | (apply ks_nil; refine sl_nil ?_) | (apply ks_move; refine s_move rfl rfl ?_) | (apply ks_asgn; refine s_asgn rfl rfl ?_) | (apply ks_un; refine s_un (y_un rfl rfl rfl) rfl ?_) | (apply ks_fn; first | first | refine c_callv rfl rfl rfl (c1 _) rfl rfl ?_ | refine c_callv rfl rfl rfl (c2 _) rfl rfl ?_ | refine c_callv rfl rfl rfl (c3 _) rfl rfl ?_) | fail) | (apply sw_seq) | (apply at_srd) | (apply sw_skip) | (apply sw_ret) | (apply sw_exit) | (apply sw_block) | (apply sw_region) | (refine sw_cd rfl ?_; first | (apply gd_t) | (apply gd_ft) | (apply gd_tf) | (apply gd_dec_t <;> intro hq <;> (try (exfalso; omega))) | (apply gd_dec_f <;> intro hq <;> (try (exfalso; omega))) | (apply gd_beq_t <;> intro hq <;> (try (exfalso; omega))) | (apply gd_beq_f <;> intro hq <;> (try (exfalso; omega))) | (apply gd_bne_t <;> intro hq <;> (try (exfalso; omega))) | (apply gd_bne_f <;> intro hq <;> (try (exfalso; omega))) | (apply gd_not_t <;> intro hq) | (apply gd_not_f <;> intro hq) | (apply gd_raw_t <;> intro hq) | (apply gd_raw_f <;> intro hq)) | (apply at_thn) | (apply at_thn_ret) | (apply at_thn_exit) | (apply at_inb) | (apply at_inb_ret) | (apply at_inb_exit) | refine at_inb_pass rfl ?_ | refine c_drawn (by kernel_rfl) ?_)
  all_goals
    refine e_sv (by first | exact .inl rfl | exact .inr rfl) rfl (by repeat (first | exact List.Sublist.refl _ | exact List.nil_sublist _ | refine List.Sublist.cons _ ?_)) ?_
    simp only [decide_eq_true_eq, decide_eq_false_iff_not] at *
    unfold rtB fixR
    (repeat (first | rw [if_pos (by first | assumption | omega)] | rw [if_neg (by first | assumption | omega)]))
    rfl
theorem clsIx (n : Nat) (h : n < 15) : Lib.indexByte (strOfNums clsL).data.toList ((clsL.getD n 0).toNat.toUInt8) = (n : Int) := by
  have : ∀ n : Nat, n < 15 → Lib.indexByte (strOfNums clsL).data.toList ((clsL.getD n 0).toNat.toUInt8) = (n : Int) := by decide +kernel
  exact this n h
theorem ite_lt {c : Prop} [Decidable c] {a b n : Nat} (ha : a < n) (hb : b < n) : (if c then a else b) < n := by split <;> assumption
theorem clsN_lt (x : Int) : clsN x < 15 := by
  unfold clsN
  repeat' (first | apply ite_lt | decide)
theorem clsIx_sv (G : Ctx) (H : List Ent) (x : Int) : SV Tryd.prog G 35 [.string ⟨#[120, 101, 98, 99, 105, 107, 100, 109, 91, 93, 92, 112, 102, 110, 117]⟩, .int .u8 (clsL.getD (clsN x) 0)] H (.int .i64 (clsN x : Nat)) := by
  have h := fun w => indexByte_any (strOfNums clsL) (clsL.getD (clsN x) 0) w
  refine sv_of_calls (callee_of Tryd.func35 rfl rfl) fun w hw => (h w).mono ?_
  rintro _ _ ⟨rfl, rfl⟩
  exact ⟨congrArg (fun z => Ending.returned (.int .i64 z)) (clsIx _ (clsN_lt x)), Below.refl _ _⟩
theorem finalAct_sc (G : Ctx) (H : List Ent) (M : Int) (hM : ∀ H w, Holds G H w → w.cell? ⟨2, 0, none⟩ = some (.int .i64 M)) (s m : Int) (i g t : ByteArray) (x : Int) (hg : g.size ≤ 200) : SC Tryd.prog G 79 [psV s m i g t, .int .i64 x] H (fun v H' => ∃ (k cd mk : Int) (it tx : ByteArray) (a2 : Option Addr) (c2 : Nat) (L : List Int), v = acV k cd mk it a2 L.length c2 tx ∧ H' = .own 3 1 a2 L.length c2 (ints L) :: H ∧ plA (k, cd, mk, it, (a2, c2, L), tx) = finP (s, m, i, g, t) x) := by
  have c5 := fun H => argsOf_sc G H M hM g (by omega)
  refine sc_enter2 Tryd.func79 rfl rfl rfl rfl rfl ?_
  repeat' (first | (apply g_sl; first | (apply ks_nil; refine sl_nil ?_) | (apply ks_move; refine s_move rfl rfl ?_) | (apply ks_bin; refine s_bin rfl rfl rfl ?_; first | first | (refine c_storew rfl rfl rfl rfl rfl rfl rfl rfl ?_) | (first | refine bb_of rfl ?_)) | (apply ks_load; first | (refine s_load rfl rfl ?_; first | refine ld_cell rfl ?_ | refine ld_whole rfl ?_ | refine ld_elem rfl ?_ | refine ld_part rfl rfl ?_) | first | (refine c_storew rfl rfl rfl rfl rfl rfl rfl rfl ?_)) | (apply ks_asgn; refine s_asgn rfl rfl ?_) | (apply ks_field; first | refine s_field (c_field0 rfl rfl) rfl ?_ | refine s_field (c_field rfl rfl) rfl ?_) | (apply ks_extr; refine s_extr (y_extract rfl rfl rfl) rfl ?_) | (apply ks_build; first | refine s_build (c_build rfl rfl rfl) rfl ?_ | first | (refine c_storew rfl rfl rfl rfl rfl rfl rfl rfl ?_)) | (apply ks_fn; first | (refine c_call rfl rfl rfl (c5 _) rfl rfl ?_; rintro _ _ ⟨a2, k2, rfl, rfl⟩)) | (apply ks_bi; first | first | (refine c_storew rfl rfl rfl rfl rfl rfl rfl rfl ?_) | refine s_call (c_len rfl rfl) rfl ?_ | refine s_call (c_len_str rfl rfl) rfl ?_ | refine s_call (c_bi rfl rfl rfl rfl) rfl ?_ | refine c_append rfl rfl rfl rfl (by first | rfl | simp [ints]) (by first | rfl | exact ints_one _ | exact octs_one _ | exact strs_one _) (by omega) rfl rfl (fun _ _ => ?_) | refine c_append_nil rfl rfl rfl rfl (by first | rfl | simp [ints]) (by first | rfl | exact ints_one _ | exact octs_one _ | exact strs_one _) (by omega) rfl rfl (fun _ _ => ?_)) | (apply ks_store; first | first | refine c_store rfl rfl rfl rfl rfl rfl rfl ?_ | refine c_storew rfl rfl rfl rfl rfl rfl rfl rfl ?_ | refine c_storee rfl rfl rfl rfl rfl (by omega) rfl ?_ | first | (refine c_storew rfl rfl rfl rfl rfl rfl rfl rfl ?_)) | (apply ks_box; refine c_box rfl rfl rfl rfl rfl rfl (fun _ => ?_)) | (apply ks_alloc; refine c_alloc rfl rfl rfl rfl (fun _ => ?_)) | first | (refine c_storew rfl rfl rfl rfl rfl rfl rfl rfl ?_)) | (apply sw_seq) | (apply at_srd) | (apply sw_skip) | (apply sw_ret) | (apply sw_exit) | (apply sw_block) | (apply sw_region) | (refine sw_cd rfl ?_; first | (apply gd_t) | (apply gd_ft) | (apply gd_tf) | (apply gd_dec_t <;> intro hq <;> (try (exfalso; omega))) | (apply gd_dec_f <;> intro hq <;> (try (exfalso; omega))) | (apply gd_beq_t <;> intro hq <;> (try (exfalso; omega))) | (apply gd_beq_f <;> intro hq <;> (try (exfalso; omega))) | (apply gd_bne_t <;> intro hq <;> (try (exfalso; omega))) | (apply gd_bne_f <;> intro hq <;> (try (exfalso; omega))) | (apply gd_not_t <;> intro hq) | (apply gd_not_f <;> intro hq) | (apply gd_raw_t <;> intro hq) | (apply gd_raw_f <;> intro hq)) | (apply at_thn) | (apply at_thn_ret) | (apply at_thn_exit) | (apply at_inb) | (apply at_inb_ret) | (apply at_inb_exit) | refine at_inb_pass rfl ?_ | refine c_drawn (by kernel_rfl) ?_)
  all_goals clear c5
  · refine e_scc (.own 3 1 none 0 0 [] :: H) (.inr rfl) rfl rfl rfl (fun _ hw => (hw.nilrow _ _).subs (by repeat (first | refine Subs.cons (by repeat constructor) ?_ | exact Subs.sub (by repeat (first | exact List.Sublist.refl _ | exact List.nil_sublist _ | refine List.Sublist.cons _ ?_))))) ?_
    refine ⟨6, 0, 0, e0, e0, none, 0, [], rfl, rfl, ?_⟩
    unfold finP
    dsimp only
    rw [if_pos (by omega)]
    rfl
  · refine e_scc (.own 3 1 none 0 0 [] :: H) (.inr rfl) rfl rfl rfl (fun _ hw => (hw.nilrow _ _).subs (by repeat (first | refine Subs.cons (by repeat constructor) ?_ | exact Subs.sub (by repeat (first | exact List.Sublist.refl _ | exact List.nil_sublist _ | refine List.Sublist.cons _ ?_))))) ?_
    refine ⟨3, x, 0, i, e0, none, 0, [], rfl, rfl, ?_⟩
    unfold finP
    dsimp only
    rw [if_neg (by omega), if_pos (by omega)]
    rfl
  · refine e_scc (.own 3 1 a2 (readA g).1.length k2 (ints (readA g).1) :: H) (by first | exact .inl rfl | exact .inr rfl) rfl (by first | rfl | simp) rfl (fun _ hw => hw.subs (by repeat (first | refine Subs.cons (by repeat constructor) ?_ | exact Subs.sub (by repeat (first | exact List.Sublist.refl _ | exact List.nil_sublist _ | refine List.Sublist.cons _ ?_))))) ?_
    refine ⟨4, x, m, i, e0, a2, k2, (readA g).1, rfl, rfl, ?_⟩
    unfold finP
    dsimp only
    rw [if_neg (by omega), if_neg (by omega)]
    rfl
end Go.Proofs.YtflmckoolagikaaDoor
