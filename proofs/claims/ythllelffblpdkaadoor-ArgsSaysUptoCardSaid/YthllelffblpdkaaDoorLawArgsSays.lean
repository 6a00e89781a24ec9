/- farlaw.ArgsSays returns true for every input of bulk at most 1048576, and each argument reads as it read. -/
import Derived.Test.YthllelffblpdkaaDoorCardN
import Derived.Test.YthllelffblpdkaaDoorLawTr
import Derived.Test.YthllelffblpdkaaDoorArg
import Derived.Test.YthllelffblpdkaaDoorEqF
namespace Go.Proofs.YthllelffblpdkaaDoor
open Go Go.RowKit Go.Fw Go.Sx Go.ChangeShapes Go.WideShapes Go.ChangeAt
set_option maxRecDepth 100000
set_option maxHeartbeats 2000000
attribute [local irreducible] SW SL SQ AtQ SV SC BB LD PK Yields SO SOT SOA SY

theorem own : ownKnob Tryd.prog.godebug = none := by kernel_rfl
theorem laidOut : laidOutB Tryd.prog = true := by kernel_rfl
abbrev A9 := ByteArray
abbrev en9 : A9 → List Value := fun z => [.string z]
abbrev ok9 : World → A9 → Prop := fun _ z => z.size ≤ maxLen
abbrev bk9 : A9 → Nat := fun z => z.size
theorem tr9 : Tr Tryd.prog 9 A9 en9 ok9 bk9 := Tr.str Tryd.underlying9 (by kernel_rfl)
abbrev A3 := Int
abbrev en3 : A3 → List Value := fun z => [.int .i64 z]
abbrev ok3 : World → A3 → Prop := fun _ z => (Lit.int .i64 z).wf = true
abbrev bk3 : A3 → Nat := fun _ => 0
theorem tr3 : Tr Tryd.prog 3 A3 en3 ok3 bk3 := Tr.int Tryd.underlying3 (by kernel_rfl)
abbrev A24 := Rx A3
abbrev en24 : A24 → List Value := fun x => [rxV x]
abbrev ok24 : World → A24 → Prop := fun W x => x.2.2.length ≤ x.2.1 ∧ x.2.2.length ≤ maxLen ∧ At W x.1 (x.2.2.flatMap en3) ∧ ∀ y ∈ x.2.2, ok3 W y
abbrev bk24 : A24 → Nat := fun x => (x.2.2.map fun y => bk3 y + 1).sum
theorem tr24 : Tr Tryd.prog 24 A24 en24 ok24 bk24 := Tr.slice tr3 Tryd.underlying24 (by kernel_rfl) (of_decide_eq_true (by kernel_rfl))
theorem eqI4_sv (G : Ctx) (H : List Ent) (L : List Int) (a a2 : Option Addr) (n m c c2 : Nat) {vs us : List Value} [h1 : RdC G H a vs] [h2 : RdC G H a2 us] (hv : vs = Go.Fw.ints L) (hu : us = Go.Fw.ints L) (hn : n = L.length) (hn2 : m = L.length) (hm : L.length ≤ maxLen) : SV Tryd.prog G 23 [.slice a n c, .slice a2 m c2] H (.bool true) := by
  subst hv hu hn hn2
  have h : ∀ w, Holds G H w → Calls Tryd.prog 23 #[.slice a L.length c, .slice a2 L.length c2] w fun e w' => e = .returned (.bool (decide (L = L))) ∧ Below w.heap.size w w' := fun w hw => eqInts_any L L a a2 L.length L.length c c2 w rfl rfl hm hm (h1.here w hw) (h2.here w hw)
  rw [show decide (L = L) = true from by simp] at h
  exact sv_of_calls (callee_of Tryd.func23 rfl rfl) h
theorem argsSays_sv (G : Ctx) (m : Int) (hm : ∀ H w, Holds G H w → w.cell? ⟨2, 0, none⟩ = some (.int .i64 m)) (hT : ∀ H, Pow10 G H) (s : ByteArray) (hs : s.size ≤ 1048576) (L : List Int) (a : Option Addr) (n c : Nat) [h1 : ∀ H, RdC G H a (ints L)] (hn : n = L.length) (hmn : n ≤ 1048576) (i none : Int) : SV Tryd.prog G 4 [.string s, .slice a n c, .int .i64 i, .int .i64 none] [] (.bool true) := by
  have c1 := fun H => argsRead_sc G H m hm s (by omega)
  have c2 := fun H => argsOf_sc G H m hm s (by omega)
  have c3 := fun H => argsWrite_sv G H hT L a n c hn (by omega)
  have c4 := fun H => argsText_sv G H L a n c hn (by omega)
  have c5 := fun H => argsGet_sv G H L a n c hn i none
  have c6 := fun H x lo hi => bet_sv G H x lo hi
  have hR : (readA s).1.length ≤ 32 := by
    unfold readA
    split
    · rw [List.length_map, List.length_take]; omega
    · exact Nat.zero_le _
  generalize readA s = R at *
  generalize writeA L = U at *
  obtain ⟨R1, R2⟩ := R
  obtain ⟨U1, U2⟩ := U
  dsimp only at c1 c2 c3 c4 hR
  have c7 := fun (H : List Ent) (a a2 : Option Addr) (c c2 : Nat) (h1 : RdC G H a (ints R1)) (h2 : RdC G H a2 (ints R1)) => eqI4_sv G H R1 a a2 R1.length R1.length c c2 rfl rfl rfl rfl (by unfold maxLen; omega)
  have hlx : (ints L).length = n * 1 := by rw [hn]; simp [ints]
  have hel : 0 ≤ i ∧ i < n → (ints L)[i.toNat * 1]? = some (.int .i64 (L.getD i.toNat 0)) := fun h => by
    obtain ⟨x, hx⟩ := get_of (X := L) (k := i.toNat) (by omega)
    rw [List.getD_eq_getElem?_getD, hx]
    simp [ints, hx]
  generalize L.getD i.toNat 0 = x at *
  clear hm hT hs
  by_cases hi : 0 ≤ i ∧ i < n
  · have hxi := hel hi
    by_cases hx1 : x = -1
    · rw [if_neg (by omega)] at c5
      refine sv_enter4 Tryd.func4 rfl rfl rfl rfl rfl ?_
      repeat' (first | (apply g_sl; first | (apply ks_nil; refine sl_nil ?_) | (apply ks_move; refine s_move rfl rfl ?_) | (apply ks_bin; refine s_bin rfl rfl rfl ?_; first | first | (refine bb_seq ?_) | (refine s_indexA (c_indexAddr rfl rfl rfl hlx (by omega) (by omega)) rfl ?_) | (refine s_load rfl rfl ?_; refine ld_elem hxi ?_) | (first | (apply kb_sub; first | refine bb_sub ⟨by omega, by omega⟩ ?_ | refine bb_of rfl ?_) | refine bb_of rfl ?_)) | (apply ks_load; first | (refine s_load rfl rfl ?_; first | refine ld_cell rfl ?_ | refine ld_whole rfl ?_ | refine ld_elem rfl ?_ | refine ld_part rfl rfl ?_) | first | (refine bb_seq ?_) | (refine s_indexA (c_indexAddr rfl rfl rfl hlx (by omega) (by omega)) rfl ?_) | (refine s_load rfl rfl ?_; refine ld_elem hxi ?_)) | (apply ks_asgn; refine s_asgn rfl rfl ?_) | (apply ks_pick; refine s_pick rfl rfl ?_; first | (apply kp_t; refine pk_t rfl ?_) | (apply kp_f; refine pk_f rfl ?_) | refine pk_s rfl rfl ?_) | (apply ks_extr; refine s_extr (y_extract rfl rfl rfl) rfl ?_) | (apply ks_indexA; first | refine s_indexA (c_indexAddr rfl rfl rfl rfl (by omega) (by omega)) rfl ?_ | first | (refine bb_seq ?_) | (refine s_indexA (c_indexAddr rfl rfl rfl hlx (by omega) (by omega)) rfl ?_) | (refine s_load rfl rfl ?_; refine ld_elem hxi ?_)) | (apply ks_fn; first | first | (refine c_call rfl rfl rfl (c1 _) rfl rfl ?_; rintro _ _ ⟨a5, k5, rfl, rfl⟩) | (refine c_call rfl rfl rfl (c2 _) rfl rfl ?_; rintro _ _ ⟨a6, k6, rfl, rfl⟩) | refine c_callv rfl rfl rfl (c3 _) rfl rfl ?_ | refine c_callv rfl rfl rfl (c4 _) rfl rfl ?_ | refine c_callv rfl rfl rfl (c5 _) rfl rfl ?_ | refine c_callv rfl rfl rfl (c6 _ _ _ _) rfl rfl ?_ | refine c_callv rfl rfl rfl (c7 _ _ _ _ _ inferInstance inferInstance) rfl rfl ?_) | (apply ks_bi; first | first | (refine bb_seq ?_) | (refine s_indexA (c_indexAddr rfl rfl rfl hlx (by omega) (by omega)) rfl ?_) | (refine s_load rfl rfl ?_; refine ld_elem hxi ?_) | refine s_call (c_len rfl rfl) rfl ?_ | refine s_call (c_len_str rfl rfl) rfl ?_ | refine s_call (c_bi rfl rfl rfl rfl) rfl ?_ | refine c_append rfl rfl rfl rfl (by first | rfl | simp [ints]) (by first | rfl | exact ints_one _ | exact octs_one _ | exact strs_one _) (by omega) rfl rfl (fun _ _ => ?_) | refine c_append_nil rfl rfl rfl rfl (by first | rfl | simp [ints]) (by first | rfl | exact ints_one _ | exact octs_one _ | exact strs_one _) (by omega) rfl rfl (fun _ _ => ?_)) | (apply ks_guard; first | (refine sl_gd rfl rfl rfl rfl ?_; first | (apply gd_t) | (apply gd_ft) | (apply gd_tf) | (apply gd_dec_t <;> intro hq <;> (try (exfalso; omega))) | (apply gd_dec_f <;> intro hq <;> (try (exfalso; omega))) | (apply gd_beq_t <;> intro hq <;> (try (exfalso; omega))) | (apply gd_beq_f <;> intro hq <;> (try (exfalso; omega))) | (apply gd_bne_t <;> intro hq <;> (try (exfalso; omega))) | (apply gd_bne_f <;> intro hq <;> (try (exfalso; omega))) | (apply gd_not_t <;> intro hq) | (apply gd_not_f <;> intro hq) | (apply gd_raw_t <;> intro hq) | (apply gd_raw_f <;> intro hq)) | refine sl_skip_u rfl rfl rfl rfl rfl rfl ?_) | first | (refine bb_seq ?_) | (refine s_indexA (c_indexAddr rfl rfl rfl hlx (by omega) (by omega)) rfl ?_) | (refine s_load rfl rfl ?_; refine ld_elem hxi ?_)) | (apply sw_seq) | (apply at_srd) | (apply sw_skip) | (apply sw_ret) | (apply sw_exit) | (apply sw_block) | (apply sw_region) | (refine sw_cd rfl ?_; first | (apply gd_t) | (apply gd_ft) | (apply gd_tf) | (apply gd_dec_t <;> intro hq <;> (try (exfalso; omega))) | (apply gd_dec_f <;> intro hq <;> (try (exfalso; omega))) | (apply gd_beq_t <;> intro hq <;> (try (exfalso; omega))) | (apply gd_beq_f <;> intro hq <;> (try (exfalso; omega))) | (apply gd_bne_t <;> intro hq <;> (try (exfalso; omega))) | (apply gd_bne_f <;> intro hq <;> (try (exfalso; omega))) | (apply gd_not_t <;> intro hq) | (apply gd_not_f <;> intro hq) | (apply gd_raw_t <;> intro hq) | (apply gd_raw_f <;> intro hq)) | (apply at_thn) | (apply at_thn_ret) | (apply at_thn_exit) | (apply at_inb) | (apply at_inb_ret) | (apply at_inb_exit) | refine at_inb_pass rfl ?_ | refine c_drawn (by kernel_rfl) ?_)
      all_goals (try simp only [decide_eq_true_eq, decide_eq_false_iff_not] at *)
      all_goals first | exact absurd rfl (by assumption) | exact absurd trivial (by assumption) | (exfalso; omega) | (refine e_sv (by first | exact .inl rfl | exact .inr rfl) rfl (List.nil_sublist _) ?_; simp [resV]) | skip
    · rw [if_pos (by omega)] at c5
      refine sv_enter4 Tryd.func4 rfl rfl rfl rfl rfl ?_
      repeat' (first | (apply g_sl; first | (apply ks_nil; refine sl_nil ?_) | (apply ks_move; refine s_move rfl rfl ?_) | (apply ks_bin; refine s_bin rfl rfl rfl ?_; first | first | (refine bb_seq ?_) | (refine s_indexA (c_indexAddr rfl rfl rfl hlx (by omega) (by omega)) rfl ?_) | (refine s_load rfl rfl ?_; refine ld_elem hxi ?_) | (first | (apply kb_sub; first | refine bb_sub ⟨by omega, by omega⟩ ?_ | refine bb_of rfl ?_) | refine bb_of rfl ?_)) | (apply ks_load; first | (refine s_load rfl rfl ?_; first | refine ld_cell rfl ?_ | refine ld_whole rfl ?_ | refine ld_elem rfl ?_ | refine ld_part rfl rfl ?_) | first | (refine bb_seq ?_) | (refine s_indexA (c_indexAddr rfl rfl rfl hlx (by omega) (by omega)) rfl ?_) | (refine s_load rfl rfl ?_; refine ld_elem hxi ?_)) | (apply ks_asgn; refine s_asgn rfl rfl ?_) | (apply ks_pick; refine s_pick rfl rfl ?_; first | (apply kp_t; refine pk_t rfl ?_) | (apply kp_f; refine pk_f rfl ?_) | refine pk_s rfl rfl ?_) | (apply ks_extr; refine s_extr (y_extract rfl rfl rfl) rfl ?_) | (apply ks_indexA; first | refine s_indexA (c_indexAddr rfl rfl rfl rfl (by omega) (by omega)) rfl ?_ | first | (refine bb_seq ?_) | (refine s_indexA (c_indexAddr rfl rfl rfl hlx (by omega) (by omega)) rfl ?_) | (refine s_load rfl rfl ?_; refine ld_elem hxi ?_)) | (apply ks_fn; first | first | (refine c_call rfl rfl rfl (c1 _) rfl rfl ?_; rintro _ _ ⟨a5, k5, rfl, rfl⟩) | (refine c_call rfl rfl rfl (c2 _) rfl rfl ?_; rintro _ _ ⟨a6, k6, rfl, rfl⟩) | refine c_callv rfl rfl rfl (c3 _) rfl rfl ?_ | refine c_callv rfl rfl rfl (c4 _) rfl rfl ?_ | refine c_callv rfl rfl rfl (c5 _) rfl rfl ?_ | refine c_callv rfl rfl rfl (c6 _ _ _ _) rfl rfl ?_ | refine c_callv rfl rfl rfl (c7 _ _ _ _ _ inferInstance inferInstance) rfl rfl ?_) | (apply ks_bi; first | first | (refine bb_seq ?_) | (refine s_indexA (c_indexAddr rfl rfl rfl hlx (by omega) (by omega)) rfl ?_) | (refine s_load rfl rfl ?_; refine ld_elem hxi ?_) | refine s_call (c_len rfl rfl) rfl ?_ | refine s_call (c_len_str rfl rfl) rfl ?_ | refine s_call (c_bi rfl rfl rfl rfl) rfl ?_ | refine c_append rfl rfl rfl rfl (by first | rfl | simp [ints]) (by first | rfl | exact ints_one _ | exact octs_one _ | exact strs_one _) (by omega) rfl rfl (fun _ _ => ?_) | refine c_append_nil rfl rfl rfl rfl (by first | rfl | simp [ints]) (by first | rfl | exact ints_one _ | exact octs_one _ | exact strs_one _) (by omega) rfl rfl (fun _ _ => ?_)) | (apply ks_guard; first | (refine sl_gd rfl rfl rfl rfl ?_; first | (apply gd_t) | (apply gd_ft) | (apply gd_tf) | (apply gd_dec_t <;> intro hq <;> (try (exfalso; omega))) | (apply gd_dec_f <;> intro hq <;> (try (exfalso; omega))) | (apply gd_beq_t <;> intro hq <;> (try (exfalso; omega))) | (apply gd_beq_f <;> intro hq <;> (try (exfalso; omega))) | (apply gd_bne_t <;> intro hq <;> (try (exfalso; omega))) | (apply gd_bne_f <;> intro hq <;> (try (exfalso; omega))) | (apply gd_not_t <;> intro hq) | (apply gd_not_f <;> intro hq) | (apply gd_raw_t <;> intro hq) | (apply gd_raw_f <;> intro hq)) | refine sl_skip_u rfl rfl rfl rfl rfl rfl ?_) | first | (refine bb_seq ?_) | (refine s_indexA (c_indexAddr rfl rfl rfl hlx (by omega) (by omega)) rfl ?_) | (refine s_load rfl rfl ?_; refine ld_elem hxi ?_)) | (apply sw_seq) | (apply at_srd) | (apply sw_skip) | (apply sw_ret) | (apply sw_exit) | (apply sw_block) | (apply sw_region) | (refine sw_cd rfl ?_; first | (apply gd_t) | (apply gd_ft) | (apply gd_tf) | (apply gd_dec_t <;> intro hq <;> (try (exfalso; omega))) | (apply gd_dec_f <;> intro hq <;> (try (exfalso; omega))) | (apply gd_beq_t <;> intro hq <;> (try (exfalso; omega))) | (apply gd_beq_f <;> intro hq <;> (try (exfalso; omega))) | (apply gd_bne_t <;> intro hq <;> (try (exfalso; omega))) | (apply gd_bne_f <;> intro hq <;> (try (exfalso; omega))) | (apply gd_not_t <;> intro hq) | (apply gd_not_f <;> intro hq) | (apply gd_raw_t <;> intro hq) | (apply gd_raw_f <;> intro hq)) | (apply at_thn) | (apply at_thn_ret) | (apply at_thn_exit) | (apply at_inb) | (apply at_inb_ret) | (apply at_inb_exit) | refine at_inb_pass rfl ?_ | refine c_drawn (by kernel_rfl) ?_)
      all_goals (try simp only [decide_eq_true_eq, decide_eq_false_iff_not] at *)
      all_goals first | exact absurd rfl (by assumption) | exact absurd trivial (by assumption) | (exfalso; omega) | (refine e_sv (by first | exact .inl rfl | exact .inr rfl) rfl (List.nil_sublist _) ?_; simp [resV]) | skip
  · rw [if_neg (by omega)] at c5
    refine sv_enter4 Tryd.func4 rfl rfl rfl rfl rfl ?_
    repeat' (first | (apply g_sl; first | (apply ks_nil; refine sl_nil ?_) | (apply ks_move; refine s_move rfl rfl ?_) | (apply ks_bin; refine s_bin rfl rfl rfl ?_; first | (refine bb_seq ?_) | (first | (apply kb_sub; first | refine bb_sub ⟨by omega, by omega⟩ ?_ | refine bb_of rfl ?_) | refine bb_of rfl ?_)) | (apply ks_load; first | (refine s_load rfl rfl ?_; first | refine ld_cell rfl ?_ | refine ld_whole rfl ?_ | refine ld_elem rfl ?_ | refine ld_part rfl rfl ?_) | (refine bb_seq ?_)) | (apply ks_asgn; refine s_asgn rfl rfl ?_) | (apply ks_pick; refine s_pick rfl rfl ?_; first | (apply kp_t; refine pk_t rfl ?_) | (apply kp_f; refine pk_f rfl ?_) | refine pk_s rfl rfl ?_) | (apply ks_extr; refine s_extr (y_extract rfl rfl rfl) rfl ?_) | (apply ks_indexA; first | refine s_indexA (c_indexAddr rfl rfl rfl rfl (by omega) (by omega)) rfl ?_ | (refine bb_seq ?_)) | (apply ks_fn; first | first | (refine c_call rfl rfl rfl (c1 _) rfl rfl ?_; rintro _ _ ⟨a5, k5, rfl, rfl⟩) | (refine c_call rfl rfl rfl (c2 _) rfl rfl ?_; rintro _ _ ⟨a6, k6, rfl, rfl⟩) | refine c_callv rfl rfl rfl (c3 _) rfl rfl ?_ | refine c_callv rfl rfl rfl (c4 _) rfl rfl ?_ | refine c_callv rfl rfl rfl (c5 _) rfl rfl ?_ | refine c_callv rfl rfl rfl (c6 _ _ _ _) rfl rfl ?_ | refine c_callv rfl rfl rfl (c7 _ _ _ _ _ inferInstance inferInstance) rfl rfl ?_) | (apply ks_bi; first | (refine bb_seq ?_) | refine s_call (c_len rfl rfl) rfl ?_ | refine s_call (c_len_str rfl rfl) rfl ?_ | refine s_call (c_bi rfl rfl rfl rfl) rfl ?_ | refine c_append rfl rfl rfl rfl (by first | rfl | simp [ints]) (by first | rfl | exact ints_one _ | exact octs_one _ | exact strs_one _) (by omega) rfl rfl (fun _ _ => ?_) | refine c_append_nil rfl rfl rfl rfl (by first | rfl | simp [ints]) (by first | rfl | exact ints_one _ | exact octs_one _ | exact strs_one _) (by omega) rfl rfl (fun _ _ => ?_)) | (apply ks_guard; first | (refine sl_gd rfl rfl rfl rfl ?_; first | (apply gd_t) | (apply gd_ft) | (apply gd_tf) | (apply gd_dec_t <;> intro hq <;> (try (exfalso; omega))) | (apply gd_dec_f <;> intro hq <;> (try (exfalso; omega))) | (apply gd_beq_t <;> intro hq <;> (try (exfalso; omega))) | (apply gd_beq_f <;> intro hq <;> (try (exfalso; omega))) | (apply gd_bne_t <;> intro hq <;> (try (exfalso; omega))) | (apply gd_bne_f <;> intro hq <;> (try (exfalso; omega))) | (apply gd_not_t <;> intro hq) | (apply gd_not_f <;> intro hq) | (apply gd_raw_t <;> intro hq) | (apply gd_raw_f <;> intro hq)) | refine sl_skip_u rfl rfl rfl rfl rfl rfl ?_) | (refine bb_seq ?_)) | (apply sw_seq) | (apply at_srd) | (apply sw_skip) | (apply sw_ret) | (apply sw_exit) | (apply sw_block) | (apply sw_region) | (refine sw_cd rfl ?_; first | (apply gd_t) | (apply gd_ft) | (apply gd_tf) | (apply gd_dec_t <;> intro hq <;> (try (exfalso; omega))) | (apply gd_dec_f <;> intro hq <;> (try (exfalso; omega))) | (apply gd_beq_t <;> intro hq <;> (try (exfalso; omega))) | (apply gd_beq_f <;> intro hq <;> (try (exfalso; omega))) | (apply gd_bne_t <;> intro hq <;> (try (exfalso; omega))) | (apply gd_bne_f <;> intro hq <;> (try (exfalso; omega))) | (apply gd_not_t <;> intro hq) | (apply gd_not_f <;> intro hq) | (apply gd_raw_t <;> intro hq) | (apply gd_raw_f <;> intro hq)) | (apply at_thn) | (apply at_thn_ret) | (apply at_thn_exit) | (apply at_inb) | (apply at_inb_ret) | (apply at_inb_exit) | refine at_inb_pass rfl ?_ | refine c_drawn (by kernel_rfl) ?_)
    all_goals (try simp only [decide_eq_true_eq, decide_eq_false_iff_not] at *)
    all_goals first | exact absurd rfl (by assumption) | exact absurd trivial (by assumption) | (exfalso; omega) | (refine e_sv (by first | exact .inl rfl | exact .inr rfl) rfl (List.nil_sublist _) ?_; simp [resV]) | skip
theorem argsSays_walk (W : World) (y0 : A9) (o0 : ok9 W y0) (y1 : A24) (o1 : ok24 W y1) (y2 : A3) (o2 : ok3 W y2) (y3 : A3) (o3 : ok3 W y3) (hb : bk9 y0 + (bk24 y1 + (bk3 y2 + bk3 y3)) ≤ 1048576) (hL : laidMetH Tryd.prog Rows.argsSaysRow.laid W) (hS : W.ShapedOpen Tryd.prog) : Calls Tryd.prog 4 #[.string y0, rxV y1, .int .i64 y2, .int .i64 y3] W fun e w' => e = .returned (.bool true) ∧ Below W.heap.size W w' := by
  obtain ⟨m', hM⟩ := maxLen_cell W hS
  have hT := pow10_hold (W := W) (laid := Rows.argsSaysRow.laid) hL (by simp [Rows.argsSaysRow])
  obtain ⟨a, cp, L⟩ := y1
  obtain ⟨-, -, hA, -⟩ := o1
  have hA' : At W a (ints L) := by
    have e : L.flatMap (fun z => [Value.int .i64 z]) = ints L := fm_map (Value.int .i64) L
    rw [← e]; exact hA
  haveI : ∀ H, RdC ⟨W.heap.size, W⟩ H a (ints L) := fun H => RdC.top hA'
  have hb' : y0.size + ((List.map (fun _ : Int => 0 + 1) L).sum + (0 + 0)) ≤ 1048576 := hb
  have hsum : (List.map (fun _ : Int => 0 + 1) L).sum = L.length := by
    clear hb' hb hA hA' this
    induction L with
    | nil => rfl
    | cons x L ih => rw [List.map_cons, List.sum_cons, List.length_cons, ih]; omega
  exact calls_of_sv (argsSays_sv _ m' hM hT y0 (by omega) L a L.length cp rfl (by omega) y2 y3)

set_option maxRecDepth 100000 in
theorem argsSays_law {H : Type} (enc : TypeId × Value → H) (W : World) {base : Nat} {v0 v1 v2 v3 : Value} {d0 d1 d2 d3 : DataW H} {p0 p1 p2 p3 : List MemPlace}
    (k0 : Value.okWide Tryd.prog W .any base 9 v0) (h0 : DataW.Trod enc Tryd.prog W 0 (fun _ => true) true 9 v0 d0 p0)
    (k1 : Value.okWide Tryd.prog W .any base 24 v1) (h1 : DataW.Trod enc Tryd.prog W 0 (fun _ => true) true 24 v1 d1 p1)
    (k2 : Value.okWide Tryd.prog W .any base 3 v2) (h2 : DataW.Trod enc Tryd.prog W 0 (fun _ => true) true 3 v2 d2 p2)
    (k3 : Value.okWide Tryd.prog W .any base 3 v3) (h3 : DataW.Trod enc Tryd.prog W 0 (fun _ => true) true 3 v3 d3 p3)
    (hk : Rows.uptoSmall H [d0, d1, d2, d3] = true)
    (hL : laidMetH Tryd.prog Rows.argsSaysUptoRow.laid W) (hS : W.ShapedOpen Tryd.prog)
    : Calls Tryd.prog 4 #[v0, v1, v2, v3] W fun e w' => e = .returned (.bool true) ∧ Below W.heap.size W w' := by
  obtain ⟨y0, rfl, o0, b0⟩ := tr_str Tryd.underlying9 tr9 k0 h0
  obtain ⟨y1, rfl, o1, b1⟩ := tr_slice Tryd.underlying24 tr24 k1 h1
  obtain ⟨y2, rfl, o2, b2⟩ := tr_int Tryd.underlying3 tr3 k2 h2
  obtain ⟨y3, rfl, o3, b3⟩ := tr_int Tryd.underlying3 tr3 k3 h3
  have hb := bulk_all hk
  simp only [Rows.uptoBulkAll] at hb
  exact argsSays_walk W y0 o0 y1 o1 y2 o2 y3 o3 (by omega) hL hS

set_option maxRecDepth 100000 in
theorem argsSays_contract (H : Type) (enc : TypeId × Value → H) (W : World) (base : Nat) (args : Array Value) (ds gs : List (DataW H)) (before : List MemPlace)
    (hval : ∀ (j : Nat) t v, Tryd.f4.params[j]? = some t → args[j]? = some v → Value.okWide Tryd.prog W .any base t v)
    (hW : DataW.Whole enc Tryd.prog Tryd.f4.params.toList Rows.argsSaysSpec.vars false W args.toList ds gs before) (hk : Rows.uptoSmall H (ds ++ gs) = true) (hL : laidMetH Tryd.prog Rows.argsSaysUptoRow.laid W) (hS : W.ShapedOpen Tryd.prog) :
    Calls Tryd.prog 4 args W fun e W' => ∃ v, e = .returned v ∧ Rows.argsSaysSpec.post enc Tryd.prog Tryd.f4 false true false false W args v W' := by
  have hW' := hW
  obtain ⟨p, q, hA0, hV, rfl, hfz, hnd⟩ := hW'
  have hA : DataW.TrodAll enc Tryd.prog W 0 (fun _ => true) true Tryd.f4.params.toList args.toList ds p := hA0
  rw [Tryd.params4] at hA hval
  obtain ⟨v0, vs0, d0, ds0, p0, q0, hargs, rfl, rfl, h0, r0⟩ := trodAll_cons hA
  obtain ⟨v1, vs1, d1, ds1, p1, q1, rfl, rfl, rfl, h1, r1⟩ := trodAll_cons r0
  obtain ⟨v2, vs2, d2, ds2, p2, q2, rfl, rfl, rfl, h2, r2⟩ := trodAll_cons r1
  obtain ⟨v3, vs3, d3, ds3, p3, q3, rfl, rfl, rfl, h3, r3⟩ := trodAll_cons r2
  obtain ⟨rfl, rfl, rfl⟩ := trodAll_nil r3
  obtain rfl : args = #[v0, v1, v2, v3] := by cases args; simp_all
  obtain ⟨rfl, rfl⟩ := trodVars_none hV
  clear hA0
  have k0 := hval 0 9 v0 rfl rfl
  have k1 := hval 1 24 v1 rfl rfl
  have k2 := hval 2 3 v2 rfl rfl
  have k3 := hval 3 3 v3 rfl rfl
  simp only [List.append_nil] at hk
  refine (argsSays_law enc W k0 h0 k1 h1 k2 h2 k3 h3 hk hL hS).mono fun e W' ⟨he, hg⟩ => ?_
  subst he
  exact ⟨_, rfl, law_post (s := Rows.argsSaysSpec) laidOut (by kernel_rfl) rfl Tryd.underlying4 rfl hW rfl hg⟩

noncomputable def argsSays_world (os : Os) : World := { World.holding Tryd.prog os ⟨#[], #[], []⟩ with heap := ((((((World.holding Tryd.prog os ⟨#[], #[], []⟩).heap.modify 6 fun | .cells _ t frozen => .cells (dCells Rows.laid_math_bits_deBruijn32tab).toArray t frozen | o => o).modify 7 fun | .cells _ t frozen => .cells (dCells Rows.laid_math_bits_deBruijn64tab).toArray t frozen | o => o).modify 5 fun | .cells _ t frozen => .cells (dCells Rows.laid_internal_strconv_uint64pow10).toArray t frozen | o => o).modify 1 fun | .cells _ t frozen => .cells (dCells Rows.laid_unicode_utf8_acceptRanges).toArray t frozen | o => o).modify 0 fun | .cells _ t frozen => .cells (dCells Rows.laid_unicode_utf8_first).toArray t frozen | o => o) }
theorem argsSays_met (os : Os) : laidMet Tryd.prog Rows.argsSaysUptoRow.laid ((argsSays_world os).forCall (fun _ _ => 0) ⟨#[], #[.string .empty, .slice none 0 0, .int .i64 0, .int .i64 0], []⟩).memory := laidMet_of_run' 12 (by kernel_rfl) (by kernel_rfl)
theorem argsSays_reads (os : Os) {H : Type} (enc : TypeId × Value → H) : ∃ places, DataW.whole enc Tryd.prog ((argsSays_world os).forCall (fun _ _ => 0) ⟨#[], #[.string .empty, .slice none 0 0, .int .i64 0, .int .i64 0], []⟩).memory Tryd.f4.params.toList Rows.argsSaysSpec.vars false (#[.string .empty, .slice none 0 0, .int .i64 0, .int .i64 0] : Array Value).toList 12 = some ([.lit (.string []), .nil, .lit (.int .i64 0), .lit (.int .i64 0)], [], places) := ⟨[], by kernel_rfl⟩
set_option maxRecDepth 100000 in
theorem argsSays_lifted (os : Os) (started : os.Started) (H : Type) (enc : TypeId × Value → H) (F : Stop.Interp) :
    ReturnsInHanded {} Tryd.checked os 4 .any ((Rows.OpenSpec.upto Rows.argsSaysSpec).preRow enc Tryd.prog Tryd.f4 Rows.argsSaysUptoRow.domain false Rows.argsSaysUptoRow.laid) (((Rows.OpenSpec.upto Rows.argsSaysSpec).at F).post enc Tryd.prog Tryd.f4 false true false false) := by
  obtain ⟨places, hx⟩ := argsSays_reads os enc
  refine returnsInHanded_of_row (C := Tryd.checked) (s := Rows.OpenSpec.upto Rows.argsSaysSpec) own started (by kernel_rfl) Tryd.func4
    (witness_row_at (enc := enc) (C := Tryd.checked) false (argsSays_world os) #[.string .empty, .slice none 0 0, .int .i64 0, .int .i64 0] rfl (by kernel_rfl) (by kernel_rfl) (by kernel_rfl)
      (OpenSpec.preRow_of_cond 12 hx (by kernel_rfl) (fun k hk => by cases hk; kernel_rfl) (by kernel_rfl) (argsSays_met os))) ?_
  intro W base args ds gs before hval hW _ hk _ hL hS _
  exact argsSays_contract H enc W base args ds gs before hval hW (hk _ rfl) hL hS

theorem argsSays_holds : Rows.ArgsSaysUptoSaid :=
  OpenClaim.holds_of_cond 4 Tryd.f4 rfl rfl rfl rfl rfl rfl rfl ⟨rfl, rfl, rfl, rfl, rfl⟩ rfl rfl rfl rfl rfl (by kernel_rfl) Tryd.func4 (by kernel_rfl)
    (of_decide_eq_true (by kernel_rfl)) (by unfold Func.isWrapper; first | (rw [if_pos (by decide +kernel)]; kernel_rfl) | (rw [if_neg (by decide +kernel)]; exact ⟨rfl, rfl⟩))
    (fun os started H enc _ F => by rw [OpenClaim.pre_eq_preRow]; exact argsSays_lifted os started H enc F)
theorem argsSays_plain (f : FuncId) (fn : Func) (hf : Tryd.pinned.checked.prog.funcNamed "farwriter/farlaw.ArgsSays" = some f) (hfn : Tryd.pinned.checked.prog.funcs[f]? = some fn) :
    true = Tryd.pinned.checked.prog.looks [] ∧ ∀ (j : Nat) t, fn.params[j]? = some t → Tryd.pinned.checked.prog.wantsStandIn t = false := by
  obtain rfl : f = 4 := Option.some.inj ((show Tryd.prog.funcNamed "farwriter/farlaw.ArgsSays" = some 4 by kernel_rfl).symm.trans hf) |>.symm
  obtain rfl : fn = Tryd.f4 := (Option.some.inj (Tryd.func4.symm.trans hfn)).symm
  refine ⟨by kernel_rfl, fun j t ht => ?_⟩
  rw [Tryd.params4] at ht
  have hm : t ∈ [9, 24, 3, 3] := by simpa using Array.mem_of_getElem? ht
  have hall : ([9, 24, 3, 3].all fun u => !Tryd.prog.wantsStandIn u) = true := by kernel_rfl
  exact (show Tryd.prog.wantsStandIn t = false by simpa using List.all_eq_true.1 hall t hm)
theorem argsSays_card : Rows.ArgsSaysUptoCardSaid :=
  Claim7.holds_tied_plain_at .later [] _ _ _ _ argsSays_holds (fun _ h => by cases h) (by kernel_rfl) (fun _ h => by cases h) argsSaysUpto_row_tie rfl ⟨rfl, rfl⟩ (by kernel_rfl) rfl argsSays_plain (by kernel_rfl)

end Go.Proofs.YthllelffblpdkaaDoor
