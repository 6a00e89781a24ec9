/- farlaw.ParseFeeds returns true for every input of bulk at most 1048576, and each argument reads as it read. -/
import Derived.Test.YtflmckoolagikaaDoorCardM
import Derived.Test.YtflmckoolagikaaDoorLawTr
import Derived.Test.YtflmckoolagikaaDoorPar7
import Derived.Test.YtflmckoolagikaaDoorPar8
namespace Go.Proofs.YtflmckoolagikaaDoor
open Go Go.RowKit Go.Fw Go.Sx Go.ChangeShapes Go.WideShapes Go.ChangeAt
set_option maxRecDepth 100000
set_option maxHeartbeats 2000000
attribute [local irreducible] SW SL SQ AtQ SV SC BB LD PK Yields SO SOT SOA SY

theorem own : ownKnob Tryd.prog.godebug = none := by kernel_rfl
theorem laidOut : laidOutB Tryd.prog = true := by kernel_rfl
abbrev A3 := Int
abbrev en3 : A3 → List Value := fun z => [.int .i64 z]
abbrev ok3 : World → A3 → Prop := fun _ z => (Lit.int .i64 z).wf = true
abbrev bk3 : A3 → Nat := fun _ => 0
theorem tr3 : Tr Tryd.prog 3 A3 en3 ok3 bk3 := Tr.int Tryd.underlying3 (by kernel_rfl)
abbrev A9 := ByteArray
abbrev en9 : A9 → List Value := fun z => [.string z]
abbrev ok9 : World → A9 → Prop := fun _ z => z.size ≤ maxLen
abbrev bk9 : A9 → Nat := fun z => z.size
theorem tr9 : Tr Tryd.prog 9 A9 en9 ok9 bk9 := Tr.str Tryd.underlying9 (by kernel_rfl)
abbrev A23 := (A3) × (A3) × (A9) × (A9) × (A9)
abbrev en23 : A23 → List Value := fun p => en3 p.1 ++ (en3 p.2.1 ++ (en9 p.2.2.1 ++ (en9 p.2.2.2.1 ++ (en9 p.2.2.2.2))))
abbrev ok23 : World → A23 → Prop := fun W p => ok3 W p.1 ∧ ok3 W p.2.1 ∧ ok9 W p.2.2.1 ∧ ok9 W p.2.2.2.1 ∧ ok9 W p.2.2.2.2
abbrev bk23 : A23 → Nat := fun p => bk3 p.1 + (bk3 p.2.1 + (bk9 p.2.2.1 + (bk9 p.2.2.2.1 + (bk9 p.2.2.2.2))))
theorem tr23 : Tr Tryd.prog 23 A23 en23 ok23 bk23 := Tr.struct (l := [(0, 3), (1, 3), (2, 9), (3, 9), (4, 9)]) (n := 5) (TrS.cons (o := 0) (o' := 1) (n := 5) tr3 (by kernel_rfl) (TrS.cons (o := 1) (o' := 2) (n := 5) tr3 (by kernel_rfl) (TrS.cons (o := 2) (o' := 3) (n := 5) tr9 (by kernel_rfl) (TrS.cons (o := 3) (o' := 4) (n := 5) tr9 (by kernel_rfl) (TrS.one (o := 4) (n := 5) tr9 (by kernel_rfl)))))) Tryd.underlying23 (by kernel_rfl) (by kernel_rfl)
abbrev A24 := Rx A3
abbrev en24 : A24 → List Value := fun x => [rxV x]
abbrev ok24 : World → A24 → Prop := fun W x => x.2.2.length ≤ x.2.1 ∧ x.2.2.length ≤ maxLen ∧ At W x.1 (x.2.2.flatMap en3) ∧ ∀ y ∈ x.2.2, ok3 W y
abbrev bk24 : A24 → Nat := fun x => (x.2.2.map fun y => bk3 y + 1).sum
theorem tr24 : Tr Tryd.prog 24 A24 en24 ok24 bk24 := Tr.slice tr3 Tryd.underlying24 (by kernel_rfl) (of_decide_eq_true (by kernel_rfl))
theorem psEq (s m : Int) (i g t : ByteArray) : EqVal Tryd.prog 10000 23 (.agg [.int .i64 s, .int .i64 m, .string i, .string g, .string t].toArray) (.agg [.int .i64 s, .int .i64 m, .string i, .string g, .string t].toArray) true := by
  have hfs : Tryd.prog.fieldsOf 23 = (match Tryd.prog.underlying 23 with | some (.struct fs) => fs | _ => #[]) := rfl
  refine eqval_struct (d := 9999) (by rw [hfs, Tryd.underlying23]) (by kernel_rfl) ?_
  rw [hfs, Tryd.underlying23]
  refine .eq (by decide) (u := .int .i64 s) (v := .int .i64 s) (part_one rfl) (part_one rfl) (eqself_int _) ?_
  refine .eq (by decide) (u := .int .i64 m) (v := .int .i64 m) (part_one rfl) (part_one rfl) (eqself_int _) ?_
  refine .eq (by decide) (u := .string i) (v := .string i) (part_one rfl) (part_one rfl) (eqself_str _) ?_
  refine .eq (by decide) (u := .string g) (v := .string g) (part_one rfl) (part_one rfl) (eqself_str _) ?_
  exact .eq (by decide) (u := .string t) (v := .string t) (part_one rfl) (part_one rfl) (eqself_str _) .nil
theorem parseFeeds_no (G : Ctx) (M : Int) (hM : ∀ H w, Holds G H w → w.cell? ⟨2, 0, none⟩ = some (.int .i64 M)) (s m : Int) (i g t : ByteArray) (hi : i.size ≤ 2000000) (hg : g.size ≤ 2000000) (ao : Option Addr) (n co : Nat) (h0 : parE s m i g t ≠ 0) : SV Tryd.prog G 3 [psV s m i g t, .slice ao n co] [] (.bool true) := by
  have c1 := fun H => pFeed_no G H M hM s m i g t hi hg ao n co _ rfl h0
  have c2 := fun H => parserRight_sv G H s m i g t hi hg
  have c3 := fun H => pCheck_sv G H M hM s m i g t hi hg
  have heq := psEq s m i g t
  generalize parE s m i g t = e at *
  clear hM hi hg
  refine sv_enter2 Tryd.func3 rfl rfl rfl rfl rfl ?_
  repeat' (first | (apply g_sl; first | (apply ks_nil; refine sl_nil ?_) | (apply ks_move; refine s_move rfl rfl ?_) | (apply ks_bin; refine s_bin rfl rfl rfl ?_; first | first | (refine bb_eqv heq (by kernel_rfl) ?_) | (refine c_storew rfl rfl rfl rfl rfl rfl rfl rfl ?_) | (first | refine bb_of rfl ?_)) | (apply ks_load; first | (refine s_load rfl rfl ?_; first | refine ld_cell rfl ?_ | refine ld_whole rfl ?_ | refine ld_elem rfl ?_ | refine ld_part rfl rfl ?_) | first | (refine bb_eqv heq (by kernel_rfl) ?_) | (refine c_storew rfl rfl rfl rfl rfl rfl rfl rfl ?_)) | (apply ks_asgn; refine s_asgn rfl rfl ?_) | (apply ks_pick; refine s_pick rfl rfl ?_; first | (apply kp_t; refine pk_t rfl ?_) | (apply kp_f; refine pk_f rfl ?_) | refine pk_s rfl rfl ?_) | (apply ks_extr; refine s_extr (y_extract rfl rfl rfl) rfl ?_) | (apply ks_fn; first | first | refine c_callv rfl rfl rfl (c1 _) rfl rfl ?_ | refine c_callv rfl rfl rfl (c2 _) rfl rfl ?_ | refine c_callv rfl rfl rfl (c3 _) rfl rfl ?_) | (apply ks_bi; first | first | (refine bb_eqv heq (by kernel_rfl) ?_) | (refine c_storew rfl rfl rfl rfl rfl rfl rfl rfl ?_) | refine s_call (c_len rfl rfl) rfl ?_ | refine s_call (c_len_str rfl rfl) rfl ?_ | refine s_call (c_bi rfl rfl rfl rfl) rfl ?_ | refine c_append rfl rfl rfl rfl (by first | rfl | simp [ints]) (by first | rfl | exact ints_one _ | exact octs_one _ | exact strs_one _) (by omega) rfl rfl (fun _ _ => ?_) | refine c_append_nil rfl rfl rfl rfl (by first | rfl | simp [ints]) (by first | rfl | exact ints_one _ | exact octs_one _ | exact strs_one _) (by omega) rfl rfl (fun _ _ => ?_)) | (apply ks_store; first | first | refine c_store rfl rfl rfl rfl rfl rfl rfl ?_ | refine c_storew rfl rfl rfl rfl rfl rfl rfl rfl ?_ | refine c_storee rfl rfl rfl rfl rfl (by omega) rfl ?_ | first | (refine bb_eqv heq (by kernel_rfl) ?_) | (refine c_storew rfl rfl rfl rfl rfl rfl rfl rfl ?_)) | (apply ks_box; refine c_box rfl rfl rfl rfl rfl rfl (fun _ => ?_)) | (apply ks_alloc; refine c_alloc rfl rfl rfl rfl (fun _ => ?_)) | (apply ks_guard; first | (refine sl_gd rfl rfl rfl rfl ?_; first | (apply gd_t) | (apply gd_ft) | (apply gd_tf) | (apply gd_dec_t <;> intro hq <;> (try (exfalso; omega))) | (apply gd_dec_f <;> intro hq <;> (try (exfalso; omega))) | (apply gd_beq_t <;> intro hq <;> (try (exfalso; omega))) | (apply gd_beq_f <;> intro hq <;> (try (exfalso; omega))) | (apply gd_bne_t <;> intro hq <;> (try (exfalso; omega))) | (apply gd_bne_f <;> intro hq <;> (try (exfalso; omega))) | (apply gd_not_t <;> intro hq) | (apply gd_not_f <;> intro hq) | (apply gd_raw_t <;> intro hq) | (apply gd_raw_f <;> intro hq)) | refine sl_skip_u rfl rfl rfl rfl rfl rfl ?_) | first | (refine bb_eqv heq (by kernel_rfl) ?_) | (refine c_storew rfl rfl rfl rfl rfl rfl rfl rfl ?_)) | (apply sw_seq) | (apply at_srd) | (apply sw_skip) | (apply sw_ret) | (apply sw_exit) | (apply sw_block) | (apply sw_region) | (refine sw_cd rfl ?_; first | (apply gd_t) | (apply gd_ft) | (apply gd_tf) | (apply gd_dec_t <;> intro hq <;> (try (exfalso; omega))) | (apply gd_dec_f <;> intro hq <;> (try (exfalso; omega))) | (apply gd_beq_t <;> intro hq <;> (try (exfalso; omega))) | (apply gd_beq_f <;> intro hq <;> (try (exfalso; omega))) | (apply gd_bne_t <;> intro hq <;> (try (exfalso; omega))) | (apply gd_bne_f <;> intro hq <;> (try (exfalso; omega))) | (apply gd_not_t <;> intro hq) | (apply gd_not_f <;> intro hq) | (apply gd_raw_t <;> intro hq) | (apply gd_raw_f <;> intro hq)) | (apply at_thn) | (apply at_thn_ret) | (apply at_thn_exit) | (apply at_inb) | (apply at_inb_ret) | (apply at_inb_exit) | refine at_inb_pass rfl ?_ | refine c_drawn (by kernel_rfl) ?_)
  all_goals first | exact absurd rfl (by assumption) | (exfalso; omega) | (refine e_sv (by first | exact .inl rfl | exact .inr rfl) rfl (List.nil_sublist _) ?_; simp [resV])
theorem parseFeeds_ok (G : Ctx) (M : Int) (hM : ∀ H w, Holds G H w → w.cell? ⟨2, 0, none⟩ = some (.int .i64 M)) (s m : Int) (i g t : ByteArray) (hp : okP (s, m, i, g, t)) (L : List Int) (ao : Option Addr) (n co : Nat) [h1 : ∀ H, RdC G H ao (ints L)] (hn : n = L.length) (hmn : n ≤ 1048576) : SV Tryd.prog G 3 [psV s m i g t, .slice ao n co] [] (.bool true) := by
  have c1 := fun H => pFeed_sc G H M hM s m i g t hp L ao n co hn hmn
  have c4 := fun H => parsed_sc G H M hM s m i g t hp L ao n co hn hmn
  have h0 := (parE_iff s m i g t).2 hp
  have hp2 := (ok_mk s m i g t).1 hp
  have c2 := fun H => parserRight_sv G H s m i g t (by omega) (by omega)
  have c3 := fun H => pCheck_sv G H M hM s m i g t (by omega) (by omega)
  rw [h0] at c2 c3
  clear hp2 hM hp h0
  generalize runP (s, m, i, g, t) L = Z at *
  obtain ⟨⟨s', m', i', g', t'⟩, Zs⟩ := Z
  unfold RunR at c1 c4
  dsimp only at c1 c4
  have heq := psEq s' m' i' g' t'
  refine sv_enter2 Tryd.func3 rfl rfl rfl rfl rfl ?_
  repeat' (first | (apply g_sl; first | (apply ks_nil; refine sl_nil ?_) | (apply ks_move; refine s_move rfl rfl ?_) | (apply ks_bin; refine s_bin rfl rfl rfl ?_; first | first | (refine c_storew rfl rfl rfl rfl rfl rfl rfl rfl ?_) | (first | refine bb_of rfl ?_)) | (apply ks_load; first | (refine s_load rfl rfl ?_; first | refine ld_cell rfl ?_ | refine ld_whole rfl ?_ | refine ld_elem rfl ?_ | refine ld_part rfl rfl ?_) | first | (refine c_storew rfl rfl rfl rfl rfl rfl rfl rfl ?_)) | (apply ks_asgn; refine s_asgn rfl rfl ?_) | (apply ks_pick; refine s_pick rfl rfl ?_; first | (apply kp_t; refine pk_t rfl ?_) | (apply kp_f; refine pk_f rfl ?_) | refine pk_s rfl rfl ?_) | (apply ks_extr; refine s_extr (y_extract rfl rfl rfl) rfl ?_) | (apply ks_fn; first | first | (refine c_call rfl rfl rfl (c1 _) rfl rfl ?_; rintro _ _ ⟨F, X, a1, k1, rfl, hX0, hX1, hX2, hX3, rfl⟩) | refine c_callv rfl rfl rfl (c2 _) rfl rfl ?_ | refine c_callv rfl rfl rfl (c3 _) rfl rfl ?_ | (refine c_call rfl rfl rfl (c4 _) rfl rfl ?_; rintro _ _ ⟨F2, Y, a2, k2, rfl, hY0, hY1, hY2, hY3, rfl⟩)) | (apply ks_bi; first | first | (refine c_storew rfl rfl rfl rfl rfl rfl rfl rfl ?_) | refine s_call (c_len rfl rfl) rfl ?_ | refine s_call (c_len_str rfl rfl) rfl ?_ | refine s_call (c_bi rfl rfl rfl rfl) rfl ?_ | refine c_append rfl rfl rfl rfl (by first | rfl | simp [ints]) (by first | rfl | exact ints_one _ | exact octs_one _ | exact strs_one _) (by omega) rfl rfl (fun _ _ => ?_) | refine c_append_nil rfl rfl rfl rfl (by first | rfl | simp [ints]) (by first | rfl | exact ints_one _ | exact octs_one _ | exact strs_one _) (by omega) rfl rfl (fun _ _ => ?_)) | (apply ks_store; first | first | refine c_store rfl rfl rfl rfl rfl rfl rfl ?_ | refine c_storew rfl rfl rfl rfl rfl rfl rfl rfl ?_ | refine c_storee rfl rfl rfl rfl rfl (by omega) rfl ?_ | first | (refine c_storew rfl rfl rfl rfl rfl rfl rfl rfl ?_)) | (apply ks_box; refine c_box rfl rfl rfl rfl rfl rfl (fun _ => ?_)) | (apply ks_alloc; refine c_alloc rfl rfl rfl rfl (fun _ => ?_)) | (apply ks_guard; first | (refine sl_gd rfl rfl rfl rfl ?_; first | (apply gd_t) | (apply gd_ft) | (apply gd_tf) | (apply gd_dec_t <;> intro hq <;> (try (exfalso; omega))) | (apply gd_dec_f <;> intro hq <;> (try (exfalso; omega))) | (apply gd_beq_t <;> intro hq <;> (try (exfalso; omega))) | (apply gd_beq_f <;> intro hq <;> (try (exfalso; omega))) | (apply gd_bne_t <;> intro hq <;> (try (exfalso; omega))) | (apply gd_bne_f <;> intro hq <;> (try (exfalso; omega))) | (apply gd_not_t <;> intro hq) | (apply gd_not_f <;> intro hq) | (apply gd_raw_t <;> intro hq) | (apply gd_raw_f <;> intro hq)) | refine sl_skip_u rfl rfl rfl rfl rfl rfl ?_) | first | (refine c_storew rfl rfl rfl rfl rfl rfl rfl rfl ?_)) | (apply sw_seq) | (apply at_srd) | (apply sw_skip) | (apply sw_ret) | (apply sw_exit) | (apply sw_block) | ((fail_if_success (refine g_reg (id := 6) ?_)); apply sw_region) | (refine sw_cd rfl ?_; first | (apply gd_t) | (apply gd_ft) | (apply gd_tf) | (apply gd_dec_t <;> intro hq <;> (try (exfalso; omega))) | (apply gd_dec_f <;> intro hq <;> (try (exfalso; omega))) | (apply gd_beq_t <;> intro hq <;> (try (exfalso; omega))) | (apply gd_beq_f <;> intro hq <;> (try (exfalso; omega))) | (apply gd_bne_t <;> intro hq <;> (try (exfalso; omega))) | (apply gd_bne_f <;> intro hq <;> (try (exfalso; omega))) | (apply gd_not_t <;> intro hq) | (apply gd_not_f <;> intro hq) | (apply gd_raw_t <;> intro hq) | (apply gd_raw_f <;> intro hq)) | (apply at_thn) | (apply at_thn_ret) | (apply at_thn_exit) | (apply at_inb) | (apply at_inb_ret) | (apply at_inb_exit) | refine at_inb_pass rfl ?_ | ((fail_if_success (refine g_reg (id := 6) ?_)); refine c_drawn (by kernel_rfl) ?_))
  all_goals first | exact absurd rfl (by assumption) | (exfalso; omega) | skip
  have hpl : ∀ X : List Ac, X.map (fun y => (y.1, y.2.1, y.2.2.1, y.2.2.2.1, y.2.2.2.2.1.2.2, y.2.2.2.2.2)) = X.map plA := fun _ => rfl
  have c5 := fun (H : List Ent) (hF : ∀ w, Holds G H w → Holds G F w) (hF2 : ∀ w, Holds G H w → Holds G F2 w) => by
    haveI : RdC G H a1 (acs X) := (hX3.mono hF).rd
    haveI : RdC G H a2 (acs Y) := (hY3.mono hF2).rd
    exact sameActs_sv G H X Y a1 a2 X.length k1 k2 rfl rfl (fun y hy => (hX2 y hy).mono hF) (fun y hy => (hY2 y hy).mono hF2) rfl (by omega) (by rw [hpl, hpl, hX1, hY1])
  have hXY : X.length = Y.length := by rw [← List.length_map (f := plA), hX1, ← hY1, List.length_map]
  rw [← hXY]
  clear c1 c2 c3 c4 hX1 hX2 hX3 hY1 hY2 hY3 hXY
  repeat' (first | (apply g_sl; first | (apply ks_nil; refine sl_nil ?_) | (apply ks_move; refine s_move rfl rfl ?_) | (apply ks_bin; refine s_bin rfl rfl rfl ?_; first | first | (refine bb_eqv heq (by kernel_rfl) ?_) | (first | refine bb_of rfl ?_)) | (apply ks_load; first | (refine s_load rfl rfl ?_; first | refine ld_cell rfl ?_ | refine ld_whole rfl ?_ | refine ld_elem rfl ?_ | refine ld_part rfl rfl ?_) | first | (refine bb_eqv heq (by kernel_rfl) ?_)) | (apply ks_asgn; refine s_asgn rfl rfl ?_) | (apply ks_pick; refine s_pick rfl rfl ?_; first | (apply kp_t; refine pk_t rfl ?_) | (apply kp_f; refine pk_f rfl ?_) | refine pk_s rfl rfl ?_) | (apply ks_extr; refine s_extr (y_extract rfl rfl rfl) rfl ?_) | (apply ks_fn; first | refine c_callv rfl rfl rfl (c5 _ (fun _ hw => hw.sub (by repeat (first | exact List.sublist_append_left _ _ | refine List.Sublist.cons _ ?_ | refine List.Sublist.trans ?_ (List.sublist_append_right _ _)))) (fun _ hw => hw.sub (by repeat (first | exact List.sublist_append_left _ _ | refine List.Sublist.cons _ ?_ | refine List.Sublist.trans ?_ (List.sublist_append_right _ _))))) rfl rfl ?_) | (apply ks_bi; first | first | (refine bb_eqv heq (by kernel_rfl) ?_) | refine s_call (c_len rfl rfl) rfl ?_ | refine s_call (c_len_str rfl rfl) rfl ?_ | refine s_call (c_bi rfl rfl rfl rfl) rfl ?_ | refine c_append rfl rfl rfl rfl (by first | rfl | simp [ints]) (by first | rfl | exact ints_one _ | exact octs_one _ | exact strs_one _) (by omega) rfl rfl (fun _ _ => ?_) | refine c_append_nil rfl rfl rfl rfl (by first | rfl | simp [ints]) (by first | rfl | exact ints_one _ | exact octs_one _ | exact strs_one _) (by omega) rfl rfl (fun _ _ => ?_)) | (apply ks_store; first | first | refine c_store rfl rfl rfl rfl rfl rfl rfl ?_ | refine c_storew rfl rfl rfl rfl rfl rfl rfl rfl ?_ | refine c_storee rfl rfl rfl rfl rfl (by omega) rfl ?_ | first | (refine bb_eqv heq (by kernel_rfl) ?_)) | (apply ks_box; refine c_box rfl rfl rfl rfl rfl rfl (fun _ => ?_)) | (apply ks_alloc; refine c_alloc rfl rfl rfl rfl (fun _ => ?_)) | (apply ks_guard; first | (refine sl_gd rfl rfl rfl rfl ?_; first | (apply gd_t) | (apply gd_ft) | (apply gd_tf) | (apply gd_dec_t <;> intro hq <;> (try (exfalso; omega))) | (apply gd_dec_f <;> intro hq <;> (try (exfalso; omega))) | (apply gd_beq_t <;> intro hq <;> (try (exfalso; omega))) | (apply gd_beq_f <;> intro hq <;> (try (exfalso; omega))) | (apply gd_bne_t <;> intro hq <;> (try (exfalso; omega))) | (apply gd_bne_f <;> intro hq <;> (try (exfalso; omega))) | (apply gd_not_t <;> intro hq) | (apply gd_not_f <;> intro hq) | (apply gd_raw_t <;> intro hq) | (apply gd_raw_f <;> intro hq)) | refine sl_skip_u rfl rfl rfl rfl rfl rfl ?_) | first | (refine bb_eqv heq (by kernel_rfl) ?_)) | (apply sw_seq) | (apply at_srd) | (apply sw_skip) | (apply sw_ret) | (apply sw_exit) | (apply sw_block) | (apply sw_region) | (refine sw_cd rfl ?_; first | (apply gd_t) | (apply gd_ft) | (apply gd_tf) | (apply gd_dec_t <;> intro hq <;> (try (exfalso; omega))) | (apply gd_dec_f <;> intro hq <;> (try (exfalso; omega))) | (apply gd_beq_t <;> intro hq <;> (try (exfalso; omega))) | (apply gd_beq_f <;> intro hq <;> (try (exfalso; omega))) | (apply gd_bne_t <;> intro hq <;> (try (exfalso; omega))) | (apply gd_bne_f <;> intro hq <;> (try (exfalso; omega))) | (apply gd_not_t <;> intro hq) | (apply gd_not_f <;> intro hq) | (apply gd_raw_t <;> intro hq) | (apply gd_raw_f <;> intro hq)) | (apply at_thn) | (apply at_thn_ret) | (apply at_thn_exit) | (apply at_inb) | (apply at_inb_ret) | (apply at_inb_exit) | refine at_inb_pass rfl ?_ | refine c_drawn (by kernel_rfl) ?_)
  all_goals first | exact absurd rfl (by assumption) | (exfalso; omega) | (refine e_sv (by first | exact .inl rfl | exact .inr rfl) rfl (List.nil_sublist _) ?_; simp [resV])
theorem parseFeeds_walk (W : World) (y0 : A23) (o0 : ok23 W y0) (y1 : A24) (o1 : ok24 W y1) (hb : bk23 y0 + bk24 y1 ≤ 1048576) (_ : laidMetH Tryd.prog Rows.parseFeedsRow.laid W) (hS : W.ShapedOpen Tryd.prog) : Calls Tryd.prog 3 #[.agg (en23 y0).toArray, rxV y1] W fun e w' => e = .returned (.bool true) ∧ Below W.heap.size W w' := by
  obtain ⟨m', hM⟩ := maxLen_cell W hS
  obtain ⟨a, cp, L⟩ := y1
  obtain ⟨s, m, i, g, t⟩ := y0
  obtain ⟨-, -, hA, -⟩ := o1
  have hA' : At W a (ints L) := by
    have e : L.flatMap (fun z => [Value.int .i64 z]) = ints L := fm_map (Value.int .i64) L
    rw [← e]; exact hA
  haveI : ∀ H, RdC ⟨W.heap.size, W⟩ H a (ints L) := fun H => RdC.top hA'
  have hb' : (0 + (0 + (i.size + (g.size + t.size)))) + (List.map (fun _ : Int => 0 + 1) L).sum ≤ 1048576 := hb
  have hsum : (List.map (fun _ : Int => 0 + 1) L).sum = L.length := by
    clear hb' hb hA hA' this
    induction L with
    | nil => rfl
    | cons x L ih => rw [List.map_cons, List.sum_cons, List.length_cons, ih]; omega
  by_cases h0 : parE s m i g t = 0
  · exact calls_of_sv (parseFeeds_ok _ m' hM s m i g t ((parE_iff s m i g t).1 h0) L a L.length cp rfl (by omega))
  · exact calls_of_sv (parseFeeds_no _ m' hM s m i g t (by omega) (by omega) a L.length cp h0)

set_option maxRecDepth 100000 in
theorem parseFeeds_law {H : Type} (enc : TypeId × Value → H) (W : World) {base : Nat} {v0 v1 : Value} {d0 d1 : DataW H} {p0 p1 : List MemPlace}
    (k0 : Value.okWide Tryd.prog W .any base 23 v0) (h0 : DataW.Trod enc Tryd.prog W 0 (fun _ => true) true 23 v0 d0 p0)
    (k1 : Value.okWide Tryd.prog W .any base 24 v1) (h1 : DataW.Trod enc Tryd.prog W 0 (fun _ => true) true 24 v1 d1 p1)
    (hk : Rows.uptoSmall H [d0, d1] = true)
    (hL : laidMetH Tryd.prog Rows.parseFeedsUptoRow.laid W) (hS : W.ShapedOpen Tryd.prog)
    : Calls Tryd.prog 3 #[v0, v1] W fun e w' => e = .returned (.bool true) ∧ Below W.heap.size W w' := by
  obtain ⟨y0, rfl, o0, b0⟩ := tr_agg Tryd.underlying23 tr23 k0 h0
  obtain ⟨y1, rfl, o1, b1⟩ := tr_slice Tryd.underlying24 tr24 k1 h1
  have hb := bulk_all hk
  simp only [Rows.uptoBulkAll] at hb
  exact parseFeeds_walk W y0 o0 y1 o1 (by omega) hL hS

set_option maxRecDepth 100000 in
theorem parseFeeds_contract (H : Type) (enc : TypeId × Value → H) (W : World) (base : Nat) (args : Array Value) (ds gs : List (DataW H)) (before : List MemPlace)
    (hval : ∀ (j : Nat) t v, Tryd.f3.params[j]? = some t → args[j]? = some v → Value.okWide Tryd.prog W .any base t v)
    (hW : DataW.Whole enc Tryd.prog Tryd.f3.params.toList Rows.parseFeedsSpec.vars false W args.toList ds gs before) (hk : Rows.uptoSmall H (ds ++ gs) = true) (hL : laidMetH Tryd.prog Rows.parseFeedsUptoRow.laid W) (hS : W.ShapedOpen Tryd.prog) :
    Calls Tryd.prog 3 args W fun e W' => ∃ v, e = .returned v ∧ Rows.parseFeedsSpec.post enc Tryd.prog Tryd.f3 false true false false W args v W' := by
  have hW' := hW
  obtain ⟨p, q, hA0, hV, rfl, hfz, hnd⟩ := hW'
  have hA : DataW.TrodAll enc Tryd.prog W 0 (fun _ => true) true Tryd.f3.params.toList args.toList ds p := hA0
  rw [Tryd.params3] at hA hval
  obtain ⟨v0, vs0, d0, ds0, p0, q0, hargs, rfl, rfl, h0, r0⟩ := trodAll_cons hA
  obtain ⟨v1, vs1, d1, ds1, p1, q1, rfl, rfl, rfl, h1, r1⟩ := trodAll_cons r0
  obtain ⟨rfl, rfl, rfl⟩ := trodAll_nil r1
  obtain rfl : args = #[v0, v1] := by cases args; simp_all
  obtain ⟨rfl, rfl⟩ := trodVars_none hV
  clear hA0
  have k0 := hval 0 23 v0 rfl rfl
  have k1 := hval 1 24 v1 rfl rfl
  simp only [List.append_nil] at hk
  refine (parseFeeds_law enc W k0 h0 k1 h1 hk hL hS).mono fun e W' ⟨he, hg⟩ => ?_
  subst he
  exact ⟨_, rfl, law_post (s := Rows.parseFeedsSpec) laidOut (by kernel_rfl) rfl Tryd.underlying4 rfl hW rfl hg⟩

noncomputable def parseFeeds_world (os : Os) : World := { World.holding Tryd.prog os ⟨#[], #[], []⟩ with heap := (((World.holding Tryd.prog os ⟨#[], #[], []⟩).heap.modify 1 fun | .cells _ t frozen => .cells (dCells Rows.laid_unicode_utf8_acceptRanges).toArray t frozen | o => o).modify 0 fun | .cells _ t frozen => .cells (dCells Rows.laid_unicode_utf8_first).toArray t frozen | o => o) }
theorem parseFeeds_met (os : Os) : laidMet Tryd.prog Rows.parseFeedsUptoRow.laid ((parseFeeds_world os).forCall (fun _ _ => 0) ⟨#[], #[.agg #[.int .i64 0, .int .i64 0, .string .empty, .string .empty, .string .empty], .slice none 0 0], []⟩).memory := laidMet_of_run' 12 (by kernel_rfl) (by kernel_rfl)
theorem parseFeeds_reads (os : Os) {H : Type} (enc : TypeId × Value → H) : ∃ places, DataW.whole enc Tryd.prog ((parseFeeds_world os).forCall (fun _ _ => 0) ⟨#[], #[.agg #[.int .i64 0, .int .i64 0, .string .empty, .string .empty, .string .empty], .slice none 0 0], []⟩).memory Tryd.f3.params.toList Rows.parseFeedsSpec.vars false (#[.agg #[.int .i64 0, .int .i64 0, .string .empty, .string .empty, .string .empty], .slice none 0 0] : Array Value).toList 12 = some ([.agg [.lit (.int .i64 0), .lit (.int .i64 0), .lit (.string []), .lit (.string []), .lit (.string [])], .nil], [], places) := ⟨[], by kernel_rfl⟩
set_option maxRecDepth 100000 in
theorem parseFeeds_lifted (os : Os) (started : os.Started) (H : Type) (enc : TypeId × Value → H) (F : Stop.Interp) :
    ReturnsInHanded {} Tryd.checked os 3 .any ((Rows.OpenSpec.upto Rows.parseFeedsSpec).preRow enc Tryd.prog Tryd.f3 Rows.parseFeedsUptoRow.domain false Rows.parseFeedsUptoRow.laid) (((Rows.OpenSpec.upto Rows.parseFeedsSpec).at F).post enc Tryd.prog Tryd.f3 false true false false) := by
  obtain ⟨places, hx⟩ := parseFeeds_reads os enc
  refine returnsInHanded_of_row (C := Tryd.checked) (s := Rows.OpenSpec.upto Rows.parseFeedsSpec) own started (by kernel_rfl) Tryd.func3
    (witness_row_at (enc := enc) (C := Tryd.checked) false (parseFeeds_world os) #[.agg #[.int .i64 0, .int .i64 0, .string .empty, .string .empty, .string .empty], .slice none 0 0] rfl (by kernel_rfl) (by kernel_rfl) (by kernel_rfl)
      (OpenSpec.preRow_of_cond 12 hx (by kernel_rfl) (fun k hk => by cases hk; kernel_rfl) (by kernel_rfl) (parseFeeds_met os))) ?_
  intro W base args ds gs before hval hW _ hk _ hL hS _
  exact parseFeeds_contract H enc W base args ds gs before hval hW (hk _ rfl) hL hS

theorem parseFeeds_holds : Rows.ParseFeedsUptoSaid :=
  OpenClaim.holds_of_cond 3 Tryd.f3 rfl rfl rfl rfl rfl rfl rfl ⟨rfl, rfl, rfl, rfl, rfl⟩ rfl rfl rfl rfl rfl (by kernel_rfl) Tryd.func3 (by kernel_rfl)
    (of_decide_eq_true (by kernel_rfl)) (by unfold Func.isWrapper; first | (rw [if_pos (by decide +kernel)]; kernel_rfl) | (rw [if_neg (by decide +kernel)]; exact ⟨rfl, rfl⟩))
    (fun os started H enc _ F => by rw [OpenClaim.pre_eq_preRow]; exact parseFeeds_lifted os started H enc F)
theorem parseFeeds_plain (f : FuncId) (fn : Func) (hf : Tryd.pinned.checked.prog.funcNamed "farwriter/farlaw.ParseFeeds" = some f) (hfn : Tryd.pinned.checked.prog.funcs[f]? = some fn) :
    true = Tryd.pinned.checked.prog.looks [] ∧ ∀ (j : Nat) t, fn.params[j]? = some t → Tryd.pinned.checked.prog.wantsStandIn t = false := by
  obtain rfl : f = 3 := Option.some.inj ((show Tryd.prog.funcNamed "farwriter/farlaw.ParseFeeds" = some 3 by kernel_rfl).symm.trans hf) |>.symm
  obtain rfl : fn = Tryd.f3 := (Option.some.inj (Tryd.func3.symm.trans hfn)).symm
  refine ⟨by kernel_rfl, fun j t ht => ?_⟩
  rw [Tryd.params3] at ht
  have hm : t ∈ [23, 24] := by simpa using Array.mem_of_getElem? ht
  have hall : ([23, 24].all fun u => !Tryd.prog.wantsStandIn u) = true := by kernel_rfl
  exact (show Tryd.prog.wantsStandIn t = false by simpa using List.all_eq_true.1 hall t hm)
theorem parseFeeds_card : Rows.ParseFeedsUptoCardSaid :=
  Claim7.holds_tied_plain_at .later [] _ _ _ _ parseFeeds_holds (fun _ h => by cases h) (by kernel_rfl) (fun _ h => by cases h) parseFeedsUpto_row_tie rfl ⟨rfl, rfl⟩ (by kernel_rfl) rfl parseFeeds_plain (by kernel_rfl)

end Go.Proofs.YtflmckoolagikaaDoor
