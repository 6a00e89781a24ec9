/- farlaw.EnvironWrites returns true for every input of bulk at most 1048576, and each argument reads as it read. -/
import Derived.Test.YteicfkhaaeoheaaDoorCardM
import Derived.Test.YteicfkhaaeoheaaDoorLawTr
import Derived.Test.YteicfkhaaeoheaaDoorEnv6
namespace Go.Proofs.YteicfkhaaeoheaaDoor
open Go Go.RowKit Go.Fw Go.Sx Go.ChangeShapes Go.WideShapes Go.ChangeAt
set_option maxRecDepth 100000
set_option maxHeartbeats 2000000
attribute [local irreducible] SW SL SQ AtQ SV SC BB LD PK Yields SO SOT SOA SY

theorem own : ownKnob Tryd.prog.godebug = none := by kernel_rfl
theorem laidOut : laidOutB Tryd.prog = true := by kernel_rfl
abbrev A9 := ByteArray
abbrev en9 : A9 → List Value := fun z => [.string z]
abbrev ok9 : World → A9 → Prop := fun _ z => z.size ≤ maxLen
abbrev bk9 : A9 → Nat := fun z => z.size
theorem tr9 : Tr Tryd.prog 9 A9 en9 ok9 bk9 := Tr.str Tryd.underlying9 (by kernel_rfl)
abbrev A4 := Bool
abbrev en4 : A4 → List Value := fun z => [.bool z]
abbrev ok4 : World → A4 → Prop := fun _ _ => True
abbrev bk4 : A4 → Nat := fun _ => 0
theorem tr4 : Tr Tryd.prog 4 A4 en4 ok4 bk4 := Tr.bool Tryd.underlying4 (by kernel_rfl)
abbrev A54 := (A9) × (A9) × (A4) × (A4)
abbrev en54 : A54 → List Value := fun p => en9 p.1 ++ (en9 p.2.1 ++ (en4 p.2.2.1 ++ (en4 p.2.2.2)))
abbrev ok54 : World → A54 → Prop := fun W p => ok9 W p.1 ∧ ok9 W p.2.1 ∧ ok4 W p.2.2.1 ∧ ok4 W p.2.2.2
abbrev bk54 : A54 → Nat := fun p => bk9 p.1 + (bk9 p.2.1 + (bk4 p.2.2.1 + (bk4 p.2.2.2)))
theorem tr54 : Tr Tryd.prog 54 A54 en54 ok54 bk54 := Tr.struct (l := [(0, 9), (1, 9), (2, 4), (3, 4)]) (n := 4) (TrS.cons (o := 0) (o' := 1) (n := 4) tr9 (by kernel_rfl) (TrS.cons (o := 1) (o' := 2) (n := 4) tr9 (by kernel_rfl) (TrS.cons (o := 2) (o' := 3) (n := 4) tr4 (by kernel_rfl) (TrS.one (o := 3) (n := 4) tr4 (by kernel_rfl))))) Tryd.underlying54 (by kernel_rfl) (by kernel_rfl)
abbrev A48 := Rx A54
abbrev en48 : A48 → List Value := fun x => [rxV x]
abbrev ok48 : World → A48 → Prop := fun W x => x.2.2.length ≤ x.2.1 ∧ x.2.2.length ≤ maxLen ∧ At W x.1 (x.2.2.flatMap en54) ∧ ∀ y ∈ x.2.2, ok54 W y
abbrev bk48 : A48 → Nat := fun x => (x.2.2.map fun y => bk54 y + 1).sum
theorem tr48 : Tr Tryd.prog 48 A48 en48 ok48 bk48 := Tr.slice tr54 Tryd.underlying48 (by kernel_rfl) (of_decide_eq_true (by kernel_rfl))
theorem eqVar_sv (G : Ctx) (H : List Ent) (L : List Vr) {vs us : List Value} (a a2 : Option Addr) (n m c c2 : Nat) [h1 : RdC G H a vs] [h2 : RdC G H a2 us] (hv : vs = vrs L) (hu : us = vrs L) (hn : n = L.length) (hn2 : m = L.length) (hm : n ≤ 9223372036854775807) : SV Tryd.prog G 33 [.slice a n c, .slice a2 m c2] H (.bool true) := by
  obtain rfl : m = n := by omega
  have hlx : vs.length = m * 4 := by rw [hv, vrs_len, hn]
  have hlu : us.length = m * 4 := by rw [hu, vrs_len, hn]
  have hel : ∀ (k : Nat) x, L[k]? = some x → take? (vs.drop ((k : Int).toNat * 4)) 4 = some (vrC x) ∧ take? (us.drop ((k : Int).toNat * 4)) 4 = some (vrC x) := fun k x hx => by subst hv; subst hu; exact ⟨fm_elem hx, fm_elem hx⟩
  have Hn := Lib.hid hn
  have Hel := Lib.hid hel
  clear hel hv hu hn hn2
  refine sv_enter2 Tryd.func33 rfl rfl rfl rfl rfl ?_
  repeat' (first | (apply g_sl; first | (apply ks_nil; refine sl_nil ?_) | (apply ks_move; refine s_move rfl rfl ?_) | (apply ks_bin; refine s_bin rfl rfl rfl ?_; first | fail | (first | (apply kb_add; first | refine bb_add ⟨by omega, by omega⟩ ?_ | refine bb_of rfl ?_) | refine bb_of rfl ?_)) | (apply ks_load; first | (refine s_load rfl rfl ?_; first | refine ld_cell rfl ?_ | refine ld_whole rfl ?_ | refine ld_elem rfl ?_ | refine ld_part rfl rfl ?_) | fail) | (apply ks_asgn; refine s_asgn rfl rfl ?_) | (apply ks_indexA; first | refine s_indexA (c_indexAddr rfl rfl rfl rfl (by omega) (by omega)) rfl ?_ | fail) | (apply ks_bi; first | fail | refine s_call (c_len rfl rfl) rfl ?_ | refine s_call (c_len_str rfl rfl) rfl ?_ | refine s_call (c_bi rfl rfl rfl rfl) rfl ?_ | refine c_append rfl rfl rfl rfl (by first | rfl | simp [ints]) (by first | rfl | exact ints_one _ | exact octs_one _ | exact strs_one _) (by omega) rfl rfl (fun _ _ => ?_) | refine c_append_nil rfl rfl rfl rfl (by first | rfl | simp [ints]) (by first | rfl | exact ints_one _ | exact octs_one _ | exact strs_one _) (by omega) rfl rfl (fun _ _ => ?_)) | fail) | (apply sw_seq) | (apply at_srd) | (apply sw_skip) | (apply sw_ret) | (apply sw_exit) | (apply sw_block) | (apply sw_region) | (refine sw_cd rfl ?_; first | (apply gd_t) | (apply gd_ft) | (apply gd_tf) | (apply gd_dec_t <;> intro hq <;> (try (exfalso; omega))) | (apply gd_dec_f <;> intro hq <;> (try (exfalso; omega))) | (apply gd_beq_t <;> intro hq <;> (try (exfalso; omega))) | (apply gd_beq_f <;> intro hq <;> (try (exfalso; omega))) | (apply gd_bne_t <;> intro hq <;> (try (exfalso; omega))) | (apply gd_bne_f <;> intro hq <;> (try (exfalso; omega))) | (apply gd_not_t <;> intro hq) | (apply gd_not_f <;> intro hq) | (apply gd_raw_t <;> intro hq) | (apply gd_raw_f <;> intro hq)) | (apply at_thn) | (apply at_thn_ret) | (apply at_thn_exit) | (apply at_inb) | (apply at_inb_ret) | (apply at_inb_exit) | refine at_inb_pass rfl ?_ | refine c_drawn (by kernel_rfl) ?_)
  refine sw_loopg (α := Nat) (fun j => [(0, .slice a m c), (1, .slice a2 m c2), (12, .int .i64 m), (13, .int .i64 j)]) (fun _ => H)
    (fun j => j ≤ m) (fun j => m - j) 0 (Nat.zero_le _) (by repeat (first | exact Le.nil _ | refine Le.cons (by first | rfl | (exact congrArg some (congrArg (Value.int _) (by omega)))) ?_)) (fun _ hw => hw.subs (by repeat (first | refine Subs.cons (by repeat constructor) ?_ | exact Subs.sub (by repeat (first | exact List.Sublist.refl _ | exact List.nil_sublist _ | refine List.Sublist.cons _ ?_))))) ?_
  intro j hj
  by_cases hlt : (j : Int) < m
  · obtain ⟨x, hx⟩ := get_of (X := L) (k := j) (by rw [← Hn.out]; omega)
    have heq := vrEq x
    obtain ⟨nm, vl, u, st⟩ := x
    have e1 : take? (vs.drop ((j : Int).toNat * 4)) 4 = some [.string nm, .string vl, .bool u, .bool st] := (Hel.out j _ hx).1
    have e2 : take? (us.drop ((j : Int).toNat * 4)) 4 = some [.string nm, .string vl, .bool u, .bool st] := (Hel.out j _ hx).2
    clear hx
    repeat' (first | (apply g_sl; first | (apply ks_nil; refine sl_nil ?_) | (apply ks_move; refine s_move rfl rfl ?_) | (apply ks_bin; refine s_bin rfl rfl rfl ?_; first | first | (refine s_indexA (c_indexAddr rfl rfl rfl hlx (by omega) (by omega)) rfl ?_) | (first | (apply kb_add; first | refine bb_add ⟨by omega, by omega⟩ ?_ | refine bb_of rfl ?_) | refine bb_of rfl ?_)) | (apply ks_load; first | (refine s_load rfl rfl ?_; first | refine ld_cell rfl ?_ | refine ld_whole rfl ?_ | refine ld_elem rfl ?_ | refine ld_part rfl rfl ?_) | first | (refine s_indexA (c_indexAddr rfl rfl rfl hlx (by omega) (by omega)) rfl ?_)) | (apply ks_asgn; refine s_asgn rfl rfl ?_) | (apply ks_indexA; first | refine s_indexA (c_indexAddr rfl rfl rfl rfl (by omega) (by omega)) rfl ?_ | first | (refine s_indexA (c_indexAddr rfl rfl rfl hlx (by omega) (by omega)) rfl ?_)) | (apply ks_bi; first | first | (refine s_indexA (c_indexAddr rfl rfl rfl hlx (by omega) (by omega)) rfl ?_) | refine s_call (c_len rfl rfl) rfl ?_ | refine s_call (c_len_str rfl rfl) rfl ?_ | refine s_call (c_bi rfl rfl rfl rfl) rfl ?_ | refine c_append rfl rfl rfl rfl (by first | rfl | simp [ints]) (by first | rfl | exact ints_one _ | exact octs_one _ | exact strs_one _) (by omega) rfl rfl (fun _ _ => ?_) | refine c_append_nil rfl rfl rfl rfl (by first | rfl | simp [ints]) (by first | rfl | exact ints_one _ | exact octs_one _ | exact strs_one _) (by omega) rfl rfl (fun _ _ => ?_)) | first | (refine s_indexA (c_indexAddr rfl rfl rfl hlx (by omega) (by omega)) rfl ?_)) | (apply g_sq; first | (apply kq_nil; refine sq_nil ?_) | (apply kq_move; refine q_move rfl rfl ?_) | (apply kq_bin; refine q_bin rfl rfl rfl ?_; first | first | (refine q_indexA (c_indexAddr rfl rfl rfl hlx (by omega) (by omega)) rfl ?_) | (refine q_indexA (c_indexAddr rfl rfl rfl hlu (by omega) (by omega)) rfl ?_) | (refine q_load rfl rfl ?_; first | refine ld_elems e1 rfl ?_ | refine ld_elems e2 rfl ?_) | (refine bb_nev heq (by kernel_rfl) ?_) | (first | (apply kb_add; first | refine bb_add ⟨by omega, by omega⟩ ?_ | refine bb_of rfl ?_) | refine bb_of rfl ?_)) | (apply kq_load; first | (refine q_load rfl rfl ?_; first | refine ld_cell rfl ?_ | refine ld_whole rfl ?_ | refine ld_elem rfl ?_ | refine ld_part rfl rfl ?_) | first | (refine q_indexA (c_indexAddr rfl rfl rfl hlx (by omega) (by omega)) rfl ?_) | (refine q_indexA (c_indexAddr rfl rfl rfl hlu (by omega) (by omega)) rfl ?_) | (refine q_load rfl rfl ?_; first | refine ld_elems e1 rfl ?_ | refine ld_elems e2 rfl ?_) | (refine bb_nev heq (by kernel_rfl) ?_)) | (apply kq_asgn; refine q_asgn rfl rfl ?_) | (apply kq_indexA; first | refine q_indexA (c_indexAddr rfl rfl rfl rfl (by omega) (by omega)) rfl ?_ | first | (refine q_indexA (c_indexAddr rfl rfl rfl hlx (by omega) (by omega)) rfl ?_) | (refine q_indexA (c_indexAddr rfl rfl rfl hlu (by omega) (by omega)) rfl ?_) | (refine q_load rfl rfl ?_; first | refine ld_elems e1 rfl ?_ | refine ld_elems e2 rfl ?_) | (refine bb_nev heq (by kernel_rfl) ?_)) | (apply kq_bi; first | first | (refine q_indexA (c_indexAddr rfl rfl rfl hlx (by omega) (by omega)) rfl ?_) | (refine q_indexA (c_indexAddr rfl rfl rfl hlu (by omega) (by omega)) rfl ?_) | (refine q_load rfl rfl ?_; first | refine ld_elems e1 rfl ?_ | refine ld_elems e2 rfl ?_) | (refine bb_nev heq (by kernel_rfl) ?_) | refine q_call (c_len rfl rfl) rfl ?_ | refine q_call (c_len_str rfl rfl) rfl ?_) | first | (refine q_indexA (c_indexAddr rfl rfl rfl hlx (by omega) (by omega)) rfl ?_) | (refine q_indexA (c_indexAddr rfl rfl rfl hlu (by omega) (by omega)) rfl ?_) | (refine q_load rfl rfl ?_; first | refine ld_elems e1 rfl ?_ | refine ld_elems e2 rfl ?_) | (refine bb_nev heq (by kernel_rfl) ?_)) | (apply sw_seq) | (apply at_srd) | (apply sw_skip) | (apply sw_ret) | (apply sw_exit) | (apply sw_block) | (apply sw_region) | (refine sw_cd rfl ?_; first | (apply gd_t) | (apply gd_ft) | (apply gd_tf) | (apply gd_dec_t <;> intro hq <;> (try (exfalso; omega))) | (apply gd_dec_f <;> intro hq <;> (try (exfalso; omega))) | (apply gd_beq_t <;> intro hq <;> (try (exfalso; omega))) | (apply gd_beq_f <;> intro hq <;> (try (exfalso; omega))) | (apply gd_bne_t <;> intro hq <;> (try (exfalso; omega))) | (apply gd_bne_f <;> intro hq <;> (try (exfalso; omega))) | (apply gd_not_t <;> intro hq) | (apply gd_not_f <;> intro hq) | (apply gd_raw_t <;> intro hq) | (apply gd_raw_f <;> intro hq)) | (apply at_thn) | (apply at_thn_ret) | (apply at_thn_exit) | (apply at_inb) | (apply at_inb_ret) | (apply at_inb_exit) | refine at_inb_pass rfl ?_ | refine c_drawn (by kernel_rfl) ?_)
    exact at_meet (j + 1) ⟨by omega, by omega⟩ (by repeat (first | exact Le.nil _ | refine Le.cons (by first | rfl | (exact congrArg some (congrArg (Value.int _) (by omega)))) ?_)) (fun _ hw => hw.subs (by repeat (first | refine Subs.cons (by repeat constructor) ?_ | exact Subs.sub (by repeat (first | exact List.Sublist.refl _ | exact List.nil_sublist _ | refine List.Sublist.cons _ ?_)))))
  · obtain rfl : m = j := by omega
    repeat' (first | (apply g_sl; first | (apply ks_nil; refine sl_nil ?_) | (apply ks_move; refine s_move rfl rfl ?_) | (apply ks_bin; refine s_bin rfl rfl rfl ?_; first | fail | (first | (apply kb_add; first | refine bb_add ⟨by omega, by omega⟩ ?_ | refine bb_of rfl ?_) | refine bb_of rfl ?_)) | (apply ks_load; first | (refine s_load rfl rfl ?_; first | refine ld_cell rfl ?_ | refine ld_whole rfl ?_ | refine ld_elem rfl ?_ | refine ld_part rfl rfl ?_) | fail) | (apply ks_asgn; refine s_asgn rfl rfl ?_) | (apply ks_indexA; first | refine s_indexA (c_indexAddr rfl rfl rfl rfl (by omega) (by omega)) rfl ?_ | fail) | (apply ks_bi; first | fail | refine s_call (c_len rfl rfl) rfl ?_ | refine s_call (c_len_str rfl rfl) rfl ?_ | refine s_call (c_bi rfl rfl rfl rfl) rfl ?_ | refine c_append rfl rfl rfl rfl (by first | rfl | simp [ints]) (by first | rfl | exact ints_one _ | exact octs_one _ | exact strs_one _) (by omega) rfl rfl (fun _ _ => ?_) | refine c_append_nil rfl rfl rfl rfl (by first | rfl | simp [ints]) (by first | rfl | exact ints_one _ | exact octs_one _ | exact strs_one _) (by omega) rfl rfl (fun _ _ => ?_)) | fail) | (apply sw_seq) | (apply at_srd) | (apply sw_skip) | (apply sw_ret) | (apply sw_exit) | (apply sw_block) | (apply sw_region) | (refine sw_cd rfl ?_; first | (apply gd_t) | (apply gd_ft) | (apply gd_tf) | (apply gd_dec_t <;> intro hq <;> (try (exfalso; omega))) | (apply gd_dec_f <;> intro hq <;> (try (exfalso; omega))) | (apply gd_beq_t <;> intro hq <;> (try (exfalso; omega))) | (apply gd_beq_f <;> intro hq <;> (try (exfalso; omega))) | (apply gd_bne_t <;> intro hq <;> (try (exfalso; omega))) | (apply gd_bne_f <;> intro hq <;> (try (exfalso; omega))) | (apply gd_not_t <;> intro hq) | (apply gd_not_f <;> intro hq) | (apply gd_raw_t <;> intro hq) | (apply gd_raw_f <;> intro hq)) | (apply at_thn) | (apply at_thn_ret) | (apply at_thn_exit) | (apply at_inb) | (apply at_inb_ret) | (apply at_inb_exit) | refine at_inb_pass rfl ?_ | refine c_drawn (by kernel_rfl) ?_)
    refine e_sv (by first | exact .inl rfl | exact .inr rfl) rfl (by repeat (first | exact List.Sublist.refl _ | exact List.nil_sublist _ | refine List.Sublist.cons _ ?_)) ?_
    rfl
theorem environWrites_sv (G : Ctx) (m : Int) (hM : ∀ H w, Holds G H w → w.cell? ⟨2, 0, none⟩ = some (.int .i64 m)) (L : List Vr) (a : Option Addr) (n cp : Nat) (s : ByteArray) [h1 : ∀ H, RdC G H a (vrs L)] (hn : n = L.length) (hmn : n ≤ 2000000) : SV Tryd.prog G 7 [.slice a n cp, .string s] [] (.bool true) := by
  have c1 := fun H => envWrite_sv G H L a n cp rfl hn (by unfold maxLen; omega)
  have c2 := fun H => varsText_sv G H m hM L a n cp rfl hn (by unfold maxLen; omega)
  have c3 := fun H => read_sc G H s
  have c4 := fun H => readVars_sc G H m hM s
  have c5 := fun H => wanted_sc G H s
  have c6 := fun H => wantedVars_sc G H m hM s
  rw [read_same] at c3
  have hl := readP_len s
  have hl2 : (wantV (readP s)).1.length ≤ 4096 := by
    unfold wantV
    split
    · exact Nat.zero_le _
    · split
      · exact Nat.zero_le _
      · exact hl
  generalize writeV L = r at *
  obtain ⟨r1, r2⟩ := r
  generalize wantV (readP s) = W at *
  generalize readP s = R at *
  have c7 := fun (H : List Ent) (a a2 : Option Addr) (c c2 : Nat) (h1 : RdC G H a (vrs R.1)) (h2 : RdC G H a2 (vrs R.1)) => eqVar_sv G H R.1 a a2 R.1.length R.1.length c c2 rfl rfl rfl rfl (by omega)
  have c8 := fun (H : List Ent) (a a2 : Option Addr) (c c2 : Nat) (h1 : RdC G H a (vrs W.1)) (h2 : RdC G H a2 (vrs W.1)) => eqVar_sv G H W.1 a a2 W.1.length W.1.length c c2 rfl rfl rfl rfl (by omega)
  obtain ⟨R1, R2⟩ := R
  obtain ⟨W1, W2⟩ := W
  dsimp only at *
  clear hM hn hmn
  refine sv_enter2 Tryd.func7 rfl rfl rfl rfl rfl ?_
  repeat' (first | (apply g_sl; first | (apply ks_nil; refine sl_nil ?_) | (apply ks_move; refine s_move rfl rfl ?_) | (apply ks_bin; refine s_bin rfl rfl rfl ?_; first | refine bb_seq ?_ | (first | refine bb_of rfl ?_)) | (apply ks_asgn; refine s_asgn rfl rfl ?_) | (apply ks_pick; refine s_pick rfl rfl ?_; first | (apply kp_t; refine pk_t rfl ?_) | (apply kp_f; refine pk_f rfl ?_) | refine pk_s rfl rfl ?_) | (apply ks_extr; refine s_extr (y_extract rfl rfl rfl) rfl ?_) | (apply ks_fn; first | first | refine c_callv rfl rfl rfl (c1 _) rfl rfl ?_ | refine c_callv rfl rfl rfl (c2 _) rfl rfl ?_ | (refine c_call rfl rfl rfl (c3 _) rfl rfl ?_; rintro _ _ ⟨a3, k3, rfl, rfl⟩) | (refine c_call rfl rfl rfl (c4 _) rfl rfl ?_; rintro _ _ ⟨a4, k4, rfl, rfl⟩) | (refine c_call rfl rfl rfl (c5 _) rfl rfl ?_; rintro _ _ ⟨a5, k5, rfl, rfl⟩) | (refine c_call rfl rfl rfl (c6 _) rfl rfl ?_; rintro _ _ ⟨a6, k6, rfl, rfl⟩) | refine c_callv rfl rfl rfl (c7 _ _ _ _ _ inferInstance inferInstance) rfl rfl ?_ | refine c_callv rfl rfl rfl (c8 _ _ _ _ _ inferInstance inferInstance) rfl rfl ?_) | (apply ks_guard; first | (refine sl_gd rfl rfl rfl rfl ?_; first | (apply gd_t) | (apply gd_ft) | (apply gd_tf) | (apply gd_dec_t <;> intro hq <;> (try (exfalso; omega))) | (apply gd_dec_f <;> intro hq <;> (try (exfalso; omega))) | (apply gd_beq_t <;> intro hq <;> (try (exfalso; omega))) | (apply gd_beq_f <;> intro hq <;> (try (exfalso; omega))) | (apply gd_bne_t <;> intro hq <;> (try (exfalso; omega))) | (apply gd_bne_f <;> intro hq <;> (try (exfalso; omega))) | (apply gd_not_t <;> intro hq) | (apply gd_not_f <;> intro hq) | (apply gd_raw_t <;> intro hq) | (apply gd_raw_f <;> intro hq)) | refine sl_skip_u rfl rfl rfl rfl rfl rfl ?_) | refine bb_seq ?_) | (apply sw_seq) | (apply at_srd) | (apply sw_skip) | (apply sw_ret) | (apply sw_exit) | (apply sw_block) | (apply sw_region) | (refine sw_cd rfl ?_; first | (apply gd_t) | (apply gd_ft) | (apply gd_tf) | (apply gd_dec_t <;> intro hq <;> (try (exfalso; omega))) | (apply gd_dec_f <;> intro hq <;> (try (exfalso; omega))) | (apply gd_beq_t <;> intro hq <;> (try (exfalso; omega))) | (apply gd_beq_f <;> intro hq <;> (try (exfalso; omega))) | (apply gd_bne_t <;> intro hq <;> (try (exfalso; omega))) | (apply gd_bne_f <;> intro hq <;> (try (exfalso; omega))) | (apply gd_not_t <;> intro hq) | (apply gd_not_f <;> intro hq) | (apply gd_raw_t <;> intro hq) | (apply gd_raw_f <;> intro hq)) | (apply at_thn) | (apply at_thn_ret) | (apply at_thn_exit) | (apply at_inb) | (apply at_inb_ret) | (apply at_inb_exit) | refine at_inb_pass rfl ?_ | refine c_drawn (by kernel_rfl) ?_)
  all_goals first | exact absurd rfl (by assumption) | (refine e_sv (by first | exact .inl rfl | exact .inr rfl) rfl (List.nil_sublist _) ?_; simp [resV])
theorem vr_sum : ∀ L : List Vr, L.length ≤ (L.map fun y => y.1.size + (y.2.1.size + (0 + 0)) + 1).sum
  | [] => Nat.le_refl _
  | x :: L => by have := vr_sum L; simp only [List.map_cons, List.sum_cons, List.length_cons] at *; omega
theorem environWrites_walk (W : World) (y0 : A48) (o0 : ok48 W y0) (y1 : A9) (o1 : ok9 W y1) (hb : bk48 y0 + bk9 y1 ≤ 1048576) (_ : laidMetH Tryd.prog Rows.environWritesRow.laid W) (hS : W.ShapedOpen Tryd.prog) : Calls Tryd.prog 7 #[rxV y0, .string y1] W fun e w' => e = .returned (.bool true) ∧ Below W.heap.size W w' := by
  obtain ⟨m, hM⟩ := maxLen_cell W hS
  obtain ⟨a, cp, L⟩ := y0
  obtain ⟨-, -, hA, -⟩ := o0
  have hA' : At W a (vrs L) := hA
  have hb' : (List.map (fun y : Vr => y.1.size + (y.2.1.size + (0 + 0)) + 1) L).sum + ByteArray.size y1 ≤ 1048576 := hb
  have ht := vr_sum L
  haveI : ∀ H, RdC ⟨W.heap.size, W⟩ H a (vrs L) := fun H => RdC.top hA'
  exact calls_of_sv (environWrites_sv _ m hM L a L.length cp y1 rfl (by omega))

set_option maxRecDepth 100000 in
theorem environWrites_law {H : Type} (enc : TypeId × Value → H) (W : World) {base : Nat} {v0 v1 : Value} {d0 d1 : DataW H} {p0 p1 : List MemPlace}
    (k0 : Value.okWide Tryd.prog W .any base 48 v0) (h0 : DataW.Trod enc Tryd.prog W 0 (fun _ => true) true 48 v0 d0 p0)
    (k1 : Value.okWide Tryd.prog W .any base 9 v1) (h1 : DataW.Trod enc Tryd.prog W 0 (fun _ => true) true 9 v1 d1 p1)
    (hk : Rows.uptoSmall H [d0, d1] = true)
    (hL : laidMetH Tryd.prog Rows.environWritesUptoRow.laid W) (hS : W.ShapedOpen Tryd.prog)
    : Calls Tryd.prog 7 #[v0, v1] W fun e w' => e = .returned (.bool true) ∧ Below W.heap.size W w' := by
  obtain ⟨y0, rfl, o0, b0⟩ := tr_slice Tryd.underlying48 tr48 k0 h0
  obtain ⟨y1, rfl, o1, b1⟩ := tr_str Tryd.underlying9 tr9 k1 h1
  have hb := bulk_all hk
  simp only [Rows.uptoBulkAll] at hb
  exact environWrites_walk W y0 o0 y1 o1 (by omega) hL hS

set_option maxRecDepth 100000 in
theorem environWrites_contract (H : Type) (enc : TypeId × Value → H) (W : World) (base : Nat) (args : Array Value) (ds gs : List (DataW H)) (before : List MemPlace)
    (hval : ∀ (j : Nat) t v, Tryd.f7.params[j]? = some t → args[j]? = some v → Value.okWide Tryd.prog W .any base t v)
    (hW : DataW.Whole enc Tryd.prog Tryd.f7.params.toList Rows.environWritesSpec.vars false W args.toList ds gs before) (hk : Rows.uptoSmall H (ds ++ gs) = true) (hL : laidMetH Tryd.prog Rows.environWritesUptoRow.laid W) (hS : W.ShapedOpen Tryd.prog) :
    Calls Tryd.prog 7 args W fun e W' => ∃ v, e = .returned v ∧ Rows.environWritesSpec.post enc Tryd.prog Tryd.f7 false true false false W args v W' := by
  have hW' := hW
  obtain ⟨p, q, hA0, hV, rfl, hfz, hnd⟩ := hW'
  have hA : DataW.TrodAll enc Tryd.prog W 0 (fun _ => true) true Tryd.f7.params.toList args.toList ds p := hA0
  rw [Tryd.params7] at hA hval
  obtain ⟨v0, vs0, d0, ds0, p0, q0, hargs, rfl, rfl, h0, r0⟩ := trodAll_cons hA
  obtain ⟨v1, vs1, d1, ds1, p1, q1, rfl, rfl, rfl, h1, r1⟩ := trodAll_cons r0
  obtain ⟨rfl, rfl, rfl⟩ := trodAll_nil r1
  obtain rfl : args = #[v0, v1] := by cases args; simp_all
  obtain ⟨rfl, rfl⟩ := trodVars_none hV
  clear hA0
  have k0 := hval 0 48 v0 rfl rfl
  have k1 := hval 1 9 v1 rfl rfl
  simp only [List.append_nil] at hk
  refine (environWrites_law enc W k0 h0 k1 h1 hk hL hS).mono fun e W' ⟨he, hg⟩ => ?_
  subst he
  exact ⟨_, rfl, law_post (s := Rows.environWritesSpec) laidOut (by kernel_rfl) rfl Tryd.underlying4 rfl hW rfl hg⟩

noncomputable def environWrites_world (os : Os) : World := { World.holding Tryd.prog os ⟨#[], #[], []⟩ with heap := (((World.holding Tryd.prog os ⟨#[], #[], []⟩).heap.modify 1 fun | .cells _ t frozen => .cells (dCells Rows.laid_unicode_utf8_acceptRanges).toArray t frozen | o => o).modify 0 fun | .cells _ t frozen => .cells (dCells Rows.laid_unicode_utf8_first).toArray t frozen | o => o) }
theorem environWrites_met (os : Os) : laidMet Tryd.prog Rows.environWritesUptoRow.laid ((environWrites_world os).forCall (fun _ _ => 0) ⟨#[], #[.slice none 0 0, .string .empty], []⟩).memory := laidMet_of_run' 12 (by kernel_rfl) (by kernel_rfl)
theorem environWrites_reads (os : Os) {H : Type} (enc : TypeId × Value → H) : ∃ places, DataW.whole enc Tryd.prog ((environWrites_world os).forCall (fun _ _ => 0) ⟨#[], #[.slice none 0 0, .string .empty], []⟩).memory Tryd.f7.params.toList Rows.environWritesSpec.vars false (#[.slice none 0 0, .string .empty] : Array Value).toList 12 = some ([.nil, .lit (.string [])], [], places) := ⟨[], by kernel_rfl⟩
set_option maxRecDepth 100000 in
theorem environWrites_lifted (os : Os) (started : os.Started) (H : Type) (enc : TypeId × Value → H) (F : Stop.Interp) :
    ReturnsInHanded {} Tryd.checked os 7 .any ((Rows.OpenSpec.upto Rows.environWritesSpec).preRow enc Tryd.prog Tryd.f7 Rows.environWritesUptoRow.domain false Rows.environWritesUptoRow.laid) (((Rows.OpenSpec.upto Rows.environWritesSpec).at F).post enc Tryd.prog Tryd.f7 false true false false) := by
  obtain ⟨places, hx⟩ := environWrites_reads os enc
  refine returnsInHanded_of_row (C := Tryd.checked) (s := Rows.OpenSpec.upto Rows.environWritesSpec) own started (by kernel_rfl) Tryd.func7
    (witness_row_at (enc := enc) (C := Tryd.checked) false (environWrites_world os) #[.slice none 0 0, .string .empty] rfl (by kernel_rfl) (by kernel_rfl) (by kernel_rfl)
      (OpenSpec.preRow_of_cond 12 hx (by kernel_rfl) (fun k hk => by cases hk; kernel_rfl) (by kernel_rfl) (environWrites_met os))) ?_
  intro W base args ds gs before hval hW _ hk _ hL hS _
  exact environWrites_contract H enc W base args ds gs before hval hW (hk _ rfl) hL hS

theorem environWrites_holds : Rows.EnvironWritesUptoSaid :=
  OpenClaim.holds_of_cond 7 Tryd.f7 rfl rfl rfl rfl rfl rfl rfl ⟨rfl, rfl, rfl, rfl, rfl⟩ rfl rfl rfl rfl rfl (by kernel_rfl) Tryd.func7 (by kernel_rfl)
    (of_decide_eq_true (by kernel_rfl)) (by unfold Func.isWrapper; first | (rw [if_pos (by decide +kernel)]; kernel_rfl) | (rw [if_neg (by decide +kernel)]; exact ⟨rfl, rfl⟩))
    (fun os started H enc _ F => by rw [OpenClaim.pre_eq_preRow]; exact environWrites_lifted os started H enc F)
theorem environWrites_plain (f : FuncId) (fn : Func) (hf : Tryd.pinned.checked.prog.funcNamed "farwriter/farlaw.EnvironWrites" = some f) (hfn : Tryd.pinned.checked.prog.funcs[f]? = some fn) :
    false = Tryd.pinned.checked.prog.looks [] ∧ ∀ (j : Nat) t, fn.params[j]? = some t → Tryd.pinned.checked.prog.wantsStandIn t = false := by
  obtain rfl : f = 7 := Option.some.inj ((show Tryd.prog.funcNamed "farwriter/farlaw.EnvironWrites" = some 7 by kernel_rfl).symm.trans hf) |>.symm
  obtain rfl : fn = Tryd.f7 := (Option.some.inj (Tryd.func7.symm.trans hfn)).symm
  refine ⟨by kernel_rfl, fun j t ht => ?_⟩
  rw [Tryd.params7] at ht
  have hm : t ∈ [48, 9] := by simpa using Array.mem_of_getElem? ht
  have hall : ([48, 9].all fun u => !Tryd.prog.wantsStandIn u) = true := by kernel_rfl
  exact (show Tryd.prog.wantsStandIn t = false by simpa using List.all_eq_true.1 hall t hm)
theorem environWrites_card : Rows.EnvironWritesUptoCardSaid :=
  Claim7.holds_tied_plain_at .later [] _ _ _ _ environWrites_holds (fun _ h => by cases h) (by kernel_rfl) (fun _ h => by cases h) environWritesUpto_row_tie rfl ⟨rfl, rfl⟩ (by kernel_rfl) rfl environWrites_plain (by kernel_rfl)

end Go.Proofs.YteicfkhaaeoheaaDoor
