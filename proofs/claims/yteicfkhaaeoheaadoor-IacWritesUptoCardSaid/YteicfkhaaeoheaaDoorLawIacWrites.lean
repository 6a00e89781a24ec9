/- farlaw.IacWrites returns true for every input of bulk at most 1048576, and each argument reads as it read. -/
import Derived.Test.YteicfkhaaeoheaaDoorCardM
import Derived.Test.YteicfkhaaeoheaaDoorLawTr
import Derived.Test.YteicfkhaaeoheaaDoorIac2
namespace Go.Proofs.YteicfkhaaeoheaaDoor
open Go Go.RowKit Go.Fw Go.Sx Go.ChangeShapes Go.WideShapes Go.ChangeAt
set_option maxRecDepth 100000
set_option maxHeartbeats 2000000
attribute [local irreducible] SW SL SQ AtQ SV SC BB LD PK Yields SO SOT SOA SY

theorem own : ownKnob Tryd.prog.godebug = none := by kernel_rfl
theorem laidOut : laidOutB Tryd.prog = true := by kernel_rfl
abbrev A3 := Int
abbrev en3 : A3 → List Value := fun z => [.int .i64 z]
abbrev ok3 : World → A3 → Prop := fun _ z => (Lit.int .i64 z).wf = true
abbrev bk3 : A3 → Nat := fun _ => 0
theorem tr3 : Tr Tryd.prog 3 A3 en3 ok3 bk3 := Tr.int Tryd.underlying3 (by kernel_rfl)
abbrev A9 := ByteArray
abbrev en9 : A9 → List Value := fun z => [.string z]
abbrev ok9 : World → A9 → Prop := fun _ z => z.size ≤ maxLen
abbrev bk9 : A9 → Nat := fun z => z.size
theorem tr9 : Tr Tryd.prog 9 A9 en9 ok9 bk9 := Tr.str Tryd.underlying9 (by kernel_rfl)
abbrev A36 := (A3) × (A3) × (A3) × (A9)
abbrev en36 : A36 → List Value := fun p => en3 p.1 ++ (en3 p.2.1 ++ (en3 p.2.2.1 ++ (en9 p.2.2.2)))
abbrev ok36 : World → A36 → Prop := fun W p => ok3 W p.1 ∧ ok3 W p.2.1 ∧ ok3 W p.2.2.1 ∧ ok9 W p.2.2.2
abbrev bk36 : A36 → Nat := fun p => bk3 p.1 + (bk3 p.2.1 + (bk3 p.2.2.1 + (bk9 p.2.2.2)))
theorem tr36 : Tr Tryd.prog 36 A36 en36 ok36 bk36 := Tr.struct (l := [(0, 3), (1, 3), (2, 3), (3, 9)]) (n := 4) (TrS.cons (o := 0) (o' := 1) (n := 4) tr3 (by kernel_rfl) (TrS.cons (o := 1) (o' := 2) (n := 4) tr3 (by kernel_rfl) (TrS.cons (o := 2) (o' := 3) (n := 4) tr3 (by kernel_rfl) (TrS.one (o := 3) (n := 4) tr9 (by kernel_rfl))))) Tryd.underlying36 (by kernel_rfl) (by kernel_rfl)
abbrev A37 := Rx A36
abbrev en37 : A37 → List Value := fun x => [rxV x]
abbrev ok37 : World → A37 → Prop := fun W x => x.2.2.length ≤ x.2.1 ∧ x.2.2.length ≤ maxLen ∧ At W x.1 (x.2.2.flatMap en36) ∧ ∀ y ∈ x.2.2, ok36 W y
abbrev bk37 : A37 → Nat := fun x => (x.2.2.map fun y => bk36 y + 1).sum
theorem tr37 : Tr Tryd.prog 37 A37 en37 ok37 bk37 := Tr.slice tr36 Tryd.underlying37 (by kernel_rfl) (of_decide_eq_true (by kernel_rfl))
theorem eqTok_sv (G : Ctx) (H : List Ent) (L : List Tk) {vs us : List Value} (a a2 : Option Addr) (n m c c2 : Nat) [h1 : RdC G H a vs] [h2 : RdC G H a2 us] (hv : vs = toks L) (hu : us = toks L) (hn : n = L.length) (hn2 : m = L.length) (hm : n ≤ 9223372036854775807) : SV Tryd.prog G 22 [.slice a n c, .slice a2 m c2] H (.bool true) := by
  obtain rfl : m = n := by omega
  have hlx : vs.length = m * 4 := by rw [hv, toks_len, hn]
  have hlu : us.length = m * 4 := by rw [hu, toks_len, hn]
  have hel : ∀ (k : Nat) x, L[k]? = some x → take? (vs.drop ((k : Int).toNat * 4)) 4 = some (tokC x) ∧ take? (us.drop ((k : Int).toNat * 4)) 4 = some (tokC x) := fun k x hx => by subst hv; subst hu; exact ⟨fm_elem hx, fm_elem hx⟩
  have Hn := Lib.hid hn
  have Hel := Lib.hid hel
  clear hel hv hu hn hn2
  refine sv_enter2 Tryd.func22 rfl rfl rfl rfl rfl ?_
  repeat' (first | (apply g_sl; first | (apply ks_nil; refine sl_nil ?_) | (apply ks_move; refine s_move rfl rfl ?_) | (apply ks_bin; refine s_bin rfl rfl rfl ?_; first | fail | (first | (apply kb_add; first | refine bb_add ⟨by omega, by omega⟩ ?_ | refine bb_of rfl ?_) | refine bb_of rfl ?_)) | (apply ks_load; first | (refine s_load rfl rfl ?_; first | refine ld_cell rfl ?_ | refine ld_whole rfl ?_ | refine ld_elem rfl ?_ | refine ld_part rfl rfl ?_) | fail) | (apply ks_asgn; refine s_asgn rfl rfl ?_) | (apply ks_indexA; first | refine s_indexA (c_indexAddr rfl rfl rfl rfl (by omega) (by omega)) rfl ?_ | fail) | (apply ks_bi; first | fail | refine s_call (c_len rfl rfl) rfl ?_ | refine s_call (c_len_str rfl rfl) rfl ?_ | refine s_call (c_bi rfl rfl rfl rfl) rfl ?_ | refine c_append rfl rfl rfl rfl (by first | rfl | simp [ints]) (by first | rfl | exact ints_one _ | exact octs_one _ | exact strs_one _) (by omega) rfl rfl (fun _ _ => ?_) | refine c_append_nil rfl rfl rfl rfl (by first | rfl | simp [ints]) (by first | rfl | exact ints_one _ | exact octs_one _ | exact strs_one _) (by omega) rfl rfl (fun _ _ => ?_)) | fail) | (apply sw_seq) | (apply at_srd) | (apply sw_skip) | (apply sw_ret) | (apply sw_exit) | (apply sw_block) | (apply sw_region) | (refine sw_cd rfl ?_; first | (apply gd_t) | (apply gd_ft) | (apply gd_tf) | (apply gd_dec_t <;> intro hq <;> (try (exfalso; omega))) | (apply gd_dec_f <;> intro hq <;> (try (exfalso; omega))) | (apply gd_beq_t <;> intro hq <;> (try (exfalso; omega))) | (apply gd_beq_f <;> intro hq <;> (try (exfalso; omega))) | (apply gd_bne_t <;> intro hq <;> (try (exfalso; omega))) | (apply gd_bne_f <;> intro hq <;> (try (exfalso; omega))) | (apply gd_not_t <;> intro hq) | (apply gd_not_f <;> intro hq) | (apply gd_raw_t <;> intro hq) | (apply gd_raw_f <;> intro hq)) | (apply at_thn) | (apply at_thn_ret) | (apply at_thn_exit) | (apply at_inb) | (apply at_inb_ret) | (apply at_inb_exit) | refine at_inb_pass rfl ?_ | refine c_drawn (by kernel_rfl) ?_)
  refine sw_loopg (α := Nat) (fun j => [(0, .slice a m c), (1, .slice a2 m c2), (12, .int .i64 m), (13, .int .i64 j)]) (fun _ => H)
    (fun j => j ≤ m) (fun j => m - j) 0 (Nat.zero_le _) (by repeat (first | exact Le.nil _ | refine Le.cons (by first | rfl | (exact congrArg some (congrArg (Value.int _) (by omega)))) ?_)) (fun _ hw => hw.subs (by repeat (first | refine Subs.cons (by repeat constructor) ?_ | exact Subs.sub (by repeat (first | exact List.Sublist.refl _ | exact List.nil_sublist _ | refine List.Sublist.cons _ ?_))))) ?_
  intro j hj
  by_cases hlt : (j : Int) < m
  · obtain ⟨x, hx⟩ := get_of (X := L) (k := j) (by rw [← Hn.out]; omega)
    obtain ⟨k, cm, o, d⟩ := x
    have e1 : take? (vs.drop ((j : Int).toNat * 4)) 4 = some [.int .i64 k, .int .i64 cm, .int .i64 o, .string d] := (Hel.out j _ hx).1
    have e2 : take? (us.drop ((j : Int).toNat * 4)) 4 = some [.int .i64 k, .int .i64 cm, .int .i64 o, .string d] := (Hel.out j _ hx).2
    have heq := tokEq k cm o k cm o d d
    rw [decide_eq_true ⟨rfl, rfl, rfl, rfl⟩] at heq
    clear hx
    repeat' (first | (apply g_sl; first | (apply ks_nil; refine sl_nil ?_) | (apply ks_move; refine s_move rfl rfl ?_) | (apply ks_bin; refine s_bin rfl rfl rfl ?_; first | first | (refine s_indexA (c_indexAddr rfl rfl rfl hlx (by omega) (by omega)) rfl ?_) | (first | (apply kb_add; first | refine bb_add ⟨by omega, by omega⟩ ?_ | refine bb_of rfl ?_) | refine bb_of rfl ?_)) | (apply ks_load; first | (refine s_load rfl rfl ?_; first | refine ld_cell rfl ?_ | refine ld_whole rfl ?_ | refine ld_elem rfl ?_ | refine ld_part rfl rfl ?_) | first | (refine s_indexA (c_indexAddr rfl rfl rfl hlx (by omega) (by omega)) rfl ?_)) | (apply ks_asgn; refine s_asgn rfl rfl ?_) | (apply ks_indexA; first | refine s_indexA (c_indexAddr rfl rfl rfl rfl (by omega) (by omega)) rfl ?_ | first | (refine s_indexA (c_indexAddr rfl rfl rfl hlx (by omega) (by omega)) rfl ?_)) | (apply ks_bi; first | first | (refine s_indexA (c_indexAddr rfl rfl rfl hlx (by omega) (by omega)) rfl ?_) | refine s_call (c_len rfl rfl) rfl ?_ | refine s_call (c_len_str rfl rfl) rfl ?_ | refine s_call (c_bi rfl rfl rfl rfl) rfl ?_ | refine c_append rfl rfl rfl rfl (by first | rfl | simp [ints]) (by first | rfl | exact ints_one _ | exact octs_one _ | exact strs_one _) (by omega) rfl rfl (fun _ _ => ?_) | refine c_append_nil rfl rfl rfl rfl (by first | rfl | simp [ints]) (by first | rfl | exact ints_one _ | exact octs_one _ | exact strs_one _) (by omega) rfl rfl (fun _ _ => ?_)) | first | (refine s_indexA (c_indexAddr rfl rfl rfl hlx (by omega) (by omega)) rfl ?_)) | (apply g_sq; first | (apply kq_nil; refine sq_nil ?_) | (apply kq_move; refine q_move rfl rfl ?_) | (apply kq_bin; refine q_bin rfl rfl rfl ?_; first | first | (refine q_indexA (c_indexAddr rfl rfl rfl hlx (by omega) (by omega)) rfl ?_) | (refine q_indexA (c_indexAddr rfl rfl rfl hlu (by omega) (by omega)) rfl ?_) | (refine q_load rfl rfl ?_; first | refine ld_elems e1 rfl ?_ | refine ld_elems e2 rfl ?_) | (refine bb_nev heq (by kernel_rfl) ?_) | (first | (apply kb_add; first | refine bb_add ⟨by omega, by omega⟩ ?_ | refine bb_of rfl ?_) | refine bb_of rfl ?_)) | (apply kq_load; first | (refine q_load rfl rfl ?_; first | refine ld_cell rfl ?_ | refine ld_whole rfl ?_ | refine ld_elem rfl ?_ | refine ld_part rfl rfl ?_) | first | (refine q_indexA (c_indexAddr rfl rfl rfl hlx (by omega) (by omega)) rfl ?_) | (refine q_indexA (c_indexAddr rfl rfl rfl hlu (by omega) (by omega)) rfl ?_) | (refine q_load rfl rfl ?_; first | refine ld_elems e1 rfl ?_ | refine ld_elems e2 rfl ?_) | (refine bb_nev heq (by kernel_rfl) ?_)) | (apply kq_asgn; refine q_asgn rfl rfl ?_) | (apply kq_indexA; first | refine q_indexA (c_indexAddr rfl rfl rfl rfl (by omega) (by omega)) rfl ?_ | first | (refine q_indexA (c_indexAddr rfl rfl rfl hlx (by omega) (by omega)) rfl ?_) | (refine q_indexA (c_indexAddr rfl rfl rfl hlu (by omega) (by omega)) rfl ?_) | (refine q_load rfl rfl ?_; first | refine ld_elems e1 rfl ?_ | refine ld_elems e2 rfl ?_) | (refine bb_nev heq (by kernel_rfl) ?_)) | (apply kq_bi; first | first | (refine q_indexA (c_indexAddr rfl rfl rfl hlx (by omega) (by omega)) rfl ?_) | (refine q_indexA (c_indexAddr rfl rfl rfl hlu (by omega) (by omega)) rfl ?_) | (refine q_load rfl rfl ?_; first | refine ld_elems e1 rfl ?_ | refine ld_elems e2 rfl ?_) | (refine bb_nev heq (by kernel_rfl) ?_) | refine q_call (c_len rfl rfl) rfl ?_ | refine q_call (c_len_str rfl rfl) rfl ?_) | first | (refine q_indexA (c_indexAddr rfl rfl rfl hlx (by omega) (by omega)) rfl ?_) | (refine q_indexA (c_indexAddr rfl rfl rfl hlu (by omega) (by omega)) rfl ?_) | (refine q_load rfl rfl ?_; first | refine ld_elems e1 rfl ?_ | refine ld_elems e2 rfl ?_) | (refine bb_nev heq (by kernel_rfl) ?_)) | (apply sw_seq) | (apply at_srd) | (apply sw_skip) | (apply sw_ret) | (apply sw_exit) | (apply sw_block) | (apply sw_region) | (refine sw_cd rfl ?_; first | (apply gd_t) | (apply gd_ft) | (apply gd_tf) | (apply gd_dec_t <;> intro hq <;> (try (exfalso; omega))) | (apply gd_dec_f <;> intro hq <;> (try (exfalso; omega))) | (apply gd_beq_t <;> intro hq <;> (try (exfalso; omega))) | (apply gd_beq_f <;> intro hq <;> (try (exfalso; omega))) | (apply gd_bne_t <;> intro hq <;> (try (exfalso; omega))) | (apply gd_bne_f <;> intro hq <;> (try (exfalso; omega))) | (apply gd_not_t <;> intro hq) | (apply gd_not_f <;> intro hq) | (apply gd_raw_t <;> intro hq) | (apply gd_raw_f <;> intro hq)) | (apply at_thn) | (apply at_thn_ret) | (apply at_thn_exit) | (apply at_inb) | (apply at_inb_ret) | (apply at_inb_exit) | refine at_inb_pass rfl ?_ | refine c_drawn (by kernel_rfl) ?_)
    exact at_meet (j + 1) ⟨by omega, by omega⟩ (by repeat (first | exact Le.nil _ | refine Le.cons (by first | rfl | (exact congrArg some (congrArg (Value.int _) (by omega)))) ?_)) (fun _ hw => hw.subs (by repeat (first | refine Subs.cons (by repeat constructor) ?_ | exact Subs.sub (by repeat (first | exact List.Sublist.refl _ | exact List.nil_sublist _ | refine List.Sublist.cons _ ?_)))))
  · obtain rfl : m = j := by omega
    repeat' (first | (apply g_sl; first | (apply ks_nil; refine sl_nil ?_) | (apply ks_move; refine s_move rfl rfl ?_) | (apply ks_bin; refine s_bin rfl rfl rfl ?_; first | fail | (first | (apply kb_add; first | refine bb_add ⟨by omega, by omega⟩ ?_ | refine bb_of rfl ?_) | refine bb_of rfl ?_)) | (apply ks_load; first | (refine s_load rfl rfl ?_; first | refine ld_cell rfl ?_ | refine ld_whole rfl ?_ | refine ld_elem rfl ?_ | refine ld_part rfl rfl ?_) | fail) | (apply ks_asgn; refine s_asgn rfl rfl ?_) | (apply ks_indexA; first | refine s_indexA (c_indexAddr rfl rfl rfl rfl (by omega) (by omega)) rfl ?_ | fail) | (apply ks_bi; first | fail | refine s_call (c_len rfl rfl) rfl ?_ | refine s_call (c_len_str rfl rfl) rfl ?_ | refine s_call (c_bi rfl rfl rfl rfl) rfl ?_ | refine c_append rfl rfl rfl rfl (by first | rfl | simp [ints]) (by first | rfl | exact ints_one _ | exact octs_one _ | exact strs_one _) (by omega) rfl rfl (fun _ _ => ?_) | refine c_append_nil rfl rfl rfl rfl (by first | rfl | simp [ints]) (by first | rfl | exact ints_one _ | exact octs_one _ | exact strs_one _) (by omega) rfl rfl (fun _ _ => ?_)) | fail) | (apply sw_seq) | (apply at_srd) | (apply sw_skip) | (apply sw_ret) | (apply sw_exit) | (apply sw_block) | (apply sw_region) | (refine sw_cd rfl ?_; first | (apply gd_t) | (apply gd_ft) | (apply gd_tf) | (apply gd_dec_t <;> intro hq <;> (try (exfalso; omega))) | (apply gd_dec_f <;> intro hq <;> (try (exfalso; omega))) | (apply gd_beq_t <;> intro hq <;> (try (exfalso; omega))) | (apply gd_beq_f <;> intro hq <;> (try (exfalso; omega))) | (apply gd_bne_t <;> intro hq <;> (try (exfalso; omega))) | (apply gd_bne_f <;> intro hq <;> (try (exfalso; omega))) | (apply gd_not_t <;> intro hq) | (apply gd_not_f <;> intro hq) | (apply gd_raw_t <;> intro hq) | (apply gd_raw_f <;> intro hq)) | (apply at_thn) | (apply at_thn_ret) | (apply at_thn_exit) | (apply at_inb) | (apply at_inb_ret) | (apply at_inb_exit) | refine at_inb_pass rfl ?_ | refine c_drawn (by kernel_rfl) ?_)
    refine e_sv (by first | exact .inl rfl | exact .inr rfl) rfl (by repeat (first | exact List.Sublist.refl _ | exact List.nil_sublist _ | refine List.Sublist.cons _ ?_)) ?_
    rfl
theorem mg_len : ∀ (L : List Tk) (p : Option Tk), (mg p L).length ≤ L.length + p.toList.length
  | [], p => by rw [mg_end]; omega
  | t :: L, p => by
    have h1 := mg_len L (mgs p t).2
    have h2 : (mgs p t).1.length + (mgs p t).2.toList.length ≤ 1 + p.toList.length := by
      unfold mgs
      split
      · simp; omega
      · split
        · simp
        · cases p <;> simp
    rw [mg, List.length_append, List.length_cons]
    omega
theorem iacWrites_sv (G : Ctx) (m : Int) (hm : ∀ H w, Holds G H w → w.cell? ⟨2, 0, none⟩ = some (.int .i64 m)) (k c o : Int) (d : ByteArray) (L : List Tk) (a : Option Addr) (n cp : Nat) [h1 : ∀ H, RdC G H a (toks L)] (hn : n = L.length) (hmn : n ≤ 2000000) (hz : dsz L ≤ 2000000) (hd : d.size ≤ 2000000) : SV Tryd.prog G 5 [tokV k c o d, .slice a n cp] [] (.bool true) := by
  have c1 := fun H => iacWrite_sv G H m hm k c o d hd
  have c2 := fun H => tokText_sv G H m hm k c o d hd
  have c3 := fun H => tokText_sv G H m hm 1 0 0 d hd
  rw [tokS_one] at c3
  have c4 := fun H => escape_sv G H m (hm H) d (by omega)
  have c5 := fun H => merge_sc G H L a n cp rfl hn hmn hz
  have c6 := fun H => merged_sc G H L a n cp rfl hn hmn hz
  generalize tokS k c o d = r at *
  obtain ⟨r1, r2⟩ := r
  generalize escS d = E at *
  have hM : (mg none L).length ≤ 9223372036854775807 := by have := mg_len L none; simp at this; omega
  have c7 := fun (H : List Ent) (a a2 : Option Addr) (c c2 : Nat) (h1 : RdC G H a (toks (mg none L))) (h2 : RdC G H a2 (toks (mg none L))) => eqTok_sv G H (mg none L) a a2 (mg none L).length (mg none L).length c c2 rfl rfl rfl rfl hM
  generalize mg none L = M at *
  clear hm hn hmn hz hd
  refine sv_enter2 Tryd.func5 rfl rfl rfl rfl rfl ?_
  repeat' (first | (apply g_sl; first | (apply ks_nil; refine sl_nil ?_) | (apply ks_move; refine s_move rfl rfl ?_) | (apply ks_bin; refine s_bin rfl rfl rfl ?_; first | refine bb_seq ?_ | (first | refine bb_of rfl ?_)) | (apply ks_load; first | (refine s_load rfl rfl ?_; first | refine ld_cell rfl ?_ | refine ld_whole rfl ?_ | refine ld_elem rfl ?_ | refine ld_part rfl rfl ?_) | refine bb_seq ?_) | (apply ks_asgn; refine s_asgn rfl rfl ?_) | (apply ks_pick; refine s_pick rfl rfl ?_; first | (apply kp_t; refine pk_t rfl ?_) | (apply kp_f; refine pk_f rfl ?_) | refine pk_s rfl rfl ?_) | (apply ks_field; first | refine s_field (c_field0 rfl rfl) rfl ?_ | refine s_field (c_field rfl rfl) rfl ?_) | (apply ks_extr; refine s_extr (y_extract rfl rfl rfl) rfl ?_) | (apply ks_build; first | refine s_build (c_build rfl rfl rfl) rfl ?_ | refine bb_seq ?_) | (apply ks_fn; first | first | refine c_callv rfl rfl rfl (c1 _) rfl rfl ?_ | refine c_callv rfl rfl rfl (c2 _) rfl rfl ?_ | refine c_callv rfl rfl rfl (c3 _) rfl rfl ?_ | refine c_callv rfl rfl rfl (c4 _) rfl rfl ?_ | (refine c_call rfl rfl rfl (c5 _) rfl rfl ?_; rintro _ _ ⟨a5, k5, rfl, rfl⟩) | (refine c_call rfl rfl rfl (c6 _) rfl rfl ?_; rintro _ _ ⟨a6, k6, rfl, rfl⟩) | refine c_callv rfl rfl rfl (c7 _ _ _ _ _ inferInstance inferInstance) rfl rfl ?_) | (apply ks_box; refine c_box rfl rfl rfl rfl rfl rfl (fun _ => ?_)) | (apply ks_guard; first | (refine sl_gd rfl rfl rfl rfl ?_; first | (apply gd_t) | (apply gd_ft) | (apply gd_tf) | (apply gd_dec_t <;> intro hq <;> (try (exfalso; omega))) | (apply gd_dec_f <;> intro hq <;> (try (exfalso; omega))) | (apply gd_beq_t <;> intro hq <;> (try (exfalso; omega))) | (apply gd_beq_f <;> intro hq <;> (try (exfalso; omega))) | (apply gd_bne_t <;> intro hq <;> (try (exfalso; omega))) | (apply gd_bne_f <;> intro hq <;> (try (exfalso; omega))) | (apply gd_not_t <;> intro hq) | (apply gd_not_f <;> intro hq) | (apply gd_raw_t <;> intro hq) | (apply gd_raw_f <;> intro hq)) | refine sl_skip_u rfl rfl rfl rfl rfl rfl ?_) | refine bb_seq ?_) | (apply sw_seq) | (apply at_srd) | (apply sw_skip) | (apply sw_ret) | (apply sw_exit) | (apply sw_block) | (apply sw_region) | (refine sw_cd rfl ?_; first | (apply gd_t) | (apply gd_ft) | (apply gd_tf) | (apply gd_dec_t <;> intro hq <;> (try (exfalso; omega))) | (apply gd_dec_f <;> intro hq <;> (try (exfalso; omega))) | (apply gd_beq_t <;> intro hq <;> (try (exfalso; omega))) | (apply gd_beq_f <;> intro hq <;> (try (exfalso; omega))) | (apply gd_bne_t <;> intro hq <;> (try (exfalso; omega))) | (apply gd_bne_f <;> intro hq <;> (try (exfalso; omega))) | (apply gd_not_t <;> intro hq) | (apply gd_not_f <;> intro hq) | (apply gd_raw_t <;> intro hq) | (apply gd_raw_f <;> intro hq)) | (apply at_thn) | (apply at_thn_ret) | (apply at_thn_exit) | (apply at_inb) | (apply at_inb_ret) | (apply at_inb_exit) | refine at_inb_pass rfl ?_ | refine c_drawn (by kernel_rfl) ?_)
  all_goals first | exact absurd rfl (by assumption) | (refine e_sv (by first | exact .inl rfl | exact .inr rfl) rfl (List.nil_sublist _) ?_; simp [resV])
theorem tk_sum : ∀ L : List Tk, dsz L + L.length ≤ (L.map fun y => 0 + (0 + (0 + y.2.2.2.size)) + 1).sum
  | [] => Nat.le_refl _
  | x :: L => by have := tk_sum L; simp only [dsz, List.map_cons, List.sum_cons, List.length_cons] at *; omega
theorem iacWrites_walk (W : World) (y0 : A36) (o0 : ok36 W y0) (y1 : A37) (o1 : ok37 W y1) (hb : bk36 y0 + bk37 y1 ≤ 1048576) (_ : laidMetH Tryd.prog Rows.iacWritesRow.laid W) (hS : W.ShapedOpen Tryd.prog) : Calls Tryd.prog 5 #[.agg (en36 y0).toArray, rxV y1] W fun e w' => e = .returned (.bool true) ∧ Below W.heap.size W w' := by
  obtain ⟨m, hM⟩ := maxLen_cell W hS
  obtain ⟨k, c, o, d⟩ := y0
  obtain ⟨a, cp, L⟩ := y1
  obtain ⟨-, -, hA, -⟩ := o1
  have hA' : At W a (toks L) := hA
  have hb' : (0 + (0 + (0 + d.size))) + (List.map (fun y : Tk => 0 + (0 + (0 + y.2.2.2.size)) + 1) L).sum ≤ 1048576 := hb
  have ht := tk_sum L
  haveI : ∀ H, RdC ⟨W.heap.size, W⟩ H a (toks L) := fun H => RdC.top hA'
  exact calls_of_sv (iacWrites_sv _ m hM k c o d L a L.length cp rfl (by omega) (by omega) (by omega))

set_option maxRecDepth 100000 in
theorem iacWrites_law {H : Type} (enc : TypeId × Value → H) (W : World) {base : Nat} {v0 v1 : Value} {d0 d1 : DataW H} {p0 p1 : List MemPlace}
    (k0 : Value.okWide Tryd.prog W .any base 36 v0) (h0 : DataW.Trod enc Tryd.prog W 0 (fun _ => true) true 36 v0 d0 p0)
    (k1 : Value.okWide Tryd.prog W .any base 37 v1) (h1 : DataW.Trod enc Tryd.prog W 0 (fun _ => true) true 37 v1 d1 p1)
    (hk : Rows.uptoSmall H [d0, d1] = true)
    (hL : laidMetH Tryd.prog Rows.iacWritesUptoRow.laid W) (hS : W.ShapedOpen Tryd.prog)
    : Calls Tryd.prog 5 #[v0, v1] W fun e w' => e = .returned (.bool true) ∧ Below W.heap.size W w' := by
  obtain ⟨y0, rfl, o0, b0⟩ := tr_agg Tryd.underlying36 tr36 k0 h0
  obtain ⟨y1, rfl, o1, b1⟩ := tr_slice Tryd.underlying37 tr37 k1 h1
  have hb := bulk_all hk
  simp only [Rows.uptoBulkAll] at hb
  exact iacWrites_walk W y0 o0 y1 o1 (by omega) hL hS

set_option maxRecDepth 100000 in
theorem iacWrites_contract (H : Type) (enc : TypeId × Value → H) (W : World) (base : Nat) (args : Array Value) (ds gs : List (DataW H)) (before : List MemPlace)
    (hval : ∀ (j : Nat) t v, Tryd.f5.params[j]? = some t → args[j]? = some v → Value.okWide Tryd.prog W .any base t v)
    (hW : DataW.Whole enc Tryd.prog Tryd.f5.params.toList Rows.iacWritesSpec.vars false W args.toList ds gs before) (hk : Rows.uptoSmall H (ds ++ gs) = true) (hL : laidMetH Tryd.prog Rows.iacWritesUptoRow.laid W) (hS : W.ShapedOpen Tryd.prog) :
    Calls Tryd.prog 5 args W fun e W' => ∃ v, e = .returned v ∧ Rows.iacWritesSpec.post enc Tryd.prog Tryd.f5 false true false false W args v W' := by
  have hW' := hW
  obtain ⟨p, q, hA0, hV, rfl, hfz, hnd⟩ := hW'
  have hA : DataW.TrodAll enc Tryd.prog W 0 (fun _ => true) true Tryd.f5.params.toList args.toList ds p := hA0
  rw [Tryd.params5] at hA hval
  obtain ⟨v0, vs0, d0, ds0, p0, q0, hargs, rfl, rfl, h0, r0⟩ := trodAll_cons hA
  obtain ⟨v1, vs1, d1, ds1, p1, q1, rfl, rfl, rfl, h1, r1⟩ := trodAll_cons r0
  obtain ⟨rfl, rfl, rfl⟩ := trodAll_nil r1
  obtain rfl : args = #[v0, v1] := by cases args; simp_all
  obtain ⟨rfl, rfl⟩ := trodVars_none hV
  clear hA0
  have k0 := hval 0 36 v0 rfl rfl
  have k1 := hval 1 37 v1 rfl rfl
  simp only [List.append_nil] at hk
  refine (iacWrites_law enc W k0 h0 k1 h1 hk hL hS).mono fun e W' ⟨he, hg⟩ => ?_
  subst he
  exact ⟨_, rfl, law_post (s := Rows.iacWritesSpec) laidOut (by kernel_rfl) rfl Tryd.underlying4 rfl hW rfl hg⟩

noncomputable def iacWrites_world (os : Os) : World := { World.holding Tryd.prog os ⟨#[], #[], []⟩ with heap := (((World.holding Tryd.prog os ⟨#[], #[], []⟩).heap.modify 1 fun | .cells _ t frozen => .cells (dCells Rows.laid_unicode_utf8_acceptRanges).toArray t frozen | o => o).modify 0 fun | .cells _ t frozen => .cells (dCells Rows.laid_unicode_utf8_first).toArray t frozen | o => o) }
theorem iacWrites_met (os : Os) : laidMet Tryd.prog Rows.iacWritesUptoRow.laid ((iacWrites_world os).forCall (fun _ _ => 0) ⟨#[], #[.agg #[.int .i64 0, .int .i64 0, .int .i64 0, .string .empty], .slice none 0 0], []⟩).memory := laidMet_of_run' 12 (by kernel_rfl) (by kernel_rfl)
theorem iacWrites_reads (os : Os) {H : Type} (enc : TypeId × Value → H) : ∃ places, DataW.whole enc Tryd.prog ((iacWrites_world os).forCall (fun _ _ => 0) ⟨#[], #[.agg #[.int .i64 0, .int .i64 0, .int .i64 0, .string .empty], .slice none 0 0], []⟩).memory Tryd.f5.params.toList Rows.iacWritesSpec.vars false (#[.agg #[.int .i64 0, .int .i64 0, .int .i64 0, .string .empty], .slice none 0 0] : Array Value).toList 12 = some ([.agg [.lit (.int .i64 0), .lit (.int .i64 0), .lit (.int .i64 0), .lit (.string [])], .nil], [], places) := ⟨[], by kernel_rfl⟩
set_option maxRecDepth 100000 in
theorem iacWrites_lifted (os : Os) (started : os.Started) (H : Type) (enc : TypeId × Value → H) (F : Stop.Interp) :
    ReturnsInHanded {} Tryd.checked os 5 .any ((Rows.OpenSpec.upto Rows.iacWritesSpec).preRow enc Tryd.prog Tryd.f5 Rows.iacWritesUptoRow.domain false Rows.iacWritesUptoRow.laid) (((Rows.OpenSpec.upto Rows.iacWritesSpec).at F).post enc Tryd.prog Tryd.f5 false true false false) := by
  obtain ⟨places, hx⟩ := iacWrites_reads os enc
  refine returnsInHanded_of_row (C := Tryd.checked) (s := Rows.OpenSpec.upto Rows.iacWritesSpec) own started (by kernel_rfl) Tryd.func5
    (witness_row_at (enc := enc) (C := Tryd.checked) false (iacWrites_world os) #[.agg #[.int .i64 0, .int .i64 0, .int .i64 0, .string .empty], .slice none 0 0] rfl (by kernel_rfl) (by kernel_rfl) (by kernel_rfl)
      (OpenSpec.preRow_of_cond 12 hx (by kernel_rfl) (fun k hk => by cases hk; kernel_rfl) (by kernel_rfl) (iacWrites_met os))) ?_
  intro W base args ds gs before hval hW _ hk _ hL hS _
  exact iacWrites_contract H enc W base args ds gs before hval hW (hk _ rfl) hL hS

theorem iacWrites_holds : Rows.IacWritesUptoSaid :=
  OpenClaim.holds_of_cond 5 Tryd.f5 rfl rfl rfl rfl rfl rfl rfl ⟨rfl, rfl, rfl, rfl, rfl⟩ rfl rfl rfl rfl rfl (by kernel_rfl) Tryd.func5 (by kernel_rfl)
    (of_decide_eq_true (by kernel_rfl)) (by unfold Func.isWrapper; first | (rw [if_pos (by decide +kernel)]; kernel_rfl) | (rw [if_neg (by decide +kernel)]; exact ⟨rfl, rfl⟩))
    (fun os started H enc _ F => by rw [OpenClaim.pre_eq_preRow]; exact iacWrites_lifted os started H enc F)
theorem iacWrites_plain (f : FuncId) (fn : Func) (hf : Tryd.pinned.checked.prog.funcNamed "farwriter/farlaw.IacWrites" = some f) (hfn : Tryd.pinned.checked.prog.funcs[f]? = some fn) :
    false = Tryd.pinned.checked.prog.looks [] ∧ ∀ (j : Nat) t, fn.params[j]? = some t → Tryd.pinned.checked.prog.wantsStandIn t = false := by
  obtain rfl : f = 5 := Option.some.inj ((show Tryd.prog.funcNamed "farwriter/farlaw.IacWrites" = some 5 by kernel_rfl).symm.trans hf) |>.symm
  obtain rfl : fn = Tryd.f5 := (Option.some.inj (Tryd.func5.symm.trans hfn)).symm
  refine ⟨by kernel_rfl, fun j t ht => ?_⟩
  rw [Tryd.params5] at ht
  have hm : t ∈ [36, 37] := by simpa using Array.mem_of_getElem? ht
  have hall : ([36, 37].all fun u => !Tryd.prog.wantsStandIn u) = true := by kernel_rfl
  exact (show Tryd.prog.wantsStandIn t = false by simpa using List.all_eq_true.1 hall t hm)
theorem iacWrites_card : Rows.IacWritesUptoCardSaid :=
  Claim7.holds_tied_plain_at .later [] _ _ _ _ iacWrites_holds (fun _ h => by cases h) (by kernel_rfl) (fun _ h => by cases h) iacWritesUpto_row_tie rfl ⟨rfl, rfl⟩ (by kernel_rfl) rfl iacWrites_plain (by kernel_rfl)

end Go.Proofs.YteicfkhaaeoheaaDoor
