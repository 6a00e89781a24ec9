/- The edit of farref.GridPut: its walk. -/
import Derived.Test.YtgcnfcgnkfkpeaaGridB
namespace Go.Proofs.Ytgcnfcgnkfkpeaa
open Go Go.RowKit Go.Fw Go.Sx
set_option maxRecDepth 100000
set_option maxHeartbeats 1000000
attribute [local irreducible] SW SL SQ AtQ SV SC BB LD PK Yields SO SOT SOA SY
end Go.Proofs.Ytgcnfcgnkfkpeaa
namespace Go.Sx
open Go Go.RowKit Go.Fw
/-- A row put in the place of another. -/
theorem holds_row {G : Ctx} {e : TypeId} {o : Ent} {X : List Rw} {k : Nat} {x : Rw} {H : List Ent} {w : World} (hk : k < X.length) (h : Holds G (o :: rwE e x :: (X.map (rwE e) ++ H)) w) : Holds G (o :: ((X.set k x).map (rwE e) ++ H)) w := by
  have e1 : X = X.take k ++ X[k] :: X.drop (k + 1) := by rw [← List.drop_eq_getElem_cons hk, List.take_append_drop]
  have e2 : X.set k x = X.take k ++ x :: X.drop (k + 1) := by rw [List.set_eq_take_append_cons_drop, if_pos hk]
  rw [e2]
  have h2 : Holds G (o :: rwE e x :: ((X.take k).map (rwE e) ++ ((X.drop (k + 1)).map (rwE e) ++ H))) w := by
    refine h.sub (List.Sublist.cons_cons _ (List.Sublist.cons_cons _ ?_))
    have : X.map (rwE e) = (X.take k).map (rwE e) ++ rwE e X[k] :: (X.drop (k + 1)).map (rwE e) := by
      conv => lhs; rw [e1]
      rw [List.map_append, List.map_cons]
    rw [this, List.append_assoc]
    exact List.Sublist.append (List.Sublist.refl _) (List.Sublist.cons _ (List.Sublist.refl _))
  refine h2.perm (List.Perm.cons _ ?_)
  rw [List.map_append, List.map_cons, List.append_assoc]
  exact List.perm_middle.symm
end Go.Sx
namespace Go.Proofs.Ytgcnfcgnkfkpeaa
open Go Go.RowKit Go.Fw Go.Sx
set_option maxRecDepth 100000
set_option maxHeartbeats 1000000
attribute [local irreducible] SW SL SQ AtQ SV SC BB LD PK Yields SO SOT SOA SY
theorem edit_e (G : Ctx) (H : List Ent) (C : List Qd) {vs : List Value} (w h : Int) (a : Option Addr) (n c : Nat) (ok : Bool) (x y z : Int) (e : Int) (fv : Value) [h1 : RdC G H a vs] (hv : vs = qds C) (hn : n = C.length) (hm : n ≤ 9223372036854775807) (hnc : n ≤ c) (he : (gridE w h C ≠ 0 ∧ e = gridE w h C) ∨ (gridE w h C = 0 ∧ ok = false ∧ e = 1) ∨ (gridE w h C = 0 ∧ ok = true ∧ penB x y z = false ∧ e = 4)) : SV Try.prog G 101 [gridV w h a n c, .bool ok, penV x y z, fv] H (.tuple #[gridZ, .int .i64 e]) := by
  subst hv
  have cC := fun (H : List Ent) {vs : List Value} [RdC G H a vs] (hv : vs = qds C) => gridRight_sv G H C w h a n c hv hn hm hnc
  have cP := fun H => penRight_sv G H x y z
  generalize gridE w h C = E at *
  clear hn hm
  rcases he with ⟨h2, rfl⟩ | ⟨rfl, rfl, rfl⟩ | ⟨rfl, rfl, hp, rfl⟩
  · refine sv_enter4 Try.func101 rfl rfl rfl rfl rfl ?_
    repeat' (first | (apply g_sl; first | (apply ks_nil; refine sl_nil ?_) | (apply ks_move; refine s_move rfl rfl ?_) | (apply ks_bin; refine s_bin rfl rfl rfl ?_; first | fail | (first | (apply kb_add; first | refine bb_add ⟨by omega, by omega⟩ ?_ | refine bb_of rfl ?_) | refine bb_of rfl ?_)) | (apply ks_load; first | (refine s_load rfl rfl ?_; first | refine ld_cell rfl ?_ | refine ld_whole rfl ?_ | refine ld_elem rfl ?_ | refine ld_part rfl rfl ?_) | fail) | (apply ks_asgn; refine s_asgn rfl rfl ?_) | (apply ks_un; refine s_un (y_un rfl rfl rfl) rfl ?_) | (apply ks_build; first | refine s_build (c_build rfl rfl rfl) rfl ?_ | fail) | (apply ks_indexA; first | refine s_indexA (c_indexAddr rfl rfl rfl rfl (by omega) (by omega)) rfl ?_ | fail) | (apply ks_fn; first | refine c_callv rfl rfl rfl (cC _ rfl) rfl rfl ?_) | (apply ks_bi; first | fail | refine s_call (c_len rfl rfl) rfl ?_ | refine s_call (c_len_str rfl rfl) rfl ?_ | refine s_call (c_bi rfl rfl rfl rfl) rfl ?_ | refine c_append rfl rfl rfl rfl (by first | rfl | simp [ints]) (by first | rfl | exact ints_one _ | exact octs_one _ | exact strs_one _) (by omega) rfl rfl (fun _ _ => ?_) | refine c_append_nil rfl rfl rfl rfl (by first | rfl | simp [ints]) (by first | rfl | exact ints_one _ | exact octs_one _ | exact strs_one _) (by omega) rfl rfl (fun _ _ => ?_)) | (apply ks_store; first | first | refine c_store rfl rfl rfl rfl rfl rfl rfl ?_ | refine c_storew rfl rfl rfl rfl rfl rfl rfl rfl ?_ | refine c_storee rfl rfl rfl rfl rfl (by omega) rfl ?_ | fail) | (apply ks_box; refine c_box rfl rfl rfl rfl rfl rfl (fun _ => ?_)) | (apply ks_alloc; refine c_alloc rfl rfl rfl rfl (fun _ => ?_)) | fail) | (apply sw_seq) | (apply at_srd) | (apply sw_skip) | (apply sw_ret) | (apply sw_exit) | (apply sw_block) | (apply sw_region) | (refine sw_cd rfl ?_; first | (apply gd_t) | (apply gd_ft) | (apply gd_tf) | (apply gd_dec_t <;> intro hq <;> (try (exfalso; omega))) | (apply gd_dec_f <;> intro hq <;> (try (exfalso; omega))) | (apply gd_beq_t <;> intro hq <;> (try (exfalso; omega))) | (apply gd_beq_f <;> intro hq <;> (try (exfalso; omega))) | (apply gd_bne_t <;> intro hq <;> (try (exfalso; omega))) | (apply gd_bne_f <;> intro hq <;> (try (exfalso; omega))) | (apply gd_not_t <;> intro hq) | (apply gd_not_f <;> intro hq) | (apply gd_raw_t <;> intro hq) | (apply gd_raw_f <;> intro hq)) | (apply at_thn) | (apply at_thn_ret) | (apply at_thn_exit) | (apply at_inb) | (apply at_inb_ret) | (apply at_inb_exit) | refine at_inb_pass rfl ?_ | refine c_drawn (by kernel_rfl) ?_)
    all_goals first | (exfalso; omega) | (refine e_scc H (by first | exact .inl rfl | exact .inr rfl) rfl rfl rfl (fun _ hw => hw.subs (by repeat (first | refine Subs.cons (by repeat constructor) ?_ | exact Subs.sub (by repeat (first | exact List.Sublist.refl _ | exact List.nil_sublist _ | refine List.Sublist.cons _ ?_))))) ?_; exact ⟨rfl, rfl⟩)
  · refine sv_enter4 Try.func101 rfl rfl rfl rfl rfl ?_
    repeat' (first | (apply g_sl; first | (apply ks_nil; refine sl_nil ?_) | (apply ks_move; refine s_move rfl rfl ?_) | (apply ks_bin; refine s_bin rfl rfl rfl ?_; first | fail | (first | (apply kb_add; first | refine bb_add ⟨by omega, by omega⟩ ?_ | refine bb_of rfl ?_) | refine bb_of rfl ?_)) | (apply ks_load; first | (refine s_load rfl rfl ?_; first | refine ld_cell rfl ?_ | refine ld_whole rfl ?_ | refine ld_elem rfl ?_ | refine ld_part rfl rfl ?_) | fail) | (apply ks_asgn; refine s_asgn rfl rfl ?_) | (apply ks_un; refine s_un (y_un rfl rfl rfl) rfl ?_) | (apply ks_build; first | refine s_build (c_build rfl rfl rfl) rfl ?_ | fail) | (apply ks_indexA; first | refine s_indexA (c_indexAddr rfl rfl rfl rfl (by omega) (by omega)) rfl ?_ | fail) | (apply ks_fn; first | refine c_callv rfl rfl rfl (cC _ rfl) rfl rfl ?_) | (apply ks_bi; first | fail | refine s_call (c_len rfl rfl) rfl ?_ | refine s_call (c_len_str rfl rfl) rfl ?_ | refine s_call (c_bi rfl rfl rfl rfl) rfl ?_ | refine c_append rfl rfl rfl rfl (by first | rfl | simp [ints]) (by first | rfl | exact ints_one _ | exact octs_one _ | exact strs_one _) (by omega) rfl rfl (fun _ _ => ?_) | refine c_append_nil rfl rfl rfl rfl (by first | rfl | simp [ints]) (by first | rfl | exact ints_one _ | exact octs_one _ | exact strs_one _) (by omega) rfl rfl (fun _ _ => ?_)) | (apply ks_store; first | first | refine c_store rfl rfl rfl rfl rfl rfl rfl ?_ | refine c_storew rfl rfl rfl rfl rfl rfl rfl rfl ?_ | refine c_storee rfl rfl rfl rfl rfl (by omega) rfl ?_ | fail) | (apply ks_box; refine c_box rfl rfl rfl rfl rfl rfl (fun _ => ?_)) | (apply ks_alloc; refine c_alloc rfl rfl rfl rfl (fun _ => ?_)) | fail) | (apply sw_seq) | (apply at_srd) | (apply sw_skip) | (apply sw_ret) | (apply sw_exit) | (apply sw_block) | (apply sw_region) | (refine sw_cd rfl ?_; first | (apply gd_t) | (apply gd_ft) | (apply gd_tf) | (apply gd_dec_t <;> intro hq <;> (try (exfalso; omega))) | (apply gd_dec_f <;> intro hq <;> (try (exfalso; omega))) | (apply gd_beq_t <;> intro hq <;> (try (exfalso; omega))) | (apply gd_beq_f <;> intro hq <;> (try (exfalso; omega))) | (apply gd_bne_t <;> intro hq <;> (try (exfalso; omega))) | (apply gd_bne_f <;> intro hq <;> (try (exfalso; omega))) | (apply gd_not_t <;> intro hq) | (apply gd_not_f <;> intro hq) | (apply gd_raw_t <;> intro hq) | (apply gd_raw_f <;> intro hq)) | (apply at_thn) | (apply at_thn_ret) | (apply at_thn_exit) | (apply at_inb) | (apply at_inb_ret) | (apply at_inb_exit) | refine at_inb_pass rfl ?_ | refine c_drawn (by kernel_rfl) ?_)
    all_goals first | (exfalso; omega) | (refine e_scc H (by first | exact .inl rfl | exact .inr rfl) rfl rfl rfl (fun _ hw => hw.subs (by repeat (first | refine Subs.cons (by repeat constructor) ?_ | exact Subs.sub (by repeat (first | exact List.Sublist.refl _ | exact List.nil_sublist _ | refine List.Sublist.cons _ ?_))))) ?_; exact ⟨rfl, rfl⟩)
  · rw [hp] at cP
    refine sv_enter4 Try.func101 rfl rfl rfl rfl rfl ?_
    repeat' (first | (apply g_sl; first | (apply ks_nil; refine sl_nil ?_) | (apply ks_move; refine s_move rfl rfl ?_) | (apply ks_bin; refine s_bin rfl rfl rfl ?_; first | fail | (first | (apply kb_add; first | refine bb_add ⟨by omega, by omega⟩ ?_ | refine bb_of rfl ?_) | refine bb_of rfl ?_)) | (apply ks_load; first | (refine s_load rfl rfl ?_; first | refine ld_cell rfl ?_ | refine ld_whole rfl ?_ | refine ld_elem rfl ?_ | refine ld_part rfl rfl ?_) | fail) | (apply ks_asgn; refine s_asgn rfl rfl ?_) | (apply ks_un; refine s_un (y_un rfl rfl rfl) rfl ?_) | (apply ks_build; first | refine s_build (c_build rfl rfl rfl) rfl ?_ | fail) | (apply ks_indexA; first | refine s_indexA (c_indexAddr rfl rfl rfl rfl (by omega) (by omega)) rfl ?_ | fail) | (apply ks_fn; first | first | refine c_callv rfl rfl rfl (cC _ rfl) rfl rfl ?_ | refine c_callv rfl rfl rfl (cP _) rfl rfl ?_) | (apply ks_bi; first | fail | refine s_call (c_len rfl rfl) rfl ?_ | refine s_call (c_len_str rfl rfl) rfl ?_ | refine s_call (c_bi rfl rfl rfl rfl) rfl ?_ | refine c_append rfl rfl rfl rfl (by first | rfl | simp [ints]) (by first | rfl | exact ints_one _ | exact octs_one _ | exact strs_one _) (by omega) rfl rfl (fun _ _ => ?_) | refine c_append_nil rfl rfl rfl rfl (by first | rfl | simp [ints]) (by first | rfl | exact ints_one _ | exact octs_one _ | exact strs_one _) (by omega) rfl rfl (fun _ _ => ?_)) | (apply ks_store; first | first | refine c_store rfl rfl rfl rfl rfl rfl rfl ?_ | refine c_storew rfl rfl rfl rfl rfl rfl rfl rfl ?_ | refine c_storee rfl rfl rfl rfl rfl (by omega) rfl ?_ | fail) | (apply ks_box; refine c_box rfl rfl rfl rfl rfl rfl (fun _ => ?_)) | (apply ks_alloc; refine c_alloc rfl rfl rfl rfl (fun _ => ?_)) | fail) | (apply sw_seq) | (apply at_srd) | (apply sw_skip) | (apply sw_ret) | (apply sw_exit) | (apply sw_block) | (apply sw_region) | (refine sw_cd rfl ?_; first | (apply gd_t) | (apply gd_ft) | (apply gd_tf) | (apply gd_dec_t <;> intro hq <;> (try (exfalso; omega))) | (apply gd_dec_f <;> intro hq <;> (try (exfalso; omega))) | (apply gd_beq_t <;> intro hq <;> (try (exfalso; omega))) | (apply gd_beq_f <;> intro hq <;> (try (exfalso; omega))) | (apply gd_bne_t <;> intro hq <;> (try (exfalso; omega))) | (apply gd_bne_f <;> intro hq <;> (try (exfalso; omega))) | (apply gd_not_t <;> intro hq) | (apply gd_not_f <;> intro hq) | (apply gd_raw_t <;> intro hq) | (apply gd_raw_f <;> intro hq)) | (apply at_thn) | (apply at_thn_ret) | (apply at_thn_exit) | (apply at_inb) | (apply at_inb_ret) | (apply at_inb_exit) | refine at_inb_pass rfl ?_ | refine c_drawn (by kernel_rfl) ?_)
    all_goals first | (exfalso; omega) | (refine e_scc H (by first | exact .inl rfl | exact .inr rfl) rfl rfl rfl (fun _ hw => hw.subs (by repeat (first | refine Subs.cons (by repeat constructor) ?_ | exact Subs.sub (by repeat (first | exact List.Sublist.refl _ | exact List.nil_sublist _ | refine List.Sublist.cons _ ?_))))) ?_; exact ⟨rfl, rfl⟩)
/-- The first i rows mended. -/
def mendR (rows : List (List Qd)) (i : Nat) : List (List Qd) := (rows.take i).map (mendQ refWidth) ++ rows.drop i
theorem mendR_0 (rows : List (List Qd)) : mendR rows 0 = rows := by simp [mendR]
theorem mendR_all (rows : List (List Qd)) : mendR rows rows.length = rows.map (mendQ refWidth) := by simp [mendR]
theorem mendR_at {rows : List (List Qd)} {i : Nat} (hi : i < rows.length) : (mendR rows i)[i]? = rows[i]? := by
  unfold mendR
  rw [List.getElem?_append_right (by simp; omega)]
  simp [Nat.min_eq_left (Nat.le_of_lt hi)]
theorem mendR_set {rows : List (List Qd)} {i : Nat} (hi : i < rows.length) : (mendR rows i).set i (mendQ refWidth rows[i]) = mendR rows (i + 1) := by
  unfold mendR
  rw [List.set_append_right _ _ (by simp; omega), List.take_succ_eq_append_getElem hi, List.map_append, List.append_assoc]
  congr 1
  rw [show i - (List.map (mendQ refWidth) (List.take i rows)).length = 0 from by simp; omega, List.drop_eq_getElem_cons hi]
  rfl
theorem edit_ok (G : Ctx) (H : List Ent) (C : List Qd) {vs : List Value} (w h : Nat) (a : Option Addr) (n c : Nat) (x y z : Int) (f : Nat) (cap : List Value) (rows : List (List Qd)) [h1 : RdC G H a vs] (hv : vs = qds C) (hn : n = C.length) (hnc : n ≤ c) (he : gridE w h C = 0) (hp : penB x y z = true) (hrl : rows.length = h) (hrw : ∀ r ∈ rows, r.length = w)
    (hF : ∀ (Bs : List Ent) (X : List Rw) (ao : Option Addr) (co : Nat), X.length = h → X.map (·.2.2) = (List.range h).map (rowQ w C) → SC Try.prog G f ([.slice ao h co] ++ cap) (.own 33 1 ao h co (X.map rwV) :: (X.map (rwE 104) ++ (Bs ++ H))) fun v H' => v = .tuple #[] ∧ ∃ X' : List Rw, X'.length = h ∧ X'.map (·.2.2) = rows ∧ H' = .own 33 1 ao h co (X'.map rwV) :: (X'.map (rwE 104) ++ (Bs ++ H))) :
    SC Try.prog G 101 [gridV w h a n c, .bool true, penV x y z, .func (.func f) #[] cap.toArray] H fun v H' => ∃ a' c', v = .tuple #[gridV w h a' (rows.flatMap (mendQ refWidth)).length c', .int .i64 0] ∧ H' = .own 104 4 a' (rows.flatMap (mendQ refWidth)).length c' (qds (rows.flatMap (mendQ refWidth))) :: H := by
  subst hv
  have cP := fun H => penRight_sv G H x y z
  rw [hp] at cP
  obtain ⟨⟨w1, w2, h3, h4⟩, hl⟩ := gridE_0 he
  have hlen : C.length = w * h := by
    have : ((w * h : Nat) : Int) = (w : Int) * (h : Int) := by simp
    omega
  have hm : n ≤ 100000 := by
    have : w * h ≤ 160 * 60 := Nat.mul_le_mul (by omega) (by omega)
    omega
  have cC := fun (H : List Ent) {vs : List Value} [RdC G H a vs] (hv : vs = qds C) => gridRight_sv G H C w h a n c hv hn (by omega) hnc
  rw [he] at cC
  have cR := fun (H : List Ent) {vs : List Value} [RdC G H a vs] (hv : vs = qds C) => rows_sc G H C w h a n c hv hn hnc (by omega) ⟨by omega, by omega⟩ ⟨by omega, by omega⟩
  have HF := Lib.hid hF
  have hrowl := fun i (hi : i < h) => show ∃ r, rows[i]? = some r ∧ r.length = w from ⟨rows[i]'(by omega), List.getElem?_eq_getElem (by omega), hrw _ (List.getElem_mem (by omega))⟩
  clear hF hlen hl hn he hp
  refine sc_enter4 Try.func101 rfl rfl rfl rfl rfl ?_
  repeat' (first | (apply g_sl; first | (apply ks_nil; refine sl_nil ?_) | (apply ks_move; refine s_move rfl rfl ?_) | (apply ks_bin; refine s_bin rfl rfl rfl ?_; first | fail | (first | (apply kb_add; first | refine bb_add ⟨by omega, by omega⟩ ?_ | refine bb_of rfl ?_) | refine bb_of rfl ?_)) | (apply ks_load; first | (refine s_load rfl rfl ?_; first | refine ld_cell rfl ?_ | refine ld_whole rfl ?_ | refine ld_elem rfl ?_ | refine ld_part rfl rfl ?_) | fail) | (apply ks_asgn; refine s_asgn rfl rfl ?_) | (apply ks_un; refine s_un (y_un rfl rfl rfl) rfl ?_) | (apply ks_build; first | refine s_build (c_build rfl rfl rfl) rfl ?_ | fail) | (apply ks_indexA; first | refine s_indexA (c_indexAddr rfl rfl rfl rfl (by omega) (by omega)) rfl ?_ | fail) | (apply ks_fn; first | first | refine c_callv rfl rfl rfl (cC _ rfl) rfl rfl ?_ | refine c_callv rfl rfl rfl (cP _) rfl rfl ?_ | (refine c_call rfl rfl rfl (cR _ rfl) rfl rfl ?_; rintro _ _ ⟨X, ao, co, rfl, hX, rfl⟩)) | (apply ks_bi; first | fail | refine s_call (c_len rfl rfl) rfl ?_ | refine s_call (c_len_str rfl rfl) rfl ?_ | refine s_call (c_bi rfl rfl rfl rfl) rfl ?_ | refine c_append rfl rfl rfl rfl (by first | rfl | simp [ints]) (by first | rfl | exact ints_one _ | exact octs_one _ | exact strs_one _) (by omega) rfl rfl (fun _ _ => ?_) | refine c_append_nil rfl rfl rfl rfl (by first | rfl | simp [ints]) (by first | rfl | exact ints_one _ | exact octs_one _ | exact strs_one _) (by omega) rfl rfl (fun _ _ => ?_)) | (apply ks_store; first | first | refine c_store rfl rfl rfl rfl rfl rfl rfl ?_ | refine c_storew rfl rfl rfl rfl rfl rfl rfl rfl ?_ | refine c_storee rfl rfl rfl rfl rfl (by omega) rfl ?_ | fail) | (apply ks_box; refine c_box rfl rfl rfl rfl rfl rfl (fun _ => ?_)) | (apply ks_alloc; refine c_alloc rfl rfl rfl rfl (fun _ => ?_)) | fail) | (apply sw_seq) | (apply at_srd) | (apply sw_skip) | (apply sw_ret) | (apply sw_exit) | (apply sw_block) | ((fail_if_success (refine g_reg (id := 10) ?_)); apply sw_region) | (refine sw_cd rfl ?_; first | (apply gd_t) | (apply gd_ft) | (apply gd_tf) | (apply gd_dec_t <;> intro hq <;> (try (exfalso; omega))) | (apply gd_dec_f <;> intro hq <;> (try (exfalso; omega))) | (apply gd_beq_t <;> intro hq <;> (try (exfalso; omega))) | (apply gd_beq_f <;> intro hq <;> (try (exfalso; omega))) | (apply gd_bne_t <;> intro hq <;> (try (exfalso; omega))) | (apply gd_bne_f <;> intro hq <;> (try (exfalso; omega))) | (apply gd_not_t <;> intro hq) | (apply gd_not_f <;> intro hq) | (apply gd_raw_t <;> intro hq) | (apply gd_raw_f <;> intro hq)) | (apply at_thn) | (apply at_thn_ret) | (apply at_thn_exit) | (apply at_inb) | (apply at_inb_ret) | (apply at_inb_exit) | refine at_inb_pass rfl ?_ | ((fail_if_success (refine g_reg (id := 10) ?_)); refine c_drawn (by kernel_rfl) ?_))
  rename_i b4 b6 b8
  have hXl : X.length = h := by
    have := congrArg List.length hX
    simpa using this
  have cF := HF.out [.blk b8 35 [.int .i64 0, .int .i64 0, .slice none 0 0], .blk b6 37 [.int .i64 x, .int .i64 y, .int .i64 z], .blk b4 35 [.int .i64 w, .int .i64 h, .slice a n c]] X ao co hXl hX
  clear hX HF
  rw [hXl]
  have cM := fun (H : List Ent) (R : List Qd) (a : Option Addr) (c : Nat) {vs : List Value} [RdC G H a vs] (hv : vs = qds R) (hR : R.length = w) => mended_sc G H R a w c hv hR.symm (by omega)
  have hrowl := Lib.hid hrowl
  repeat' (first | (apply g_sl; first | (apply ks_nil; refine sl_nil ?_) | (apply ks_move; refine s_move rfl rfl ?_) | (apply ks_bin; refine s_bin rfl rfl rfl ?_; first | (refine c_calld rfl rfl rfl rfl cF rfl rfl ?_; rintro _ _ ⟨rfl, X2, hl2, hX2, rfl⟩; dsimp only [List.cons_append, List.nil_append]) | (first | (apply kb_add; first | refine bb_add ⟨by omega, by omega⟩ ?_ | refine bb_of rfl ?_) | refine bb_of rfl ?_)) | (apply ks_load; first | (refine s_load rfl rfl ?_; first | refine ld_cell rfl ?_ | refine ld_whole rfl ?_ | refine ld_elem rfl ?_ | refine ld_part rfl rfl ?_) | (refine c_calld rfl rfl rfl rfl cF rfl rfl ?_; rintro _ _ ⟨rfl, X2, hl2, hX2, rfl⟩; dsimp only [List.cons_append, List.nil_append])) | (apply ks_asgn; refine s_asgn rfl rfl ?_) | (apply ks_un; refine s_un (y_un rfl rfl rfl) rfl ?_) | (apply ks_build; first | refine s_build (c_build rfl rfl rfl) rfl ?_ | (refine c_calld rfl rfl rfl rfl cF rfl rfl ?_; rintro _ _ ⟨rfl, X2, hl2, hX2, rfl⟩; dsimp only [List.cons_append, List.nil_append])) | (apply ks_indexA; first | refine s_indexA (c_indexAddr rfl rfl rfl rfl (by omega) (by omega)) rfl ?_ | (refine c_calld rfl rfl rfl rfl cF rfl rfl ?_; rintro _ _ ⟨rfl, X2, hl2, hX2, rfl⟩; dsimp only [List.cons_append, List.nil_append])) | (apply ks_fn; first | fail) | (apply ks_bi; first | (refine c_calld rfl rfl rfl rfl cF rfl rfl ?_; rintro _ _ ⟨rfl, X2, hl2, hX2, rfl⟩; dsimp only [List.cons_append, List.nil_append]) | refine s_call (c_len rfl rfl) rfl ?_ | refine s_call (c_len_str rfl rfl) rfl ?_ | refine s_call (c_bi rfl rfl rfl rfl) rfl ?_ | refine c_append rfl rfl rfl rfl (by first | rfl | simp [ints]) (by first | rfl | exact ints_one _ | exact octs_one _ | exact strs_one _) (by omega) rfl rfl (fun _ _ => ?_) | refine c_append_nil rfl rfl rfl rfl (by first | rfl | simp [ints]) (by first | rfl | exact ints_one _ | exact octs_one _ | exact strs_one _) (by omega) rfl rfl (fun _ _ => ?_)) | (apply ks_store; first | first | refine c_store rfl rfl rfl rfl rfl rfl rfl ?_ | refine c_storew rfl rfl rfl rfl rfl rfl rfl rfl ?_ | refine c_storee rfl rfl rfl rfl rfl (by omega) rfl ?_ | (refine c_calld rfl rfl rfl rfl cF rfl rfl ?_; rintro _ _ ⟨rfl, X2, hl2, hX2, rfl⟩; dsimp only [List.cons_append, List.nil_append])) | (apply ks_box; refine c_box rfl rfl rfl rfl rfl rfl (fun _ => ?_)) | (apply ks_alloc; refine c_alloc rfl rfl rfl rfl (fun _ => ?_)) | (refine c_calld rfl rfl rfl rfl cF rfl rfl ?_; rintro _ _ ⟨rfl, X2, hl2, hX2, rfl⟩; dsimp only [List.cons_append, List.nil_append])) | (apply sw_seq) | (apply at_srd) | (apply sw_skip) | (apply sw_ret) | (apply sw_exit) | (apply sw_block) | ((fail_if_success (refine g_reg (id := 12) ?_)); apply sw_region) | (refine sw_cd rfl ?_; first | (apply gd_t) | (apply gd_ft) | (apply gd_tf) | (apply gd_dec_t <;> intro hq <;> (try (exfalso; omega))) | (apply gd_dec_f <;> intro hq <;> (try (exfalso; omega))) | (apply gd_beq_t <;> intro hq <;> (try (exfalso; omega))) | (apply gd_beq_f <;> intro hq <;> (try (exfalso; omega))) | (apply gd_bne_t <;> intro hq <;> (try (exfalso; omega))) | (apply gd_bne_f <;> intro hq <;> (try (exfalso; omega))) | (apply gd_not_t <;> intro hq) | (apply gd_not_f <;> intro hq) | (apply gd_raw_t <;> intro hq) | (apply gd_raw_f <;> intro hq)) | (apply at_thn) | (apply at_thn_ret) | (apply at_thn_exit) | (apply at_inb) | (apply at_inb_ret) | (apply at_inb_exit) | refine at_inb_pass rfl ?_ | ((fail_if_success (refine g_reg (id := 12) ?_)); refine c_drawn (by kernel_rfl) ?_))
  clear cF hXl
  refine sw_loopg (α := Nat × List Rw) (fun g => [(8, .pointer (some ⟨b8, 0, none⟩)), (12, .slice ao h co), (35, .int .i64 h), (36, .int .i64 g.1)])
    (fun g => .own 33 1 ao h co (g.2.map rwV) :: (g.2.map (rwE 104) ++ (.blk b8 35 [.int .i64 0, .int .i64 0, .slice none 0 0] :: H)))
    (fun g => g.1 ≤ h ∧ g.2.length = h ∧ g.2.map (·.2.2) = mendR rows g.1) (fun g => h - g.1) (0, X2) ⟨Nat.zero_le _, hl2, by rw [mendR_0]; exact hX2⟩ (by repeat (first | exact Le.nil _ | refine Le.cons (by first | rfl | (exact congrArg some (congrArg (Value.int _) (by omega)))) ?_)) ?_ ?_
  · exact fun _ hw => hw.sub (List.Sublist.cons_cons _ (List.Sublist.append (List.Sublist.refl _) (List.Sublist.cons_cons _ (List.Sublist.cons _ (List.Sublist.cons _ (List.Sublist.refl _))))))
  rintro ⟨i, Y⟩ ⟨hi, hYl, hY⟩
  dsimp only at hi hYl hY ⊢
  have hlo : (Y.map rwV).length = h * 1 := by simp [hYl]
  by_cases hlt : (i : Int) < h
  · obtain ⟨r, hr, hrw2⟩ := hrowl.out i (by omega)
    obtain ⟨⟨a1, c1, R1⟩, hx, hxR⟩ : ∃ x : Rw, Y[i]? = some x ∧ x.2.2 = r := by
      have h9 : (Y.map (·.2.2))[i]? = some r := by rw [hY, mendR_at (by omega)]; exact hr
      rw [List.getElem?_map] at h9
      cases hx : Y[i]? with
      | none => rw [hx] at h9; cases h9
      | some x => rw [hx] at h9; exact ⟨x, rfl, Option.some.inj h9⟩
    dsimp only at hxR
    subst hxR
    have hcell := rwV_at hx
    dsimp only at hcell
    rw [hrw2] at hcell
    have hcell' : (Y.map rwV)[(i : Int).toNat * 1]? = some (.slice a1 w c1) := by rw [show (i : Int).toNat * 1 = i from by omega]; exact hcell
    haveI hrd0 := rw_rd (G := G) (e := 104) (H := (.blk b8 35 [.int .i64 0, .int .i64 0, .slice none 0 0] :: H)) hx
    dsimp only at hrd0
    have hll : (i : Int).toNat * 1 < (Y.map rwV).length := by rw [hlo]; omega
    have cMi := fun (H : List Ent) {vs : List Value} [RdC G H a1 vs] (hv : vs = qds R1) => cM H R1 a1 c1 hv hrw2
    repeat' (first | (apply g_sl; first | (apply ks_nil; refine sl_nil ?_) | (apply ks_move; refine s_move rfl rfl ?_) | (apply ks_bin; refine s_bin rfl rfl rfl ?_; first | first | (refine s_indexA (c_indexAddr rfl rfl rfl hlo (by omega) (by omega)) rfl ?_) | (refine s_load rfl rfl ?_; refine ld_elem hcell' ?_) | (refine c_storee rfl rfl rfl rfl rfl hll rfl ?_) | (first | (apply kb_add; first | refine bb_add ⟨by omega, by omega⟩ ?_ | refine bb_of rfl ?_) | refine bb_of rfl ?_)) | (apply ks_load; first | (refine s_load rfl rfl ?_; first | refine ld_cell rfl ?_ | refine ld_whole rfl ?_ | refine ld_elem rfl ?_ | refine ld_part rfl rfl ?_) | first | (refine s_indexA (c_indexAddr rfl rfl rfl hlo (by omega) (by omega)) rfl ?_) | (refine s_load rfl rfl ?_; refine ld_elem hcell' ?_) | (refine c_storee rfl rfl rfl rfl rfl hll rfl ?_)) | (apply ks_asgn; refine s_asgn rfl rfl ?_) | (apply ks_un; refine s_un (y_un rfl rfl rfl) rfl ?_) | (apply ks_build; first | refine s_build (c_build rfl rfl rfl) rfl ?_ | first | (refine s_indexA (c_indexAddr rfl rfl rfl hlo (by omega) (by omega)) rfl ?_) | (refine s_load rfl rfl ?_; refine ld_elem hcell' ?_) | (refine c_storee rfl rfl rfl rfl rfl hll rfl ?_)) | (apply ks_indexA; first | refine s_indexA (c_indexAddr rfl rfl rfl rfl (by omega) (by omega)) rfl ?_ | first | (refine s_indexA (c_indexAddr rfl rfl rfl hlo (by omega) (by omega)) rfl ?_) | (refine s_load rfl rfl ?_; refine ld_elem hcell' ?_) | (refine c_storee rfl rfl rfl rfl rfl hll rfl ?_)) | (apply ks_fn; first | (refine c_call rfl rfl rfl (cMi _ rfl) rfl rfl ?_; rintro _ _ ⟨a2, c2, rfl, rfl⟩)) | (apply ks_bi; first | first | (refine s_indexA (c_indexAddr rfl rfl rfl hlo (by omega) (by omega)) rfl ?_) | (refine s_load rfl rfl ?_; refine ld_elem hcell' ?_) | (refine c_storee rfl rfl rfl rfl rfl hll rfl ?_) | refine s_call (c_len rfl rfl) rfl ?_ | refine s_call (c_len_str rfl rfl) rfl ?_ | refine s_call (c_bi rfl rfl rfl rfl) rfl ?_ | refine c_append rfl rfl rfl rfl (by first | rfl | simp [ints]) (by first | rfl | exact ints_one _ | exact octs_one _ | exact strs_one _) (by omega) rfl rfl (fun _ _ => ?_) | refine c_append_nil rfl rfl rfl rfl (by first | rfl | simp [ints]) (by first | rfl | exact ints_one _ | exact octs_one _ | exact strs_one _) (by omega) rfl rfl (fun _ _ => ?_)) | (apply ks_store; first | first | refine c_store rfl rfl rfl rfl rfl rfl rfl ?_ | refine c_storew rfl rfl rfl rfl rfl rfl rfl rfl ?_ | refine c_storee rfl rfl rfl rfl rfl (by omega) rfl ?_ | first | (refine s_indexA (c_indexAddr rfl rfl rfl hlo (by omega) (by omega)) rfl ?_) | (refine s_load rfl rfl ?_; refine ld_elem hcell' ?_) | (refine c_storee rfl rfl rfl rfl rfl hll rfl ?_)) | (apply ks_box; refine c_box rfl rfl rfl rfl rfl rfl (fun _ => ?_)) | (apply ks_alloc; refine c_alloc rfl rfl rfl rfl (fun _ => ?_)) | first | (refine s_indexA (c_indexAddr rfl rfl rfl hlo (by omega) (by omega)) rfl ?_) | (refine s_load rfl rfl ?_; refine ld_elem hcell' ?_) | (refine c_storee rfl rfl rfl rfl rfl hll rfl ?_)) | (apply sw_seq) | (apply at_srd) | (apply sw_skip) | (apply sw_ret) | (apply sw_exit) | (apply sw_block) | (apply sw_region) | (refine sw_cd rfl ?_; first | (apply gd_t) | (apply gd_ft) | (apply gd_tf) | (apply gd_dec_t <;> intro hq <;> (try (exfalso; omega))) | (apply gd_dec_f <;> intro hq <;> (try (exfalso; omega))) | (apply gd_beq_t <;> intro hq <;> (try (exfalso; omega))) | (apply gd_beq_f <;> intro hq <;> (try (exfalso; omega))) | (apply gd_bne_t <;> intro hq <;> (try (exfalso; omega))) | (apply gd_bne_f <;> intro hq <;> (try (exfalso; omega))) | (apply gd_not_t <;> intro hq) | (apply gd_not_f <;> intro hq) | (apply gd_raw_t <;> intro hq) | (apply gd_raw_f <;> intro hq)) | (apply at_thn) | (apply at_thn_ret) | (apply at_thn_exit) | (apply at_inb) | (apply at_inb_ret) | (apply at_inb_exit) | refine at_inb_pass rfl ?_ | refine c_drawn (by kernel_rfl) ?_)
    have hml : (mendQ refWidth R1).length = w := (mendTo_len _ _ _).trans hrw2
    have hik : i < Y.length := by omega
    have eV : (Y.map rwV).set ((i : Int).toNat * 1) (.slice a2 w c2) = (Y.set i (a2, c2, mendQ refWidth R1)).map rwV := by
      rw [show (i : Int).toNat * 1 = i from by omega, List.map_set]
      simp only [rwV, hml]
    have eE : Ent.own 104 4 a2 w c2 (qds (mendQ refWidth R1)) = rwE 104 (a2, c2, mendQ refWidth R1) := by simp only [rwE, hml]
    have eM : (Y.set i (a2, c2, mendQ refWidth R1)).map (·.2.2) = mendR rows (i + 1) := by
      have hri : i < rows.length := by omega
      have : rows[i] = R1 := by
        rw [List.getElem?_eq_getElem hri] at hr
        exact Option.some.inj hr
      rw [← mendR_set hri, this, List.map_set, hY]
    rw [eV, eE]
    refine at_meet (i + 1, Y.set i (a2, c2, mendQ refWidth R1)) ⟨⟨by show i + 1 ≤ h; omega, by show (Y.set i _).length = h; rw [List.length_set, hYl], eM⟩, by show h - (i + 1) < h - i; omega⟩ (by repeat (first | exact Le.nil _ | refine Le.cons (by first | rfl | (exact congrArg some (congrArg (Value.int _) (by omega)))) ?_)) ?_
    exact fun _ hw => holds_row hik hw
  · obtain rfl : i = h := by omega
    have hall : Y.map (·.2.2) = rows.map (mendQ refWidth) := by rw [hY, ← hrl, mendR_all]
    have hYw : ∀ x ∈ Y, x.2.2.length = w := fun x hx => by
      have h9 : x.2.2 ∈ Y.map (·.2.2) := List.mem_map.2 ⟨x, hx, rfl⟩
      rw [hall] at h9
      obtain ⟨r, hr, hr2⟩ := List.mem_map.1 h9
      rw [← hr2]
      exact (mendTo_len _ _ _).trans (hrw r hr)
    have hflat : flatR Y = rows.flatMap (mendQ refWidth) := by
      unfold flatR
      rw [List.flatMap_def, hall, ← List.flatMap_def]
    rw [← hflat]
    have cG := fun (H : List Ent) [RdC G H ao (Y.map rwV)] hrd => gridOf_sc G H Y w ao i co hrd hYl.symm hYw ⟨by omega, by omega⟩ ⟨by omega, by omega⟩
    repeat' (first | (apply g_sl; first | (apply ks_nil; refine sl_nil ?_) | (apply ks_move; refine s_move rfl rfl ?_) | (apply ks_bin; refine s_bin rfl rfl rfl ?_; first | fail | (first | (apply kb_add; first | refine bb_add ⟨by omega, by omega⟩ ?_ | refine bb_of rfl ?_) | refine bb_of rfl ?_)) | (apply ks_load; first | (refine s_load rfl rfl ?_; first | refine ld_cell rfl ?_ | refine ld_whole rfl ?_ | refine ld_elem rfl ?_ | refine ld_part rfl rfl ?_) | fail) | (apply ks_asgn; refine s_asgn rfl rfl ?_) | (apply ks_un; refine s_un (y_un rfl rfl rfl) rfl ?_) | (apply ks_build; first | refine s_build (c_build rfl rfl rfl) rfl ?_ | fail) | (apply ks_indexA; first | refine s_indexA (c_indexAddr rfl rfl rfl rfl (by omega) (by omega)) rfl ?_ | fail) | (apply ks_fn; first | (refine c_call rfl rfl rfl (cG _ (fun k x hx => ⟨(rw_rd hx).here.cons⟩)) rfl rfl ?_; rintro _ _ ⟨a2, c2, rfl, rfl⟩)) | (apply ks_bi; first | fail | refine s_call (c_len rfl rfl) rfl ?_ | refine s_call (c_len_str rfl rfl) rfl ?_ | refine s_call (c_bi rfl rfl rfl rfl) rfl ?_ | refine c_append rfl rfl rfl rfl (by first | rfl | simp [ints]) (by first | rfl | exact ints_one _ | exact octs_one _ | exact strs_one _) (by omega) rfl rfl (fun _ _ => ?_) | refine c_append_nil rfl rfl rfl rfl (by first | rfl | simp [ints]) (by first | rfl | exact ints_one _ | exact octs_one _ | exact strs_one _) (by omega) rfl rfl (fun _ _ => ?_)) | (apply ks_store; first | first | refine c_store rfl rfl rfl rfl rfl rfl rfl ?_ | refine c_storew rfl rfl rfl rfl rfl rfl rfl rfl ?_ | refine c_storee rfl rfl rfl rfl rfl (by omega) rfl ?_ | fail) | (apply ks_box; refine c_box rfl rfl rfl rfl rfl rfl (fun _ => ?_)) | (apply ks_alloc; refine c_alloc rfl rfl rfl rfl (fun _ => ?_)) | fail) | (apply sw_seq) | (apply at_srd) | (apply sw_skip) | (apply sw_ret) | (apply sw_exit) | (apply sw_block) | (apply sw_region) | (refine sw_cd rfl ?_; first | (apply gd_t) | (apply gd_ft) | (apply gd_tf) | (apply gd_dec_t <;> intro hq <;> (try (exfalso; omega))) | (apply gd_dec_f <;> intro hq <;> (try (exfalso; omega))) | (apply gd_beq_t <;> intro hq <;> (try (exfalso; omega))) | (apply gd_beq_f <;> intro hq <;> (try (exfalso; omega))) | (apply gd_bne_t <;> intro hq <;> (try (exfalso; omega))) | (apply gd_bne_f <;> intro hq <;> (try (exfalso; omega))) | (apply gd_not_t <;> intro hq) | (apply gd_not_f <;> intro hq) | (apply gd_raw_t <;> intro hq) | (apply gd_raw_f <;> intro hq)) | (apply at_thn) | (apply at_thn_ret) | (apply at_thn_exit) | (apply at_inb) | (apply at_inb_ret) | (apply at_inb_exit) | refine at_inb_pass rfl ?_ | refine c_drawn (by kernel_rfl) ?_)
    refine e_scc (.own 104 4 a2 (flatR Y).length c2 (qds (flatR Y)) :: H) (by first | exact .inl rfl | exact .inr rfl) rfl rfl rfl ?_ ?_
    · exact fun _ hw => hw.sub (List.Sublist.cons _ (List.Sublist.cons_cons _ (List.Sublist.cons _ (List.sublist_append_right _ _))))
    · exact ⟨a2, c2, rfl, rfl⟩
end Go.Proofs.Ytgcnfcgnkfkpeaa
/- farref.GridPut: its walk. -/
namespace Go.Sx
open Go Go.RowKit Go.Fw
theorem sc_perm {P : Program} {G : Ctx} {f : FuncId} {args : List Value} {H H' : List Ent} {R R' : Value → List Ent → Prop} (hp : H.Perm H') (h : SC P G f args H' R) (hR : ∀ v H1, R v H1 → ∃ H2, H1.Perm H2 ∧ R' v H2) : SC P G f args H R' := ⟨h.1, fun w hw => (h.2 w (hw.perm hp)).mono fun e w' ⟨v, H1, he, hw1, hr⟩ => by
  obtain ⟨H2, hp2, hr2⟩ := hR v H1 hr
  exact ⟨v, H2, he, hw1.perm hp2, hr2⟩⟩
theorem perm_row {e : TypeId} {o : Ent} {X : List Rw} {k : Nat} (y : Rw) (hk : k < X.length) (T : List Ent) : (rwE e y :: o :: ((X.take k).map (rwE e) ++ ((X.drop (k + 1)).map (rwE e) ++ T))).Perm (o :: ((X.set k y).map (rwE e) ++ T)) := by
  refine (List.Perm.swap _ _ _).trans (List.Perm.cons _ ?_)
  rw [List.set_eq_take_append_cons_drop, if_pos hk, List.map_append, List.map_cons, List.append_assoc]
  exact List.perm_middle.symm
theorem set_self {X : List Rw} {k : Nat} {x : Rw} (h : X[k]? = some x) : X.set k x = X := by
  apply List.ext_getElem?
  intro j
  by_cases hj : k = j
  · subst hj
    rw [List.getElem?_set_self (List.getElem?_eq_some_iff.1 h).1, h]
  · rw [List.getElem?_set_ne hj]
end Go.Sx
namespace Go.Proofs.Ytgcnfcgnkfkpeaa
open Go Go.RowKit Go.Fw Go.Sx
set_option maxRecDepth 100000
set_option maxHeartbeats 1000000
attribute [local irreducible] SW SL SQ AtQ SV SC BB LD PK Yields SO SOT SOA SY
/-- The rows, one of them changed. -/
def putRows (C : List Qd) (w h k : Nat) (M : List Qd) : List (List Qd) := (List.range h).map fun j => if j = k then M else rowQ w C j
theorem putRows_len (C : List Qd) (w h k : Nat) (M : List Qd) : (putRows C w h k M).length = h := by simp [putRows]
theorem putRows_w {C : List Qd} {w h k : Nat} {M : List Qd} (hC : C.length = w * h) (hM : M.length = w) : ∀ r ∈ putRows C w h k M, r.length = w := fun r hr => by
  obtain ⟨j, hj, rfl⟩ := List.mem_map.1 hr
  split
  · exact hM
  · exact rowQ_len (List.mem_range.1 hj) hC
theorem putRows_set {C : List Qd} {w h k : Nat} (M : List Qd) : ((List.range h).map (rowQ w C)).set k M = putRows C w h k M := by
  apply List.ext_getElem
  · simp [putRows]
  · intro j h1 h2
    simp only [putRows, List.getElem_map, List.getElem_range, List.getElem_set]
    by_cases hjk : k = j
    · subst hjk; simp
    · rw [if_neg hjk, if_neg (fun e => hjk e.symm)]
theorem flat_rows {C : List Qd} {w h k : Nat} (M : List Qd) (hC : C.length = w * h) (hk : k < h) (hok : ∀ j, j < h → mendQ refWidth (rowQ w C j) = rowQ w C j) : (putRows C w h k M).flatMap (mendQ refWidth) = C.take (k * w) ++ mendQ refWidth M ++ C.drop (k * w + w) := by
  have key : ∀ m, m ≤ h → ((List.range m).map fun j => if j = k then M else rowQ w C j).flatMap (mendQ refWidth) = if m ≤ k then C.take (m * w) else C.take (k * w) ++ mendQ refWidth M ++ (C.drop (k * w + w)).take (m * w - (k * w + w)) := by
    intro m
    induction m with
    | zero => intro _; rw [if_pos (Nat.zero_le _)]; simp
    | succ m ih =>
      intro hm
      rw [List.range_succ, List.map_append, List.flatMap_append, ih (by omega)]
      have hr := row_mul (w := w) (h := h) (k := m) (n := w * h) (by omega) rfl
      simp only [List.map_cons, List.map_nil, List.flatMap_cons, List.flatMap_nil, List.append_nil]
      rcases Nat.lt_trichotomy m k with h1 | rfl | h1
      · rw [if_pos (show m ≤ k by omega), if_neg (show ¬ m = k by omega), if_pos (show m + 1 ≤ k by omega), hok m (by omega), Nat.succ_mul, List.take_add]
        rfl
      · rw [if_pos (Nat.le_refl _), if_pos rfl, if_neg (show ¬ m + 1 ≤ m by omega), Nat.succ_mul, Nat.sub_self, List.take_zero, List.append_nil]
      · have hkm : k * w + w ≤ m * w := by
          have := Nat.mul_le_mul_right w (show k + 1 ≤ m from h1)
          rw [Nat.succ_mul] at this
          exact this
        rw [if_neg (show ¬ m ≤ k by omega), if_neg (show ¬ m = k by omega), if_neg (show ¬ m + 1 ≤ k by omega), hok m (by omega), Nat.succ_mul, List.append_assoc]
        congr 1
        rw [show m * w + w - (k * w + w) = (m * w - (k * w + w)) + w from by omega, List.take_add]
        congr 1
        unfold rowQ
        rw [List.drop_drop, show k * w + w + (m * w - (k * w + w)) = m * w from by omega]
  have := key h (Nat.le_refl _)
  rw [if_neg (by omega)] at this
  unfold putRows
  rw [this]
  congr 1
  rw [List.take_of_length_le]
  rw [List.length_drop, hC, Nat.mul_comm w h]
  exact Nat.le_refl _
end Go.Proofs.Ytgcnfcgnkfkpeaa
