/- farref.GridPut: its walk. -/
import Derived.Test.YtpgmdjdnmipmbaaGrid11
namespace Go.Sx
open Go Go.RowKit Go.Fw
theorem sc_perm {P : Program} {G : Ctx} {f : FuncId} {args : List Value} {H H' : List Ent} {R R' : Value → List Ent → Prop} (hp : H.Perm H') (h : SC P G f args H' R) (hR : ∀ v H1, R v H1 → ∃ H2, H1.Perm H2 ∧ R' v H2) : SC P G f args H R' := ⟨h.1, fun w hw => (h.2 w (hw.perm hp)).mono fun e w' ⟨v, H1, he, hw1, hr⟩ => by
  obtain ⟨H2, hp2, hr2⟩ := hR v H1 hr
  exact ⟨v, H2, he, hw1.perm hp2, hr2⟩⟩
theorem perm_row {e : TypeId} {o : Ent} {X : List Rw} {k : Nat} (y : Rw) (hk : k < X.length) (T : List Ent) : (rwE e y :: o :: ((X.take k).map (rwE e) ++ ((X.drop (k + 1)).map (rwE e) ++ T))).Perm (o :: ((X.set k y).map (rwE e) ++ T)) := by
  refine (List.Perm.swap _ _ _).trans (List.Perm.cons _ ?_)
  rw [List.set_eq_take_append_cons_drop, if_pos hk, List.map_append, List.map_cons, List.append_assoc]
  exact List.perm_middle.symm
theorem set_self {X : List Rw} {k : Nat} {x : Rw} (h : X[k]? = some x) : X.set k x = X := by
  apply List.ext_getElem?
  intro j
  by_cases hj : k = j
  · subst hj
    rw [List.getElem?_set_self (List.getElem?_eq_some_iff.1 h).1, h]
  · rw [List.getElem?_set_ne hj]
end Go.Sx
namespace Go.Proofs.Ytpgmdjdnmipmbaa
open Go Go.RowKit Go.Fw Go.Sx
set_option maxRecDepth 100000
set_option maxHeartbeats 1000000
attribute [local irreducible] SW SL SQ AtQ SV SC BB LD PK Yields SO SOT SOA SY
/-- The rows, one of them changed. -/
def putRows (C : List Qd) (w h k : Nat) (M : List Qd) : List (List Qd) := (List.range h).map fun j => if j = k then M else rowQ w C j
theorem putRows_len (C : List Qd) (w h k : Nat) (M : List Qd) : (putRows C w h k M).length = h := by simp [putRows]
theorem putRows_w {C : List Qd} {w h k : Nat} {M : List Qd} (hC : C.length = w * h) (hM : M.length = w) : ∀ r ∈ putRows C w h k M, r.length = w := fun r hr => by
  obtain ⟨j, hj, rfl⟩ := List.mem_map.1 hr
  split
  · exact hM
  · exact rowQ_len (List.mem_range.1 hj) hC
theorem putRows_set {C : List Qd} {w h k : Nat} (M : List Qd) : ((List.range h).map (rowQ w C)).set k M = putRows C w h k M := by
  apply List.ext_getElem
  · simp [putRows]
  · intro j h1 h2
    simp only [putRows, List.getElem_map, List.getElem_range, List.getElem_set]
    by_cases hjk : k = j
    · subst hjk; simp
    · rw [if_neg hjk, if_neg (fun e => hjk e.symm)]
theorem flat_rows {C : List Qd} {w h k : Nat} (M : List Qd) (hC : C.length = w * h) (hk : k < h) (hok : ∀ j, j < h → mendQ refWidth (rowQ w C j) = rowQ w C j) : (putRows C w h k M).flatMap (mendQ refWidth) = C.take (k * w) ++ mendQ refWidth M ++ C.drop (k * w + w) := by
  have key : ∀ m, m ≤ h → ((List.range m).map fun j => if j = k then M else rowQ w C j).flatMap (mendQ refWidth) = if m ≤ k then C.take (m * w) else C.take (k * w) ++ mendQ refWidth M ++ (C.drop (k * w + w)).take (m * w - (k * w + w)) := by
    intro m
    induction m with
    | zero => intro _; rw [if_pos (Nat.zero_le _)]; simp
    | succ m ih =>
      intro hm
      rw [List.range_succ, List.map_append, List.flatMap_append, ih (by omega)]
      have hr := row_mul (w := w) (h := h) (k := m) (n := w * h) (by omega) rfl
      simp only [List.map_cons, List.map_nil, List.flatMap_cons, List.flatMap_nil, List.append_nil]
      rcases Nat.lt_trichotomy m k with h1 | rfl | h1
      · rw [if_pos (show m ≤ k by omega), if_neg (show ¬ m = k by omega), if_pos (show m + 1 ≤ k by omega), hok m (by omega), Nat.succ_mul, List.take_add]
        rfl
      · rw [if_pos (Nat.le_refl _), if_pos rfl, if_neg (show ¬ m + 1 ≤ m by omega), Nat.succ_mul, Nat.sub_self, List.take_zero, List.append_nil]
      · have hkm : k * w + w ≤ m * w := by
          have := Nat.mul_le_mul_right w (show k + 1 ≤ m from h1)
          rw [Nat.succ_mul] at this
          exact this
        rw [if_neg (show ¬ m ≤ k by omega), if_neg (show ¬ m = k by omega), if_neg (show ¬ m + 1 ≤ k by omega), hok m (by omega), Nat.succ_mul, List.append_assoc]
        congr 1
        rw [show m * w + w - (k * w + w) = (m * w - (k * w + w)) + w from by omega, List.take_add]
        congr 1
        unfold rowQ
        rw [List.drop_drop, show k * w + w + (m * w - (k * w + w)) = m * w from by omega]
  have := key h (Nat.le_refl _)
  rw [if_neg (by omega)] at this
  unfold putRows
  rw [this]
  congr 1
  rw [List.take_of_length_le]
  rw [List.length_drop, hC, Nat.mul_comm w h]
  exact Nat.le_refl _
theorem gput_e (G : Ctx) (H : List Ent) (C : List Qd) {vs : List Value} (w h : Int) (a : Option Addr) (n c : Nat) (k col r x y z : Int) (e : Int) [h1 : RdC G H a vs] (hv : vs = qds C) (hn : n = C.length) (hm : n ≤ 9223372036854775807) (hnc : n ≤ c) (he : (gridE w h C ≠ 0 ∧ e = gridE w h C) ∨ (gridE w h C = 0 ∧ ¬ mayP w h k col (refWidth r) ∧ e = 1) ∨ (gridE w h C = 0 ∧ mayP w h k col (refWidth r) ∧ penB x y z = false ∧ e = 4)) : SV Try.prog G 59 [gridV w h a n c, .int .i64 k, .int .i64 col, .int .i64 r, penV x y z] H (.tuple #[gridZ, .int .i64 e]) := by
  subst hv
  have cW := fun H => width1_sv G H r
  have cB := fun H x lo hi => show SV Try.prog G 21 [.int .i64 x, .int .i64 lo, .int .i64 hi] H (.bool (decide (lo ≤ x ∧ x ≤ hi))) from by have h := between_sv G H x lo hi; unfold betB at h; exact h
  have hwd := refWidth_bd r
  unfold mayP at he
  have h0 := fun h0 => gridE_0 (w := w) (h := h) (C := C) h0
  have cS := fun (H : List Ent) (ok : Bool) (fv : Value) {vs : List Value} [RdC G H a vs] (hv : vs = qds C) he => edit_e G H C w h a n c ok x y z e fv hv hn hm hnc he
  generalize refWidth r = wd at *
  generalize gridE w h C = E at *
  clear hn hm
  rcases he with ⟨h2, rfl⟩ | ⟨rfl, h2, rfl⟩ | ⟨rfl, h2, hp, rfl⟩
  · have cS := fun (H : List Ent) (ok : Bool) (fv : Value) {vs : List Value} [RdC G H a vs] (hv : vs = qds C) => cS H ok fv hv (.inl ⟨h2, rfl⟩)
    clear h0
    refine sv_enter5 Try.func59 rfl rfl rfl rfl rfl ?_
    repeat' (first | (apply g_sl; first | (apply ks_nil; refine sl_nil ?_) | (apply ks_move; refine s_move rfl rfl ?_) | (apply ks_bin; refine s_bin rfl rfl rfl ?_; first | (refine s_mkfn (y_mkfn rfl rfl rfl) rfl ?_) | (first | (apply kb_sub; first | refine bb_sub ⟨by omega, by omega⟩ ?_ | refine bb_of rfl ?_) | refine bb_of rfl ?_)) | (apply ks_load; first | (refine s_load rfl rfl ?_; first | refine ld_cell rfl ?_ | refine ld_whole rfl ?_ | refine ld_elem rfl ?_ | refine ld_part rfl rfl ?_) | (refine s_mkfn (y_mkfn rfl rfl rfl) rfl ?_)) | (apply ks_asgn; refine s_asgn rfl rfl ?_) | (apply ks_pick; refine s_pick rfl rfl ?_; first | (apply kp_t; refine pk_t rfl ?_) | (apply kp_f; refine pk_f rfl ?_) | refine pk_s rfl rfl ?_) | (apply ks_field; first | refine s_field (c_field0 rfl rfl) rfl ?_ | refine s_field (c_field rfl rfl) rfl ?_) | (apply ks_extr; refine s_extr (y_extract rfl rfl rfl) rfl ?_) | (apply ks_fn; first | first | refine c_callv rfl rfl rfl (cW _) rfl rfl ?_ | refine c_callv rfl rfl rfl (cB _ _ _ _) rfl rfl ?_ | refine c_callv rfl rfl rfl (cS _ _ _ rfl) rfl rfl ?_) | (apply ks_store; first | first | refine c_store rfl rfl rfl rfl rfl rfl rfl ?_ | refine c_storew rfl rfl rfl rfl rfl rfl rfl rfl ?_ | refine c_storee rfl rfl rfl rfl rfl (by omega) rfl ?_ | (refine s_mkfn (y_mkfn rfl rfl rfl) rfl ?_)) | (apply ks_box; refine c_box rfl rfl rfl rfl rfl rfl (fun _ => ?_)) | (apply ks_alloc; refine c_alloc rfl rfl rfl rfl (fun _ => ?_)) | (apply ks_guard; first | (refine sl_gd rfl rfl rfl rfl ?_; first | (apply gd_t) | (apply gd_ft) | (apply gd_tf) | (apply gd_dec_t <;> intro hq <;> (try (exfalso; omega))) | (apply gd_dec_f <;> intro hq <;> (try (exfalso; omega))) | (apply gd_beq_t <;> intro hq <;> (try (exfalso; omega))) | (apply gd_beq_f <;> intro hq <;> (try (exfalso; omega))) | (apply gd_bne_t <;> intro hq <;> (try (exfalso; omega))) | (apply gd_bne_f <;> intro hq <;> (try (exfalso; omega))) | (apply gd_not_t <;> intro hq) | (apply gd_not_f <;> intro hq) | (apply gd_raw_t <;> intro hq) | (apply gd_raw_f <;> intro hq)) | refine sl_skip_u rfl rfl rfl rfl rfl rfl ?_) | (refine s_mkfn (y_mkfn rfl rfl rfl) rfl ?_)) | (apply sw_seq) | (apply at_srd) | (apply sw_skip) | (apply sw_ret) | (apply sw_exit) | (apply sw_block) | (apply sw_region) | (refine sw_cd rfl ?_; first | (apply gd_t) | (apply gd_ft) | (apply gd_tf) | (apply gd_dec_t <;> intro hq <;> (try (exfalso; omega))) | (apply gd_dec_f <;> intro hq <;> (try (exfalso; omega))) | (apply gd_beq_t <;> intro hq <;> (try (exfalso; omega))) | (apply gd_beq_f <;> intro hq <;> (try (exfalso; omega))) | (apply gd_bne_t <;> intro hq <;> (try (exfalso; omega))) | (apply gd_bne_f <;> intro hq <;> (try (exfalso; omega))) | (apply gd_not_t <;> intro hq) | (apply gd_not_f <;> intro hq) | (apply gd_raw_t <;> intro hq) | (apply gd_raw_f <;> intro hq)) | (apply at_thn) | (apply at_thn_ret) | (apply at_thn_exit) | (apply at_inb) | (apply at_inb_ret) | (apply at_inb_exit) | refine at_inb_pass rfl ?_ | refine c_drawn (by kernel_rfl) ?_)
    all_goals first | (exfalso; omega) | (refine e_scc H (by first | exact .inl rfl | exact .inr rfl) rfl rfl rfl (fun _ hw => hw.subs (by repeat (first | refine Subs.cons (by repeat constructor) ?_ | exact Subs.sub (by repeat (first | exact List.Sublist.refl _ | exact List.nil_sublist _ | refine List.Sublist.cons _ ?_))))) ?_; exact ⟨rfl, rfl⟩)
  · obtain ⟨⟨w1, w2, h3, h4⟩, -⟩ := h0 rfl
    have cS := fun (H : List Ent) (ok : Bool) (fv : Value) {vs : List Value} [RdC G H a vs] (hv : vs = qds C) (hok : ok = false) => cS H ok fv hv (.inr (.inl ⟨rfl, hok, rfl⟩))
    clear h0
    refine sv_enter5 Try.func59 rfl rfl rfl rfl rfl ?_
    repeat' (first | (apply g_sl; first | (apply ks_nil; refine sl_nil ?_) | (apply ks_move; refine s_move rfl rfl ?_) | (apply ks_bin; refine s_bin rfl rfl rfl ?_; first | (refine s_mkfn (y_mkfn rfl rfl rfl) rfl ?_) | (first | (apply kb_sub; first | refine bb_sub ⟨by omega, by omega⟩ ?_ | refine bb_of rfl ?_) | refine bb_of rfl ?_)) | (apply ks_load; first | (refine s_load rfl rfl ?_; first | refine ld_cell rfl ?_ | refine ld_whole rfl ?_ | refine ld_elem rfl ?_ | refine ld_part rfl rfl ?_) | (refine s_mkfn (y_mkfn rfl rfl rfl) rfl ?_)) | (apply ks_asgn; refine s_asgn rfl rfl ?_) | (apply ks_pick; refine s_pick rfl rfl ?_; first | (apply kp_t; refine pk_t rfl ?_) | (apply kp_f; refine pk_f rfl ?_) | refine pk_s rfl rfl ?_) | (apply ks_field; first | refine s_field (c_field0 rfl rfl) rfl ?_ | refine s_field (c_field rfl rfl) rfl ?_) | (apply ks_extr; refine s_extr (y_extract rfl rfl rfl) rfl ?_) | (apply ks_fn; first | first | refine c_callv rfl rfl rfl (cW _) rfl rfl ?_ | refine c_callv rfl rfl rfl (cB _ _ _ _) rfl rfl ?_ | refine c_callv rfl rfl rfl (cS _ _ _ rfl (by first | rfl | exact decide_eq_false (by omega))) rfl rfl ?_) | (apply ks_store; first | first | refine c_store rfl rfl rfl rfl rfl rfl rfl ?_ | refine c_storew rfl rfl rfl rfl rfl rfl rfl rfl ?_ | refine c_storee rfl rfl rfl rfl rfl (by omega) rfl ?_ | (refine s_mkfn (y_mkfn rfl rfl rfl) rfl ?_)) | (apply ks_box; refine c_box rfl rfl rfl rfl rfl rfl (fun _ => ?_)) | (apply ks_alloc; refine c_alloc rfl rfl rfl rfl (fun _ => ?_)) | (apply ks_guard; first | (refine sl_gd rfl rfl rfl rfl ?_; first | (apply gd_t) | (apply gd_ft) | (apply gd_tf) | (apply gd_dec_t <;> intro hq <;> (try (exfalso; omega))) | (apply gd_dec_f <;> intro hq <;> (try (exfalso; omega))) | (apply gd_beq_t <;> intro hq <;> (try (exfalso; omega))) | (apply gd_beq_f <;> intro hq <;> (try (exfalso; omega))) | (apply gd_bne_t <;> intro hq <;> (try (exfalso; omega))) | (apply gd_bne_f <;> intro hq <;> (try (exfalso; omega))) | (apply gd_not_t <;> intro hq) | (apply gd_not_f <;> intro hq) | (apply gd_raw_t <;> intro hq) | (apply gd_raw_f <;> intro hq)) | refine sl_skip_u rfl rfl rfl rfl rfl rfl ?_) | (refine s_mkfn (y_mkfn rfl rfl rfl) rfl ?_)) | (apply sw_seq) | (apply at_srd) | (apply sw_skip) | (apply sw_ret) | (apply sw_exit) | (apply sw_block) | (apply sw_region) | (refine sw_cd rfl ?_; first | (apply gd_t) | (apply gd_ft) | (apply gd_tf) | (apply gd_dec_t <;> intro hq <;> (try (exfalso; omega))) | (apply gd_dec_f <;> intro hq <;> (try (exfalso; omega))) | (apply gd_beq_t <;> intro hq <;> (try (exfalso; omega))) | (apply gd_beq_f <;> intro hq <;> (try (exfalso; omega))) | (apply gd_bne_t <;> intro hq <;> (try (exfalso; omega))) | (apply gd_bne_f <;> intro hq <;> (try (exfalso; omega))) | (apply gd_not_t <;> intro hq) | (apply gd_not_f <;> intro hq) | (apply gd_raw_t <;> intro hq) | (apply gd_raw_f <;> intro hq)) | (apply at_thn) | (apply at_thn_ret) | (apply at_thn_exit) | (apply at_inb) | (apply at_inb_ret) | (apply at_inb_exit) | refine at_inb_pass rfl ?_ | refine c_drawn (by kernel_rfl) ?_)
    all_goals first | (exfalso; omega) | (refine e_scc H (by first | exact .inl rfl | exact .inr rfl) rfl rfl rfl (fun _ hw => hw.subs (by repeat (first | refine Subs.cons (by repeat constructor) ?_ | exact Subs.sub (by repeat (first | exact List.Sublist.refl _ | exact List.nil_sublist _ | refine List.Sublist.cons _ ?_))))) ?_; exact ⟨rfl, rfl⟩)
  · obtain ⟨⟨w1, w2, h3, h4⟩, -⟩ := h0 rfl
    obtain ⟨p1, p2, p3, p4, p5⟩ := h2
    have cS := fun (H : List Ent) (ok : Bool) (fv : Value) {vs : List Value} [RdC G H a vs] (hv : vs = qds C) (hok : ok = true) => cS H ok fv hv (.inr (.inr ⟨rfl, hok, hp, rfl⟩))
    clear h0
    refine sv_enter5 Try.func59 rfl rfl rfl rfl rfl ?_
    repeat' (first | (apply g_sl; first | (apply ks_nil; refine sl_nil ?_) | (apply ks_move; refine s_move rfl rfl ?_) | (apply ks_bin; refine s_bin rfl rfl rfl ?_; first | (refine s_mkfn (y_mkfn rfl rfl rfl) rfl ?_) | (first | (apply kb_sub; first | refine bb_sub ⟨by omega, by omega⟩ ?_ | refine bb_of rfl ?_) | refine bb_of rfl ?_)) | (apply ks_load; first | (refine s_load rfl rfl ?_; first | refine ld_cell rfl ?_ | refine ld_whole rfl ?_ | refine ld_elem rfl ?_ | refine ld_part rfl rfl ?_) | (refine s_mkfn (y_mkfn rfl rfl rfl) rfl ?_)) | (apply ks_asgn; refine s_asgn rfl rfl ?_) | (apply ks_pick; refine s_pick rfl rfl ?_; first | (apply kp_t; refine pk_t rfl ?_) | (apply kp_f; refine pk_f rfl ?_) | refine pk_s rfl rfl ?_) | (apply ks_field; first | refine s_field (c_field0 rfl rfl) rfl ?_ | refine s_field (c_field rfl rfl) rfl ?_) | (apply ks_extr; refine s_extr (y_extract rfl rfl rfl) rfl ?_) | (apply ks_fn; first | first | refine c_callv rfl rfl rfl (cW _) rfl rfl ?_ | refine c_callv rfl rfl rfl (cB _ _ _ _) rfl rfl ?_ | refine c_callv rfl rfl rfl (cS _ _ _ rfl (by first | rfl | exact decide_eq_true (by omega))) rfl rfl ?_) | (apply ks_store; first | first | refine c_store rfl rfl rfl rfl rfl rfl rfl ?_ | refine c_storew rfl rfl rfl rfl rfl rfl rfl rfl ?_ | refine c_storee rfl rfl rfl rfl rfl (by omega) rfl ?_ | (refine s_mkfn (y_mkfn rfl rfl rfl) rfl ?_)) | (apply ks_box; refine c_box rfl rfl rfl rfl rfl rfl (fun _ => ?_)) | (apply ks_alloc; refine c_alloc rfl rfl rfl rfl (fun _ => ?_)) | (apply ks_guard; first | (refine sl_gd rfl rfl rfl rfl ?_; first | (apply gd_t) | (apply gd_ft) | (apply gd_tf) | (apply gd_dec_t <;> intro hq <;> (try (exfalso; omega))) | (apply gd_dec_f <;> intro hq <;> (try (exfalso; omega))) | (apply gd_beq_t <;> intro hq <;> (try (exfalso; omega))) | (apply gd_beq_f <;> intro hq <;> (try (exfalso; omega))) | (apply gd_bne_t <;> intro hq <;> (try (exfalso; omega))) | (apply gd_bne_f <;> intro hq <;> (try (exfalso; omega))) | (apply gd_not_t <;> intro hq) | (apply gd_not_f <;> intro hq) | (apply gd_raw_t <;> intro hq) | (apply gd_raw_f <;> intro hq)) | refine sl_skip_u rfl rfl rfl rfl rfl rfl ?_) | (refine s_mkfn (y_mkfn rfl rfl rfl) rfl ?_)) | (apply sw_seq) | (apply at_srd) | (apply sw_skip) | (apply sw_ret) | (apply sw_exit) | (apply sw_block) | (apply sw_region) | (refine sw_cd rfl ?_; first | (apply gd_t) | (apply gd_ft) | (apply gd_tf) | (apply gd_dec_t <;> intro hq <;> (try (exfalso; omega))) | (apply gd_dec_f <;> intro hq <;> (try (exfalso; omega))) | (apply gd_beq_t <;> intro hq <;> (try (exfalso; omega))) | (apply gd_beq_f <;> intro hq <;> (try (exfalso; omega))) | (apply gd_bne_t <;> intro hq <;> (try (exfalso; omega))) | (apply gd_bne_f <;> intro hq <;> (try (exfalso; omega))) | (apply gd_not_t <;> intro hq) | (apply gd_not_f <;> intro hq) | (apply gd_raw_t <;> intro hq) | (apply gd_raw_f <;> intro hq)) | (apply at_thn) | (apply at_thn_ret) | (apply at_thn_exit) | (apply at_inb) | (apply at_inb_ret) | (apply at_inb_exit) | refine at_inb_pass rfl ?_ | refine c_drawn (by kernel_rfl) ?_)
    all_goals first | (exfalso; omega) | (refine e_scc H (by first | exact .inl rfl | exact .inr rfl) rfl rfl rfl (fun _ hw => hw.subs (by repeat (first | refine Subs.cons (by repeat constructor) ?_ | exact Subs.sub (by repeat (first | exact List.Sublist.refl _ | exact List.nil_sublist _ | refine List.Sublist.cons _ ?_))))) ?_; exact ⟨rfl, rfl⟩)
theorem gput_ok (G : Ctx) (H : List Ent) (C : List Qd) {vs : List Value} (w h : Nat) (a : Option Addr) (n c k col : Nat) (r x y z : Int) [h1 : RdC G H a vs] (hv : vs = qds C) (hn : n = C.length) (hnc : n ≤ c) (he : gridE w h C = 0) (hmay : mayP w h k col (refWidth r)) (hp : penB x y z = true) (hrb : -9223372036854775808 ≤ r ∧ r ≤ 9223372036854775807) : SC Try.prog G 59 [gridV w h a n c, .int .i64 k, .int .i64 col, .int .i64 r, penV x y z] H fun v H' => ∃ a' c', v = .tuple #[gridV w h a' (putC C w k col r x y z).length c', .int .i64 0] ∧ H' = .own 156 4 a' (putC C w k col r x y z).length c' (qds (putC C w k col r x y z)) :: H := by
  subst hv
  have cW := fun H => width1_sv G H r
  have cB := fun H x lo hi => show SV Try.prog G 21 [.int .i64 x, .int .i64 lo, .int .i64 hi] H (.bool (decide (lo ≤ x ∧ x ≤ hi))) from by have h := between_sv G H x lo hi; unfold betB at h; exact h
  have hwd := refWidth_bd r
  obtain ⟨⟨w1, w2, h3, h4⟩, hl⟩ := gridE_0 he
  have hlen : C.length = w * h := by
    have : ((w * h : Nat) : Int) = (w : Int) * (h : Int) := by simp
    omega
  obtain ⟨p1, p2, p3, p4, p5⟩ := hmay
  have hkh : k < h := by omega
  have hR := rowQ_len (w := w) (h := h) (k := k) (C := C) hkh hlen
  have hcells := gridE_cells he
  have hmend : ∀ j, j < h → mendQ refWidth (rowQ w C j) = rowQ w C j := fun j hj => mendQ_right fun i hi => by
    rw [rowQ_len hj hlen] at hi
    have := hcells j hj i hi
    unfold cellOk at this
    simp only [Bool.and_eq_true, Bool.not_eq_true'] at this
    exact this.2.2
  have hT : putC C w k col r x y z = (putRows C w h k (putQ refWidth (rowQ w C k) col r x y z)).flatMap (mendQ refWidth) := (flat_rows _ hlen hkh hmend).symm
  have hQl : (putQ refWidth (rowQ w C k) col r x y z).length = w := (putQ_len _ _ _ _ _ _ _).trans hR
  have cE := fun (H : List Ent) {vs : List Value} [RdC G H a vs] (hv : vs = qds C) cap hF => edit_ok G H C w h a n c x y z 112 cap (putRows C w h k (putQ refWidth (rowQ w C k) col r x y z)) hv hn hnc he hp (putRows_len _ _ _ _ _) (putRows_w hlen hQl) hF
  rw [← hT] at cE
  have hQ : putQ refWidth (rowQ w C k) col r x y z = (if refWidth r = 2 then ((rowQ w C k).set col (r, x, y, z)).set (col + 1) (0, x, y, z) else (rowQ w C k).set col (r, x, y, z)) := rfl
  have hset := putRows_set (C := C) (w := w) (h := h) (k := k) (putQ refWidth (rowQ w C k) col r x y z)
  rw [hQ] at hset cE hQl
  generalize putC C w k col r x y z = T at *
  generalize refWidth r = wd at *
  have hF : ∀ (L : List Ent) (bw br bp brow bcol : Nat) [HasBlk L bw 3 [.int .i64 wd]] [HasBlk L br 3 [.int .i64 r]] [HasBlk L bp 69 [.int .i64 x, .int .i64 y, .int .i64 z]] [HasBlk L brow 3 [.int .i64 k]] [HasBlk L bcol 3 [.int .i64 col]] (Bs : List Ent) (X : List Rw) (ao : Option Addr) (co : Nat), X.length = h → X.map (·.2.2) = (List.range h).map (rowQ w C) → SC Try.prog G 112 ([.slice ao h co] ++ [.pointer (some ⟨bw, 0, none⟩), .pointer (some ⟨br, 0, none⟩), .pointer (some ⟨bp, 0, none⟩), .pointer (some ⟨brow, 0, none⟩), .pointer (some ⟨bcol, 0, none⟩)]) (.own 92 1 ao h co (X.map rwV) :: (X.map (rwE 156) ++ (Bs ++ L))) fun v H' => v = .tuple #[] ∧ ∃ X' : List Rw, X'.length = h ∧ X'.map (·.2.2) = putRows C w h k (if wd = 2 then ((rowQ w C k).set col (r, x, y, z)).set (col + 1) (0, x, y, z) else (rowQ w C k).set col (r, x, y, z)) ∧ H' = .own 92 1 ao h co (X'.map rwV) :: (X'.map (rwE 156) ++ (Bs ++ L)) := by
    intro L bw br bp brow bcol _ _ _ _ _ Bs X ao co hXl hX
    obtain ⟨⟨a', c', R'⟩, hx, hxR⟩ := rows_get hX hkh
    dsimp only at hxR
    have hcell := rwV_at hx
    dsimp only at hcell
    rw [hxR, hR] at hcell
    have hkl : k < X.length := by omega
    have hp1 := perm_row (e := 156) (o := .own 92 1 ao h co (X.map rwV)) (a', c', R') hkl (Bs ++ L)
    rw [set_self hx] at hp1
    have hE : rwE 156 (a', c', R') = .own 156 4 a' w c' (qds (rowQ w C k)) := by simp only [rwE, hxR, hR]
    rw [hE] at hp1
    generalize hQQ : (if wd = 2 then ((rowQ w C k).set col (r, x, y, z)).set (col + 1) (0, x, y, z) else (rowQ w C k).set col (r, x, y, z)) = Q at *
    have hp2 := perm_row (e := 156) (o := .own 92 1 ao h co (X.map rwV)) (a', c', Q) hkl (Bs ++ L)
    have hE2 : rwE 156 (a', c', Q) = .own 156 4 a' w c' (qds Q) := by simp only [rwE, hQl]
    rw [hE2] at hp2
    have hV : (X.set k (a', c', Q)).map rwV = X.map rwV := by
      rw [List.map_set]
      apply List.ext_getElem?
      intro j
      by_cases hj : k = j
      · subst hj
        rw [List.getElem?_set_self (by rw [List.length_map]; omega), hcell]
        simp only [rwV, hQl]
      · rw [List.getElem?_set_ne hj]
    refine sc_perm hp1.symm (putF_sc G _ (rowQ w C k) (X.map rwV) a' ao w c' h co k col wd r x y z bw br bp brow bcol hR (by simp [hXl]) hkh (by rw [show (k : Int).toNat * 1 = k from by omega]; exact hcell) (by omega) (by omega) hrb (by omega)) ?_
    rintro v H1 ⟨rfl, rfl⟩
    rw [hQQ]
    refine ⟨_, hp2, rfl, X.set k (a', c', Q), by rw [List.length_set, hXl], ?_, by rw [hV]⟩
    rw [List.map_set, hX]
    exact hset
  have cE2 := fun (H : List Ent) (ok : Bool) {vs : List Value} [RdC G H a vs] (hv : vs = qds C) (cap : List Value) hF (hok : ok = true) => show SC Try.prog G 111 [gridV w h a n c, .bool ok, penV x y z, .func (.func 112) #[] cap.toArray] H fun v H' => ∃ a' c', v = .tuple #[gridV w h a' T.length c', .int .i64 0] ∧ H' = .own 156 4 a' T.length c' (qds T) :: H from by
    rw [hok]; exact cE H hv cap hF
  clear cE hset hQl hQ hT hmend hcells hR hl hlen hn he hp
  refine sc_enter5 Try.func59 rfl rfl rfl rfl rfl ?_
  repeat' (first | (apply g_sl; first | (apply ks_nil; refine sl_nil ?_) | (apply ks_move; refine s_move rfl rfl ?_) | (apply ks_bin; refine s_bin rfl rfl rfl ?_; first | (refine s_mkfn (y_mkfn rfl rfl rfl) rfl ?_) | (first | (apply kb_sub; first | refine bb_sub ⟨by omega, by omega⟩ ?_ | refine bb_of rfl ?_) | refine bb_of rfl ?_)) | (apply ks_load; first | (refine s_load rfl rfl ?_; first | refine ld_cell rfl ?_ | refine ld_whole rfl ?_ | refine ld_elem rfl ?_ | refine ld_part rfl rfl ?_) | (refine s_mkfn (y_mkfn rfl rfl rfl) rfl ?_)) | (apply ks_asgn; refine s_asgn rfl rfl ?_) | (apply ks_pick; refine s_pick rfl rfl ?_; first | (apply kp_t; refine pk_t rfl ?_) | (apply kp_f; refine pk_f rfl ?_) | refine pk_s rfl rfl ?_) | (apply ks_field; first | refine s_field (c_field0 rfl rfl) rfl ?_ | refine s_field (c_field rfl rfl) rfl ?_) | (apply ks_extr; refine s_extr (y_extract rfl rfl rfl) rfl ?_) | (apply ks_fn; first | first | refine c_callv rfl rfl rfl (cW _) rfl rfl ?_ | refine c_callv rfl rfl rfl (cB _ _ _ _) rfl rfl ?_ | (refine c_call rfl rfl rfl (cE2 _ _ rfl _ (hF _ _ _ _ _ _) (by first | rfl | exact decide_eq_true (by omega))) rfl rfl ?_; rintro _ _ ⟨a2, c2, rfl, rfl⟩)) | (apply ks_store; first | first | refine c_store rfl rfl rfl rfl rfl rfl rfl ?_ | refine c_storew rfl rfl rfl rfl rfl rfl rfl rfl ?_ | refine c_storee rfl rfl rfl rfl rfl (by omega) rfl ?_ | (refine s_mkfn (y_mkfn rfl rfl rfl) rfl ?_)) | (apply ks_box; refine c_box rfl rfl rfl rfl rfl rfl (fun _ => ?_)) | (apply ks_alloc; refine c_alloc rfl rfl rfl rfl (fun _ => ?_)) | (apply ks_guard; first | (refine sl_gd rfl rfl rfl rfl ?_; first | (apply gd_t) | (apply gd_ft) | (apply gd_tf) | (apply gd_dec_t <;> intro hq <;> (try (exfalso; omega))) | (apply gd_dec_f <;> intro hq <;> (try (exfalso; omega))) | (apply gd_beq_t <;> intro hq <;> (try (exfalso; omega))) | (apply gd_beq_f <;> intro hq <;> (try (exfalso; omega))) | (apply gd_bne_t <;> intro hq <;> (try (exfalso; omega))) | (apply gd_bne_f <;> intro hq <;> (try (exfalso; omega))) | (apply gd_not_t <;> intro hq) | (apply gd_not_f <;> intro hq) | (apply gd_raw_t <;> intro hq) | (apply gd_raw_f <;> intro hq)) | refine sl_skip_u rfl rfl rfl rfl rfl rfl ?_) | (refine s_mkfn (y_mkfn rfl rfl rfl) rfl ?_)) | (apply sw_seq) | (apply at_srd) | (apply sw_skip) | (apply sw_ret) | (apply sw_exit) | (apply sw_block) | (apply sw_region) | (refine sw_cd rfl ?_; first | (apply gd_t) | (apply gd_ft) | (apply gd_tf) | (apply gd_dec_t <;> intro hq <;> (try (exfalso; omega))) | (apply gd_dec_f <;> intro hq <;> (try (exfalso; omega))) | (apply gd_beq_t <;> intro hq <;> (try (exfalso; omega))) | (apply gd_beq_f <;> intro hq <;> (try (exfalso; omega))) | (apply gd_bne_t <;> intro hq <;> (try (exfalso; omega))) | (apply gd_bne_f <;> intro hq <;> (try (exfalso; omega))) | (apply gd_not_t <;> intro hq) | (apply gd_not_f <;> intro hq) | (apply gd_raw_t <;> intro hq) | (apply gd_raw_f <;> intro hq)) | (apply at_thn) | (apply at_thn_ret) | (apply at_thn_exit) | (apply at_inb) | (apply at_inb_ret) | (apply at_inb_exit) | refine at_inb_pass rfl ?_ | refine c_drawn (by kernel_rfl) ?_)
  all_goals first
    | (exfalso; omega)
    | (refine e_scc (.own 156 4 a2 T.length c2 (qds T) :: H) (by first | exact .inl rfl | exact .inr rfl) rfl rfl rfl (fun _ hw => hw.subs (by repeat (first | refine Subs.cons (by repeat constructor) ?_ | exact Subs.sub (by repeat (first | exact List.Sublist.refl _ | exact List.nil_sublist _ | refine List.Sublist.cons _ ?_))))) ?_
       exact ⟨a2, c2, rfl, rfl⟩)
end Go.Proofs.Ytpgmdjdnmipmbaa
