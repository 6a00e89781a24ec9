/- farlaw.GridPuts returns true for every input, and each argument reads as it read. -/
import Derived.Test.YtpgmdjdnmipmbaaLawGrid
import Derived.Test.YtpgmdjdnmipmbaaGrid13
namespace Go.Proofs.Ytpgmdjdnmipmbaa
open Go Go.RowKit Go.Fw Go.Sx Go.ChangeShapes Go.WideShapes Go.ChangeAt
set_option maxRecDepth 100000
set_option maxHeartbeats 2000000
attribute [local irreducible] SW SL SQ AtQ SV SC BB LD PK Yields SO SOT SOA SY

theorem own : ownKnob Try.prog.godebug = none := by kernel_rfl
theorem laidOut : laidOutB Try.prog = true := by kernel_rfl
theorem putC_len {C : List Qd} {w h k col : Nat} {r x y z : Int} (hC : C.length = w * h) (hk : k < h) : (putC C w k col r x y z).length = C.length := by
  have hr := row_mul hk hC
  unfold putC
  rw [List.length_append, List.length_append, List.length_take, List.length_drop]
  have h1 : (mendQ refWidth (putQ refWidth (rowQ w C k) col r x y z)).length = w := (mendTo_len _ _ _).trans ((putQ_len _ _ _ _ _ _ _).trans (rowQ_len hk hC))
  rw [h1]
  omega
theorem gridPuts_e (G : Ctx) (C : List Qd) (w h : Int) (a : Option Addr) (n c : Nat) (k col r x y z e : Int) [ha : ∀ H, RdC G H a (qds C)] (hn : n = C.length) (hm : n ≤ 9223372036854775807) (hnc : n ≤ c) (he : (gridE w h C ≠ 0 ∧ e = gridE w h C) ∨ (gridE w h C = 0 ∧ ¬ mayP w h k col (refWidth r) ∧ e = 1) ∨ (gridE w h C = 0 ∧ mayP w h k col (refWidth r) ∧ penB x y z = false ∧ e = 4)) : SV Try.prog G 13 [gridV w h a n c, .int .i64 k, .int .i64 col, .int .i64 r, penV x y z] [] (.bool true) := by
  have c1 := fun H => put_e G H C w h a n c k col r x y z e rfl hn hm hnc he
  have c2 := fun H => gput_e G H C w h a n c k col r x y z e rfl hn hm hnc he
  have c3 := fun H => gridCheck_sv G H C w h a n c rfl hn hm hnc
  have c4 := fun H => gridRight_sv G H C w h a n c rfl hn hm hnc
  haveI : ∀ H, RdC G H none (qds []) := fun H => ⟨fun w _ => At.nil w none⟩
  have c5 := fun H => sameGrid_sv G H [] [] 0 0 0 0 none none 0 0 0 0 rfl rfl rfl rfl (by decide) (by decide) rfl rfl rfl
  generalize gridE w h C = E at *
  clear he hn hm hnc
  refine sv_enter5 Try.func13 rfl rfl rfl rfl rfl ?_
  repeat' (first | (apply g_sl; first | (apply ks_nil; refine sl_nil ?_) | (apply ks_move; refine s_move rfl rfl ?_) | (apply ks_bin; refine s_bin rfl rfl rfl ?_; first | fail | (first | refine bb_of rfl ?_)) | (apply ks_load; first | (refine s_load rfl rfl ?_; first | refine ld_cell rfl ?_ | refine ld_whole rfl ?_ | refine ld_elem rfl ?_ | refine ld_part rfl rfl ?_) | fail) | (apply ks_asgn; refine s_asgn rfl rfl ?_) | (apply ks_pick; refine s_pick rfl rfl ?_; first | (apply kp_t; refine pk_t rfl ?_) | (apply kp_f; refine pk_f rfl ?_) | refine pk_s rfl rfl ?_) | (apply ks_extr; refine s_extr (y_extract rfl rfl rfl) rfl ?_) | (apply ks_fn; first | first | refine c_callv rfl rfl rfl (c1 _) rfl rfl ?_ | refine c_callv rfl rfl rfl (c2 _) rfl rfl ?_) | (apply ks_store; first | first | refine c_store rfl rfl rfl rfl rfl rfl rfl ?_ | refine c_storew rfl rfl rfl rfl rfl rfl rfl rfl ?_ | refine c_storee rfl rfl rfl rfl rfl (by omega) rfl ?_ | fail) | (apply ks_box; refine c_box rfl rfl rfl rfl rfl rfl (fun _ => ?_)) | (apply ks_alloc; refine c_alloc rfl rfl rfl rfl (fun _ => ?_)) | (apply ks_guard; first | (refine sl_gd rfl rfl rfl rfl ?_; first | (apply gd_t) | (apply gd_ft) | (apply gd_tf) | (apply gd_dec_t <;> intro hq <;> (try (exfalso; omega))) | (apply gd_dec_f <;> intro hq <;> (try (exfalso; omega))) | (apply gd_beq_t <;> intro hq <;> (try (exfalso; omega))) | (apply gd_beq_f <;> intro hq <;> (try (exfalso; omega))) | (apply gd_bne_t <;> intro hq <;> (try (exfalso; omega))) | (apply gd_bne_f <;> intro hq <;> (try (exfalso; omega))) | (apply gd_not_t <;> intro hq) | (apply gd_not_f <;> intro hq) | (apply gd_raw_t <;> intro hq) | (apply gd_raw_f <;> intro hq)) | refine sl_skip_u rfl rfl rfl rfl rfl rfl ?_) | fail) | (apply g_sq; first | (apply kq_nil; refine sq_nil ?_) | (apply kq_move; refine q_move rfl rfl ?_) | (apply kq_bin; refine q_bin rfl rfl rfl ?_; first | fail | (first | refine bb_of rfl ?_)) | (apply kq_load; first | (refine q_load rfl rfl ?_; first | refine ld_cell rfl ?_ | refine ld_whole rfl ?_ | refine ld_elem rfl ?_ | refine ld_part rfl rfl ?_) | fail) | (apply kq_asgn; refine q_asgn rfl rfl ?_) | (apply kq_pick; refine q_pick rfl rfl ?_; first | (apply kp_t; refine pk_t rfl ?_) | (apply kp_f; refine pk_f rfl ?_) | refine pk_s rfl rfl ?_) | (apply kq_extr; refine q_extr (y_extract rfl rfl rfl) rfl ?_) | (apply kq_fn; first | first | refine c_callq rfl rfl rfl (c3 _) rfl rfl ?_ | refine c_callq rfl rfl rfl (c4 _) rfl rfl ?_ | refine c_callq rfl rfl rfl (c5 _) rfl rfl ?_) | (apply kq_guard; first | (refine sq_gd rfl rfl rfl rfl ?_; first | (apply gd_t) | (apply gd_ft) | (apply gd_tf) | (apply gd_dec_t <;> intro hq <;> (try (exfalso; omega))) | (apply gd_dec_f <;> intro hq <;> (try (exfalso; omega))) | (apply gd_beq_t <;> intro hq <;> (try (exfalso; omega))) | (apply gd_beq_f <;> intro hq <;> (try (exfalso; omega))) | (apply gd_bne_t <;> intro hq <;> (try (exfalso; omega))) | (apply gd_bne_f <;> intro hq <;> (try (exfalso; omega))) | (apply gd_not_t <;> intro hq) | (apply gd_not_f <;> intro hq) | (apply gd_raw_t <;> intro hq) | (apply gd_raw_f <;> intro hq)) | refine sq_skip_u rfl rfl rfl rfl rfl rfl ?_) | fail) | (apply sw_seq) | (apply at_srd) | (apply sw_skip) | (apply sw_ret) | (apply sw_exit) | (apply sw_block) | (apply sw_region) | (refine sw_cd rfl ?_; first | (apply gd_t) | (apply gd_ft) | (apply gd_tf) | (apply gd_dec_t <;> intro hq <;> (try (exfalso; omega))) | (apply gd_dec_f <;> intro hq <;> (try (exfalso; omega))) | (apply gd_beq_t <;> intro hq <;> (try (exfalso; omega))) | (apply gd_beq_f <;> intro hq <;> (try (exfalso; omega))) | (apply gd_bne_t <;> intro hq <;> (try (exfalso; omega))) | (apply gd_bne_f <;> intro hq <;> (try (exfalso; omega))) | (apply gd_not_t <;> intro hq) | (apply gd_not_f <;> intro hq) | (apply gd_raw_t <;> intro hq) | (apply gd_raw_f <;> intro hq)) | (apply at_thn) | (apply at_thn_ret) | (apply at_thn_exit) | (apply at_inb) | (apply at_inb_ret) | (apply at_inb_exit) | refine at_inb_pass rfl ?_ | refine c_drawn (by kernel_rfl) ?_)
  all_goals first | exact absurd rfl (by assumption) | (refine e_sv (by first | exact .inl rfl | exact .inr rfl) rfl (by repeat (first | exact List.Sublist.refl _ | exact List.nil_sublist _ | refine List.Sublist.cons _ ?_)) ?_; simp [resV])
theorem gridPuts_ok (G : Ctx) (C : List Qd) (w h : Nat) (a : Option Addr) (n c k col : Nat) (r x y z : Int) [ha : ∀ H, RdC G H a (qds C)] (hn : n = C.length) (hnc : n ≤ c) (he : gridE w h C = 0) (hmay : mayP w h k col (refWidth r)) (hp : penB x y z = true) (hrb : -9223372036854775808 ≤ r ∧ r ≤ 9223372036854775807) : SV Try.prog G 13 [gridV w h a n c, .int .i64 k, .int .i64 col, .int .i64 r, penV x y z] [] (.bool true) := by
  obtain ⟨⟨w1, w2, h3, h4⟩, hl⟩ := gridE_0 he
  have hlen : C.length = w * h := by
    have : ((w * h : Nat) : Int) = (w : Int) * (h : Int) := by simp
    omega
  have hm : n ≤ 100000 := by
    have : w * h ≤ 160 * 60 := Nat.mul_le_mul (by omega) (by omega)
    omega
  have hpl := putC_len (C := C) (w := w) (h := h) (k := k) (col := col) (r := r) (x := x) (y := y) (z := z) hlen (by have := hmay.2.1; omega)
  have c1 := fun H => put_ok G H C w h a n c k col r x y z rfl hn hnc he hmay hp
  have c2 := fun H => gput_ok G H C w h a n c k col r x y z rfl hn hnc he hmay hp hrb
  have c3 := fun H => gridCheck_sv G H C w h a n c rfl hn (by omega) hnc
  have c4 := fun H => gridRight_sv G H C w h a n c rfl hn (by omega) hnc
  have c5 := fun (H : List Ent) (a1 a2 : Option Addr) (d1 d2 : Nat) {vs us : List Value} [RdC G H a1 vs] [RdC G H a2 us] (hv : vs = qds (putC C w k col r x y z)) (hu : us = qds (putC C w k col r x y z)) => sameGrid_sv G H _ _ w h w h a1 a2 n (putC C w k col r x y z).length d1 d2 hv hu (by rw [hpl, hn]) rfl hm (by rw [hpl, ← hn]; exact hm) rfl rfl rfl
  generalize gridE w h C = E at *
  generalize putC C w k col r x y z = T at *
  clear hpl hmay hp hrb hl hlen hn
  refine sv_enter5 Try.func13 rfl rfl rfl rfl rfl ?_
  repeat' (first | (apply g_sl; first | (apply ks_nil; refine sl_nil ?_) | (apply ks_move; refine s_move rfl rfl ?_) | (apply ks_bin; refine s_bin rfl rfl rfl ?_; first | fail | (first | refine bb_of rfl ?_)) | (apply ks_load; first | (refine s_load rfl rfl ?_; first | refine ld_cell rfl ?_ | refine ld_whole rfl ?_ | refine ld_elem rfl ?_ | refine ld_part rfl rfl ?_) | fail) | (apply ks_asgn; refine s_asgn rfl rfl ?_) | (apply ks_pick; refine s_pick rfl rfl ?_; first | (apply kp_t; refine pk_t rfl ?_) | (apply kp_f; refine pk_f rfl ?_) | refine pk_s rfl rfl ?_) | (apply ks_extr; refine s_extr (y_extract rfl rfl rfl) rfl ?_) | (apply ks_fn; first | first | (refine c_call rfl rfl rfl (c1 _) rfl rfl ?_; rintro _ _ ⟨a1, d1, rfl, rfl⟩) | (refine c_call rfl rfl rfl (c2 _) rfl rfl ?_; rintro _ _ ⟨a2, d2, rfl, rfl⟩)) | (apply ks_store; first | first | refine c_store rfl rfl rfl rfl rfl rfl rfl ?_ | refine c_storew rfl rfl rfl rfl rfl rfl rfl rfl ?_ | refine c_storee rfl rfl rfl rfl rfl (by omega) rfl ?_ | fail) | (apply ks_box; refine c_box rfl rfl rfl rfl rfl rfl (fun _ => ?_)) | (apply ks_alloc; refine c_alloc rfl rfl rfl rfl (fun _ => ?_)) | (apply ks_guard; first | (refine sl_gd rfl rfl rfl rfl ?_; first | (apply gd_t) | (apply gd_ft) | (apply gd_tf) | (apply gd_dec_t <;> intro hq <;> (try (exfalso; omega))) | (apply gd_dec_f <;> intro hq <;> (try (exfalso; omega))) | (apply gd_beq_t <;> intro hq <;> (try (exfalso; omega))) | (apply gd_beq_f <;> intro hq <;> (try (exfalso; omega))) | (apply gd_bne_t <;> intro hq <;> (try (exfalso; omega))) | (apply gd_bne_f <;> intro hq <;> (try (exfalso; omega))) | (apply gd_not_t <;> intro hq) | (apply gd_not_f <;> intro hq) | (apply gd_raw_t <;> intro hq) | (apply gd_raw_f <;> intro hq)) | refine sl_skip_u rfl rfl rfl rfl rfl rfl ?_) | fail) | (apply g_sq; first | (apply kq_nil; refine sq_nil ?_) | (apply kq_move; refine q_move rfl rfl ?_) | (apply kq_bin; refine q_bin rfl rfl rfl ?_; first | fail | (first | refine bb_of rfl ?_)) | (apply kq_load; first | (refine q_load rfl rfl ?_; first | refine ld_cell rfl ?_ | refine ld_whole rfl ?_ | refine ld_elem rfl ?_ | refine ld_part rfl rfl ?_) | fail) | (apply kq_asgn; refine q_asgn rfl rfl ?_) | (apply kq_pick; refine q_pick rfl rfl ?_; first | (apply kp_t; refine pk_t rfl ?_) | (apply kp_f; refine pk_f rfl ?_) | refine pk_s rfl rfl ?_) | (apply kq_extr; refine q_extr (y_extract rfl rfl rfl) rfl ?_) | (apply kq_fn; first | first | refine c_callq rfl rfl rfl (c3 _) rfl rfl ?_ | refine c_callq rfl rfl rfl (c4 _) rfl rfl ?_ | refine c_callq rfl rfl rfl (c5 _ _ _ _ _ rfl rfl) rfl rfl ?_) | (apply kq_guard; first | (refine sq_gd rfl rfl rfl rfl ?_; first | (apply gd_t) | (apply gd_ft) | (apply gd_tf) | (apply gd_dec_t <;> intro hq <;> (try (exfalso; omega))) | (apply gd_dec_f <;> intro hq <;> (try (exfalso; omega))) | (apply gd_beq_t <;> intro hq <;> (try (exfalso; omega))) | (apply gd_beq_f <;> intro hq <;> (try (exfalso; omega))) | (apply gd_bne_t <;> intro hq <;> (try (exfalso; omega))) | (apply gd_bne_f <;> intro hq <;> (try (exfalso; omega))) | (apply gd_not_t <;> intro hq) | (apply gd_not_f <;> intro hq) | (apply gd_raw_t <;> intro hq) | (apply gd_raw_f <;> intro hq)) | refine sq_skip_u rfl rfl rfl rfl rfl rfl ?_) | fail) | (apply sw_seq) | (apply at_srd) | (apply sw_skip) | (apply sw_ret) | (apply sw_exit) | (apply sw_block) | (apply sw_region) | (refine sw_cd rfl ?_; first | (apply gd_t) | (apply gd_ft) | (apply gd_tf) | (apply gd_dec_t <;> intro hq <;> (try (exfalso; omega))) | (apply gd_dec_f <;> intro hq <;> (try (exfalso; omega))) | (apply gd_beq_t <;> intro hq <;> (try (exfalso; omega))) | (apply gd_beq_f <;> intro hq <;> (try (exfalso; omega))) | (apply gd_bne_t <;> intro hq <;> (try (exfalso; omega))) | (apply gd_bne_f <;> intro hq <;> (try (exfalso; omega))) | (apply gd_not_t <;> intro hq) | (apply gd_not_f <;> intro hq) | (apply gd_raw_t <;> intro hq) | (apply gd_raw_f <;> intro hq)) | (apply at_thn) | (apply at_thn_ret) | (apply at_thn_exit) | (apply at_inb) | (apply at_inb_ret) | (apply at_inb_exit) | refine at_inb_pass rfl ?_ | refine c_drawn (by kernel_rfl) ?_)
  all_goals first | exact absurd rfl (by assumption) | (refine e_sv (by first | exact .inl rfl | exact .inr rfl) rfl (by repeat (first | exact List.Sublist.refl _ | exact List.nil_sublist _ | refine List.Sublist.cons _ ?_)) ?_; simp [resV])
theorem gridPuts_sv (G : Ctx) (C : List Qd) (w h : Int) (a : Option Addr) (n c : Nat) (k col r x y z : Int) [ha : ∀ H, RdC G H a (qds C)] (hn : n = C.length) (hm : n ≤ 9223372036854775807) (hnc : n ≤ c) (hrb : -9223372036854775808 ≤ r ∧ r ≤ 9223372036854775807) : SV Try.prog G 13 [gridV w h a n c, .int .i64 k, .int .i64 col, .int .i64 r, penV x y z] [] (.bool true) := by
  by_cases he : gridE w h C = 0
  · by_cases hmay : mayP w h k col (refWidth r)
    · cases hp : penB x y z
      · exact gridPuts_e G C w h a n c k col r x y z 4 hn hm hnc (.inr (.inr ⟨he, hmay, hp, rfl⟩))
      · obtain ⟨⟨w1, w2, h3, h4⟩, -⟩ := gridE_0 he
        obtain ⟨w, rfl⟩ := Int.eq_ofNat_of_zero_le (show 0 ≤ w by omega)
        obtain ⟨h, rfl⟩ := Int.eq_ofNat_of_zero_le (show 0 ≤ h by omega)
        obtain ⟨k, rfl⟩ := Int.eq_ofNat_of_zero_le hmay.1
        obtain ⟨col, rfl⟩ := Int.eq_ofNat_of_zero_le hmay.2.2.2.1
        exact gridPuts_ok G C w h a n c k col r x y z hn hnc he hmay hp hrb
    · exact gridPuts_e G C w h a n c k col r x y z 1 hn hm hnc (.inr (.inl ⟨he, hmay, rfl⟩))
  · exact gridPuts_e G C w h a n c k col r x y z _ hn hm hnc (.inl ⟨he, rfl⟩)
theorem pen_open {H : Type} {enc : TypeId × Value → H} {W : World} {base : Nat} {v : Value} {d : DataW H} {p : List MemPlace} (k : Value.okWide Try.prog W .any base 69 v) (h : DataW.Trod enc Try.prog W 0 (fun _ => true) true 69 v d p) : ∃ fl fo ba, v = penV fl fo ba := by
  obtain ⟨zs, hz, rfl, -⟩ := open_struct_flat (k := .i64) Try.underlying69 (by kernel_rfl) (fun i f hf => by
    match i, hf with
    | 0, hf | 1, hf | 2, hf => cases hf; exact ⟨rfl, Try.underlying3, by kernel_rfl⟩
    | i + 3, hf => simp at hf) k h
  match zs, hz with
  | [a, b, c], _ => exact ⟨a, b, c, rfl⟩
theorem gridPuts_law {H : Type} (enc : TypeId × Value → H) (W : World) {base : Nat} {v0 v1 v2 v3 v4 : Value} {d0 d1 d2 d3 d4 : DataW H} {p0 p1 p2 p3 p4 : List MemPlace}
    (k0 : Value.okWide Try.prog W .any base 94 v0) (h0 : DataW.Trod enc Try.prog W 0 (fun _ => true) true 94 v0 d0 p0)
    (k1 : Value.okWide Try.prog W .any base 3 v1) (h1 : DataW.Trod enc Try.prog W 0 (fun _ => true) true 3 v1 d1 p1)
    (k2 : Value.okWide Try.prog W .any base 3 v2) (h2 : DataW.Trod enc Try.prog W 0 (fun _ => true) true 3 v2 d2 p2)
    (k3 : Value.okWide Try.prog W .any base 3 v3) (h3 : DataW.Trod enc Try.prog W 0 (fun _ => true) true 3 v3 d3 p3)
    (k4 : Value.okWide Try.prog W .any base 69 v4) (h4 : DataW.Trod enc Try.prog W 0 (fun _ => true) true 69 v4 d4 p4)
    : Calls Try.prog 13 #[v0, v1, v2, v3, v4] W fun e w' => e = .returned (.bool true) ∧ Below W.heap.size W w' := by
  obtain ⟨w, h, a, C, c, rfl, hA, hm, hc⟩ := open_grid k0 h0
  obtain ⟨x1, rfl, rfl, rfl, -⟩ := open_int Try.underlying3 k1 h1
  obtain ⟨x2, rfl, rfl, rfl, -⟩ := open_int Try.underlying3 k2 h2
  obtain ⟨x3, rfl, rfl, rfl, w3⟩ := open_int Try.underlying3 k3 h3
  obtain ⟨fl, fo, ba, rfl⟩ : ∃ fl fo ba, v4 = penV fl fo ba := pen_open k4 h4
  haveI : ∀ H, RdC ⟨W.heap.size, W⟩ H a (qds C) := fun H => RdC.top hA
  exact calls_of_sv (gridPuts_sv _ C w h a _ c x1 x2 x3 fl fo ba rfl (by unfold maxLen at hm; omega) hc (int_bounds w3))

set_option maxRecDepth 100000 in
theorem gridPuts_contract (H : Type) (enc : TypeId × Value → H) (W : World) (base : Nat) (args : Array Value) (ds gs : List (DataW H)) (before : List MemPlace)
    (hval : ∀ (j : Nat) t v, Try.f13.params[j]? = some t → args[j]? = some v → Value.okWide Try.prog W .any base t v)
    (hW : DataW.Whole enc Try.prog Try.f13.params.toList Rows.gridPutsSpec.vars false W args.toList ds gs before) :
    Calls Try.prog 13 args W fun e W' => ∃ v, e = .returned v ∧ Rows.gridPutsSpec.post enc Try.prog Try.f13 false true false false W args v W' := by
  have hW' := hW
  obtain ⟨p, q, hA0, hV, rfl, hfz, hnd⟩ := hW
  have hA : DataW.TrodAll enc Try.prog W 0 (fun _ => true) true Try.f13.params.toList args.toList ds p := hA0
  rw [Try.params13] at hA hval
  obtain ⟨v0, vs0, d0, ds0, p0, q0, hargs, rfl, rfl, h0, r0⟩ := trodAll_cons hA
  obtain ⟨v1, vs1, d1, ds1, p1, q1, rfl, rfl, rfl, h1, r1⟩ := trodAll_cons r0
  obtain ⟨v2, vs2, d2, ds2, p2, q2, rfl, rfl, rfl, h2, r2⟩ := trodAll_cons r1
  obtain ⟨v3, vs3, d3, ds3, p3, q3, rfl, rfl, rfl, h3, r3⟩ := trodAll_cons r2
  obtain ⟨v4, vs4, d4, ds4, p4, q4, rfl, rfl, rfl, h4, r4⟩ := trodAll_cons r3
  obtain ⟨rfl, rfl, rfl⟩ := trodAll_nil r4
  obtain rfl : args = #[v0, v1, v2, v3, v4] := by cases args; simp_all
  obtain ⟨rfl, rfl⟩ := trodVars_none hV
  clear hA0
  have k0 := hval 0 94 v0 rfl rfl
  have k1 := hval 1 3 v1 rfl rfl
  have k2 := hval 2 3 v2 rfl rfl
  have k3 := hval 3 3 v3 rfl rfl
  have k4 := hval 4 69 v4 rfl rfl
  refine (gridPuts_law enc W k0 h0 k1 h1 k2 h2 k3 h3 k4 h4).mono fun e W' ⟨he, hg⟩ => ?_
  subst he
  exact ⟨_, rfl, law_post (s := Rows.gridPutsSpec) laidOut (by kernel_rfl) rfl Try.underlying4 rfl hW' rfl hg⟩

set_option maxRecDepth 100000 in
theorem gridPuts_lifted (os : Os) (started : os.Started) (H : Type) (enc : TypeId × Value → H) :
    ReturnsInHanded {} Try.checked os 13 .any (Rows.gridPutsSpec.pre6 enc Try.prog Try.f13 Rows.gridPutsRow.domain false) (Rows.gridPutsSpec.post enc Try.prog Try.f13 false true false false) := by
  refine returnsInHanded_of_change (C := Try.checked) own started (by kernel_rfl) Try.func13
    (ChangeSpec.witness6 (enc := enc) (C := Try.checked) false ⟨#[], #[.agg #[.int .i64 0, .int .i64 0, .slice none 0 0], .int .i64 0, .int .i64 0, .int .i64 0, .agg #[.int .i64 0, .int .i64 0, .int .i64 0]], []⟩ 12 (by kernel_rfl) (by kernel_rfl) (by kernel_rfl) (by kernel_rfl)) ?_
  intro W base args ds gs before hval hW _ _
  exact gridPuts_contract H enc W base args ds gs before hval hW

theorem gridPuts_holds : Rows.GridPutsSaid :=
  OpenClaim.holds_of_wide 13 Try.f13 rfl rfl rfl rfl rfl rfl rfl ⟨rfl, rfl, rfl, rfl, rfl⟩ rfl rfl rfl rfl rfl (by kernel_rfl) Try.func13 (by kernel_rfl)
    (of_decide_eq_true (by kernel_rfl)) (by unfold Func.isWrapper; first | (rw [if_pos (by decide +kernel)]; kernel_rfl) | (rw [if_neg (by decide +kernel)]; exact ⟨rfl, rfl⟩))
    (fun os started H enc _ => gridPuts_lifted os started H enc)

end Go.Proofs.Ytpgmdjdnmipmbaa
