/- farlaw.GridMoves returns true for every input, and each argument reads as it read. -/
import Derived.Test.YtgcnfcgnkfkpeaaLawGrid
import Derived.Test.YtgcnfcgnkfkpeaaGrid25
namespace Go.Proofs.Ytgcnfcgnkfkpeaa
open Go Go.RowKit Go.Fw Go.Sx Go.ChangeShapes Go.WideShapes Go.ChangeAt
set_option maxRecDepth 100000
set_option maxHeartbeats 2000000
attribute [local irreducible] SW SL SQ AtQ SV SC BB LD PK Yields SO SOT SOA SY

theorem own : ownKnob Try.prog.godebug = none := by kernel_rfl
theorem laidOut : laidOutB Try.prog = true := by kernel_rfl
/-- A grid and a status, the cells held. -/
abbrev GR (G : Ctx) (H : List Ent) (f : Nat) (args : List Value) (w h : Int) (D : List Qd) (e : Int) : Prop := SC Try.prog G f args H fun v H' => ∃ a' c', v = .tuple #[gridV w h a' D.length c', .int .i64 e] ∧ H' = .own 104 4 a' D.length c' (qds D) :: H
theorem sv_nil {G : Ctx} {H : List Ent} {f : Nat} {args : List Value} {v : Value} (e : TypeId) (sz : Nat) {R : Value → List Ent → Prop} (h : SV Try.prog G f args H v) (hi : R v (.own e sz none 0 0 [] :: H)) : SC Try.prog G f args H R := by
  unfold SV SC at h
  unfold SC
  exact ⟨h.1, fun w hw => (h.2 w hw).mono fun r w' ⟨u, H', h1, h2, h3, h4⟩ => by
    subst h3
    subst h4
    exact ⟨_, _, h1, h2.nilrow e sz, hi⟩⟩
theorem gr_e {G : Ctx} {H : List Ent} {f : Nat} {args : List Value} {e : Int} (h : SV Try.prog G f args H (.tuple #[gridZ, .int .i64 e])) : GR G H f args 0 0 [] e := sv_nil 104 4 h ⟨none, 0, rfl, rfl⟩
theorem rowC_len {C : List Qd} {w h k n : Nat} {Q : List Qd} (hn : n = C.length) (hC : C.length = w * h) (hk : k < h) (hQ : Q.length = w) : (rowC C w k (mendQ refWidth Q)).length = n := by
  have hr := row_mul (w := w) (h := h) (k := k) hk hC
  have h1 : (mendQ refWidth Q).length = w := (mendTo_len _ _ _).trans hQ
  unfold rowC
  rw [List.length_append, List.length_append, List.length_take, List.length_drop, h1]
  omega
theorem fill_all (G : Ctx) (C : List Qd) (w h : Int) (a : Option Addr) (n c : Nat) (k f t x y z : Int) [ha : ∀ H, RdC G H a (qds C)] (hn : n = C.length) (hm : n ≤ 9223372036854775807) (hnc : n ≤ c) : ∃ (w1 h1 : Int) (D : List Qd) (e : Int), D.length ≤ 9600 ∧ ∀ H, GR G H 43 [gridV w h a n c, .int .i64 k, .int .i64 f, .int .i64 t, penV x y z] w1 h1 D e ∧ GR G H 44 [gridV w h a n c, .int .i64 k, .int .i64 f, .int .i64 t, penV x y z] w1 h1 D e := by
  have bad : ∀ e, ((gridE w h C ≠ 0 ∧ e = gridE w h C) ∨ (gridE w h C = 0 ∧ ¬ spanP w h k f t ∧ e = 1) ∨ (gridE w h C = 0 ∧ spanP w h k f t ∧ penB x y z = false ∧ e = 4)) → _ := fun e he => (⟨0, 0, [], e, Nat.zero_le _, fun H => ⟨gr_e (fill_e G H C w h a n c k f t x y z e rfl hn hm hnc he), gr_e (gfill_e G H C w h a n c k f t x y z e rfl hn hm hnc he)⟩⟩ : ∃ (w1 h1 : Int) (D : List Qd) (e : Int), D.length ≤ 9600 ∧ ∀ H, GR G H 43 [gridV w h a n c, .int .i64 k, .int .i64 f, .int .i64 t, penV x y z] w1 h1 D e ∧ GR G H 44 [gridV w h a n c, .int .i64 k, .int .i64 f, .int .i64 t, penV x y z] w1 h1 D e)
  by_cases he : gridE w h C = 0
  · by_cases hP : spanP w h k f t
    · cases hp : penB x y z
      · exact bad 4 (.inr (.inr ⟨he, hP, hp, rfl⟩))
      · obtain ⟨⟨w1, w2, h3, h4⟩, hl⟩ := gridE_0 he
        obtain ⟨w, rfl⟩ := Int.eq_ofNat_of_zero_le (show 0 ≤ w by omega)
        obtain ⟨h, rfl⟩ := Int.eq_ofNat_of_zero_le (show 0 ≤ h by omega)
        obtain ⟨k, rfl⟩ := Int.eq_ofNat_of_zero_le (show 0 ≤ k by unfold spanP at hP; omega)
        obtain ⟨f, rfl⟩ := Int.eq_ofNat_of_zero_le (show 0 ≤ f by unfold spanP at hP; omega)
        obtain ⟨t, rfl⟩ := Int.eq_ofNat_of_zero_le (show 0 ≤ t by unfold spanP at hP; omega)
        have hlen : C.length = w * h := by
          have : ((w * h : Nat) : Int) = (w : Int) * (h : Int) := by simp
          omega
        have hWV : w * h ≤ 160 * 60 := Nat.mul_le_mul (by omega) (by omega)
        have hD : (rowC C w k (mendQ refWidth (genL qz (rowQ w C k) f t fun _ => ((32, x, y, z) : Qd)))).length = n := rowC_len hn hlen (by unfold spanP at hP; omega) ((genL_len _ _ _ _ _).trans (rowQ_len (by unfold spanP at hP; omega) hlen))
        refine ⟨w, h, rowC C w k (mendQ refWidth (genL qz (rowQ w C k) f t fun _ => ((32, x, y, z) : Qd))), 0, by omega, fun H => ⟨?_, gfill_ok G H C w h a n c k f t x y z rfl hn hnc he hP hp⟩⟩
        unfold GR
        rw [hD]
        exact fill_ok G H C w h a n c k f t x y z rfl hn hnc he hP hp
    · exact bad 1 (.inr (.inl ⟨he, hP, rfl⟩))
  · exact bad _ (.inl ⟨he, rfl⟩)
theorem shift_all (G : Ctx) (C : List Qd) (w h : Int) (a : Option Addr) (n c : Nat) (k f t s x y z : Int) [ha : ∀ H, RdC G H a (qds C)] (hn : n = C.length) (hm : n ≤ 9223372036854775807) (hnc : n ≤ c) : ∃ (w1 h1 : Int) (D : List Qd) (e : Int), D.length ≤ 9600 ∧ ∀ H, GR G H 45 [gridV w h a n c, .int .i64 k, .int .i64 f, .int .i64 t, .int .i64 s, penV x y z] w1 h1 D e ∧ GR G H 46 [gridV w h a n c, .int .i64 k, .int .i64 f, .int .i64 t, .int .i64 s, penV x y z] w1 h1 D e := by
  have bad : ∀ e, ((gridE w h C ≠ 0 ∧ e = gridE w h C) ∨ (gridE w h C = 0 ∧ ¬ shiftP w h k f t s ∧ e = 1) ∨ (gridE w h C = 0 ∧ shiftP w h k f t s ∧ penB x y z = false ∧ e = 4)) → _ := fun e he => (⟨0, 0, [], e, Nat.zero_le _, fun H => ⟨gr_e (shift_e G H C w h a n c k f t s x y z e rfl hn hm hnc he), gr_e (gshift_e G H C w h a n c k f t s x y z e rfl hn hm hnc he)⟩⟩ : ∃ (w1 h1 : Int) (D : List Qd) (e : Int), D.length ≤ 9600 ∧ ∀ H, GR G H 45 [gridV w h a n c, .int .i64 k, .int .i64 f, .int .i64 t, .int .i64 s, penV x y z] w1 h1 D e ∧ GR G H 46 [gridV w h a n c, .int .i64 k, .int .i64 f, .int .i64 t, .int .i64 s, penV x y z] w1 h1 D e)
  by_cases he : gridE w h C = 0
  · by_cases hP : shiftP w h k f t s
    · cases hp : penB x y z
      · exact bad 4 (.inr (.inr ⟨he, hP, hp, rfl⟩))
      · obtain ⟨⟨w1, w2, h3, h4⟩, hl⟩ := gridE_0 he
        obtain ⟨w, rfl⟩ := Int.eq_ofNat_of_zero_le (show 0 ≤ w by omega)
        obtain ⟨h, rfl⟩ := Int.eq_ofNat_of_zero_le (show 0 ≤ h by omega)
        obtain ⟨k, rfl⟩ := Int.eq_ofNat_of_zero_le (show 0 ≤ k by unfold shiftP spanP at hP; omega)
        obtain ⟨f, rfl⟩ := Int.eq_ofNat_of_zero_le (show 0 ≤ f by unfold shiftP spanP at hP; omega)
        obtain ⟨t, rfl⟩ := Int.eq_ofNat_of_zero_le (show 0 ≤ t by unfold shiftP spanP at hP; omega)
        have hlen : C.length = w * h := by
          have : ((w * h : Nat) : Int) = (w : Int) * (h : Int) := by simp
          omega
        have hWV : w * h ≤ 160 * 60 := Nat.mul_le_mul (by omega) (by omega)
        have hD : (rowC C w k (mendQ refWidth (genL qz (rowQ w C k) f t (shG qz (rowQ w C k) f t s ((32, x, y, z) : Qd))))).length = n := rowC_len hn hlen (by unfold shiftP spanP at hP; omega) ((genL_len _ _ _ _ _).trans (rowQ_len (by unfold shiftP spanP at hP; omega) hlen))
        refine ⟨w, h, rowC C w k (mendQ refWidth (genL qz (rowQ w C k) f t (shG qz (rowQ w C k) f t s ((32, x, y, z) : Qd)))), 0, by omega, fun H => ⟨?_, gshift_ok G H C w h a n c k f t s x y z rfl hn hnc he hP hp⟩⟩
        unfold GR
        rw [hD]
        exact shift_ok G H C w h a n c k f t s x y z rfl hn hnc he hP hp
    · exact bad 1 (.inr (.inl ⟨he, hP, rfl⟩))
  · exact bad _ (.inl ⟨he, rfl⟩)
theorem scroll_all (G : Ctx) (C : List Qd) (w h : Int) (a : Option Addr) (n c : Nat) (f t s x y z : Int) [ha : ∀ H, RdC G H a (qds C)] (hn : n = C.length) (hm : n ≤ 9223372036854775807) (hnc : n ≤ c) : ∃ (w1 h1 : Int) (D : List Qd) (e : Int), D.length ≤ 9600 ∧ ∀ H, GR G H 47 [gridV w h a n c, .int .i64 f, .int .i64 t, .int .i64 s, penV x y z] w1 h1 D e ∧ GR G H 48 [gridV w h a n c, .int .i64 f, .int .i64 t, .int .i64 s, penV x y z] w1 h1 D e := by
  have bad : ∀ e, ((gridE w h C ≠ 0 ∧ e = gridE w h C) ∨ (gridE w h C = 0 ∧ ¬ scrollP h f t s ∧ e = 1) ∨ (gridE w h C = 0 ∧ scrollP h f t s ∧ penB x y z = false ∧ e = 4)) → _ := fun e he => (⟨0, 0, [], e, Nat.zero_le _, fun H => ⟨gr_e (scroll_e G H C w h a n c f t s x y z e rfl hn hm hnc he), gr_e (gscroll_e G H C w h a n c f t s x y z e rfl hn hm hnc he)⟩⟩ : ∃ (w1 h1 : Int) (D : List Qd) (e : Int), D.length ≤ 9600 ∧ ∀ H, GR G H 47 [gridV w h a n c, .int .i64 f, .int .i64 t, .int .i64 s, penV x y z] w1 h1 D e ∧ GR G H 48 [gridV w h a n c, .int .i64 f, .int .i64 t, .int .i64 s, penV x y z] w1 h1 D e)
  by_cases he : gridE w h C = 0
  · by_cases hP : scrollP h f t s
    · cases hp : penB x y z
      · exact bad 4 (.inr (.inr ⟨he, hP, hp, rfl⟩))
      · obtain ⟨⟨w1, w2, h3, h4⟩, hl⟩ := gridE_0 he
        obtain ⟨w, rfl⟩ := Int.eq_ofNat_of_zero_le (show 0 ≤ w by omega)
        obtain ⟨h, rfl⟩ := Int.eq_ofNat_of_zero_le (show 0 ≤ h by omega)
        obtain ⟨f, rfl⟩ := Int.eq_ofNat_of_zero_le (show 0 ≤ f by unfold scrollP at hP; omega)
        obtain ⟨t, rfl⟩ := Int.eq_ofNat_of_zero_le (show 0 ≤ t by unfold scrollP at hP; omega)
        have hlen : C.length = w * h := by
          have : ((w * h : Nat) : Int) = (w : Int) * (h : Int) := by simp
          omega
        have hWV : w * h ≤ 160 * 60 := Nat.mul_le_mul (by omega) (by omega)
        have hD : (scrC C w h f t s (32, x, y, z)).length = n := (scrC_len hlen (by unfold scrollP at hP; omega)).trans hn.symm
        refine ⟨w, h, scrC C w h f t s (32, x, y, z), 0, by omega, fun H => ⟨?_, gscroll_ok G H C w h a n c f t s x y z rfl hn hnc he hP hp⟩⟩
        unfold GR
        rw [hD]
        exact scroll_ok G H C w h a n c f t s x y z rfl hn hnc he hP hp
    · exact bad 1 (.inr (.inl ⟨he, hP, rfl⟩))
  · exact bad _ (.inl ⟨he, rfl⟩)
theorem gridMoves_sv (G : Ctx) (C : List Qd) (w h : Int) (a : Option Addr) (n c : Nat) (k f t s x y z : Int) [ha : ∀ H, RdC G H a (qds C)] (hn : n = C.length) (hm : n ≤ 9223372036854775807) (hnc : n ≤ c) : SV Try.prog G 9 [gridV w h a n c, .int .i64 k, .int .i64 f, .int .i64 t, .int .i64 s, penV x y z] [] (.bool true) := by
  obtain ⟨u1, v1, D1, e1, hD1, c1⟩ := fill_all G C w h a n c k f t x y z hn hm hnc
  obtain ⟨u2, v2, D2, e2, hD2, c2⟩ := shift_all G C w h a n c k f t s x y z hn hm hnc
  obtain ⟨u3, v3, D3, e3, hD3, c3⟩ := scroll_all G C w h a n c f t s x y z hn hm hnc
  have c11 := fun H => (c1 H).1
  have c12 := fun H => (c1 H).2
  have c21 := fun H => (c2 H).1
  have c22 := fun H => (c2 H).2
  have c31 := fun H => (c3 H).1
  have c32 := fun H => (c3 H).2
  have cG1 := fun (H : List Ent) (a1 a2 : Option Addr) (d1 d2 : Nat) {vs us : List Value} [RdC G H a1 vs] [RdC G H a2 us] (hv : vs = qds D1) (hu : us = qds D1) => sameGrid_sv G H D1 D1 u1 v1 u1 v1 a1 a2 D1.length D1.length d1 d2 hv hu rfl rfl (by omega) (by omega) rfl rfl rfl
  have cG2 := fun (H : List Ent) (a1 a2 : Option Addr) (d1 d2 : Nat) {vs us : List Value} [RdC G H a1 vs] [RdC G H a2 us] (hv : vs = qds D2) (hu : us = qds D2) => sameGrid_sv G H D2 D2 u2 v2 u2 v2 a1 a2 D2.length D2.length d1 d2 hv hu rfl rfl (by omega) (by omega) rfl rfl rfl
  have cG3 := fun (H : List Ent) (a1 a2 : Option Addr) (d1 d2 : Nat) {vs us : List Value} [RdC G H a1 vs] [RdC G H a2 us] (hv : vs = qds D3) (hu : us = qds D3) => sameGrid_sv G H D3 D3 u3 v3 u3 v3 a1 a2 D3.length D3.length d1 d2 hv hu rfl rfl (by omega) (by omega) rfl rfl rfl
  clear c1 c2 c3 hn hm hnc
  refine sv_enter6 Try.func9 rfl rfl rfl rfl rfl ?_
  repeat' (first | (apply g_sl; first | (apply ks_nil; refine sl_nil ?_) | (apply ks_move; refine s_move rfl rfl ?_) | (apply ks_bin; refine s_bin rfl rfl rfl ?_; first | fail | (first | refine bb_of rfl ?_)) | (apply ks_load; first | (refine s_load rfl rfl ?_; first | refine ld_cell rfl ?_ | refine ld_whole rfl ?_ | refine ld_elem rfl ?_ | refine ld_part rfl rfl ?_) | fail) | (apply ks_asgn; refine s_asgn rfl rfl ?_) | (apply ks_pick; refine s_pick rfl rfl ?_; first | (apply kp_t; refine pk_t rfl ?_) | (apply kp_f; refine pk_f rfl ?_) | refine pk_s rfl rfl ?_) | (apply ks_extr; refine s_extr (y_extract rfl rfl rfl) rfl ?_) | (apply ks_fn; first | first | (refine c_call rfl rfl rfl (c11 _) rfl rfl ?_; rintro _ _ ⟨a11, d11, rfl, rfl⟩) | (refine c_call rfl rfl rfl (c12 _) rfl rfl ?_; rintro _ _ ⟨a12, d12, rfl, rfl⟩) | (refine c_call rfl rfl rfl (c21 _) rfl rfl ?_; rintro _ _ ⟨a21, d21, rfl, rfl⟩) | (refine c_call rfl rfl rfl (c22 _) rfl rfl ?_; rintro _ _ ⟨a22, d22, rfl, rfl⟩) | (refine c_call rfl rfl rfl (c31 _) rfl rfl ?_; rintro _ _ ⟨a31, d31, rfl, rfl⟩) | (refine c_call rfl rfl rfl (c32 _) rfl rfl ?_; rintro _ _ ⟨a32, d32, rfl, rfl⟩) | refine c_callv rfl rfl rfl (cG1 _ _ _ _ _ rfl rfl) rfl rfl ?_ | refine c_callv rfl rfl rfl (cG2 _ _ _ _ _ rfl rfl) rfl rfl ?_ | refine c_callv rfl rfl rfl (cG3 _ _ _ _ _ rfl rfl) rfl rfl ?_) | (apply ks_store; first | first | refine c_store rfl rfl rfl rfl rfl rfl rfl ?_ | refine c_storew rfl rfl rfl rfl rfl rfl rfl rfl ?_ | refine c_storee rfl rfl rfl rfl rfl (by omega) rfl ?_ | fail) | (apply ks_box; refine c_box rfl rfl rfl rfl rfl rfl (fun _ => ?_)) | (apply ks_alloc; refine c_alloc rfl rfl rfl rfl (fun _ => ?_)) | (apply ks_guard; first | (refine sl_gd rfl rfl rfl rfl ?_; first | (apply gd_t) | (apply gd_ft) | (apply gd_tf) | (apply gd_dec_t <;> intro hq <;> (try (exfalso; omega))) | (apply gd_dec_f <;> intro hq <;> (try (exfalso; omega))) | (apply gd_beq_t <;> intro hq <;> (try (exfalso; omega))) | (apply gd_beq_f <;> intro hq <;> (try (exfalso; omega))) | (apply gd_bne_t <;> intro hq <;> (try (exfalso; omega))) | (apply gd_bne_f <;> intro hq <;> (try (exfalso; omega))) | (apply gd_not_t <;> intro hq) | (apply gd_not_f <;> intro hq) | (apply gd_raw_t <;> intro hq) | (apply gd_raw_f <;> intro hq)) | refine sl_skip_u rfl rfl rfl rfl rfl rfl ?_) | fail) | (apply sw_seq) | (apply at_srd) | (apply sw_skip) | (apply sw_ret) | (apply sw_exit) | (apply sw_block) | (apply sw_region) | (refine sw_cd rfl ?_; first | (apply gd_t) | (apply gd_ft) | (apply gd_tf) | (apply gd_dec_t <;> intro hq <;> (try (exfalso; omega))) | (apply gd_dec_f <;> intro hq <;> (try (exfalso; omega))) | (apply gd_beq_t <;> intro hq <;> (try (exfalso; omega))) | (apply gd_beq_f <;> intro hq <;> (try (exfalso; omega))) | (apply gd_bne_t <;> intro hq <;> (try (exfalso; omega))) | (apply gd_bne_f <;> intro hq <;> (try (exfalso; omega))) | (apply gd_not_t <;> intro hq) | (apply gd_not_f <;> intro hq) | (apply gd_raw_t <;> intro hq) | (apply gd_raw_f <;> intro hq)) | (apply at_thn) | (apply at_thn_ret) | (apply at_thn_exit) | (apply at_inb) | (apply at_inb_ret) | (apply at_inb_exit) | refine at_inb_pass rfl ?_ | refine c_drawn (by kernel_rfl) ?_)
  all_goals first | exact absurd rfl (by assumption) | (refine e_sv (by first | exact .inl rfl | exact .inr rfl) rfl (by repeat (first | exact List.Sublist.refl _ | exact List.nil_sublist _ | refine List.Sublist.cons _ ?_)) ?_; simp [resV])
theorem pen_open {H : Type} {enc : TypeId × Value → H} {W : World} {base : Nat} {v : Value} {d : DataW H} {p : List MemPlace} (k : Value.okWide Try.prog W .any base 37 v) (h : DataW.Trod enc Try.prog W 0 (fun _ => true) true 37 v d p) : ∃ fl fo ba, v = penV fl fo ba := by
  obtain ⟨zs, hz, rfl, -⟩ := open_struct_flat (k := .i64) Try.underlying37 (by kernel_rfl) (fun i f hf => by
    match i, hf with
    | 0, hf | 1, hf | 2, hf => cases hf; exact ⟨rfl, Try.underlying3, by kernel_rfl⟩
    | i + 3, hf => simp at hf) k h
  match zs, hz with
  | [a, b, c], _ => exact ⟨a, b, c, rfl⟩
theorem gridMoves_law {H : Type} (enc : TypeId × Value → H) (W : World) {base : Nat} {v0 v1 v2 v3 v4 v5 : Value} {d0 d1 d2 d3 d4 d5 : DataW H} {p0 p1 p2 p3 p4 p5 : List MemPlace}
    (k0 : Value.okWide Try.prog W .any base 35 v0) (h0 : DataW.Trod enc Try.prog W 0 (fun _ => true) true 35 v0 d0 p0)
    (k1 : Value.okWide Try.prog W .any base 3 v1) (h1 : DataW.Trod enc Try.prog W 0 (fun _ => true) true 3 v1 d1 p1)
    (k2 : Value.okWide Try.prog W .any base 3 v2) (h2 : DataW.Trod enc Try.prog W 0 (fun _ => true) true 3 v2 d2 p2)
    (k3 : Value.okWide Try.prog W .any base 3 v3) (h3 : DataW.Trod enc Try.prog W 0 (fun _ => true) true 3 v3 d3 p3)
    (k4 : Value.okWide Try.prog W .any base 3 v4) (h4 : DataW.Trod enc Try.prog W 0 (fun _ => true) true 3 v4 d4 p4)
    (k5 : Value.okWide Try.prog W .any base 37 v5) (h5 : DataW.Trod enc Try.prog W 0 (fun _ => true) true 37 v5 d5 p5)
    : Calls Try.prog 9 #[v0, v1, v2, v3, v4, v5] W fun e w' => e = .returned (.bool true) ∧ Below W.heap.size W w' := by
  obtain ⟨w, h, a, C, c, rfl, hA, hm, hc⟩ := open_grid k0 h0
  obtain ⟨x1, rfl, rfl, rfl, -⟩ := open_int Try.underlying3 k1 h1
  obtain ⟨x2, rfl, rfl, rfl, -⟩ := open_int Try.underlying3 k2 h2
  obtain ⟨x3, rfl, rfl, rfl, -⟩ := open_int Try.underlying3 k3 h3
  obtain ⟨x4, rfl, rfl, rfl, -⟩ := open_int Try.underlying3 k4 h4
  obtain ⟨fl, fo, ba, rfl⟩ : ∃ fl fo ba, v5 = penV fl fo ba := pen_open k5 h5
  haveI : ∀ H, RdC ⟨W.heap.size, W⟩ H a (qds C) := fun H => RdC.top hA
  exact calls_of_sv (gridMoves_sv _ C w h a _ c x1 x2 x3 x4 fl fo ba rfl (by unfold maxLen at hm; omega) hc)

set_option maxRecDepth 100000 in
theorem gridMoves_contract (H : Type) (enc : TypeId × Value → H) (W : World) (base : Nat) (args : Array Value) (ds gs : List (DataW H)) (before : List MemPlace)
    (hval : ∀ (j : Nat) t v, Try.f9.params[j]? = some t → args[j]? = some v → Value.okWide Try.prog W .any base t v)
    (hW : DataW.Whole enc Try.prog Try.f9.params.toList Rows.gridMovesSpec.vars false W args.toList ds gs before) :
    Calls Try.prog 9 args W fun e W' => ∃ v, e = .returned v ∧ Rows.gridMovesSpec.post enc Try.prog Try.f9 false true false false W args v W' := by
  have hW' := hW
  obtain ⟨p, q, hA0, hV, rfl, hfz, hnd⟩ := hW
  have hA : DataW.TrodAll enc Try.prog W 0 (fun _ => true) true Try.f9.params.toList args.toList ds p := hA0
  rw [Try.params9] at hA hval
  obtain ⟨v0, vs0, d0, ds0, p0, q0, hargs, rfl, rfl, h0, r0⟩ := trodAll_cons hA
  obtain ⟨v1, vs1, d1, ds1, p1, q1, rfl, rfl, rfl, h1, r1⟩ := trodAll_cons r0
  obtain ⟨v2, vs2, d2, ds2, p2, q2, rfl, rfl, rfl, h2, r2⟩ := trodAll_cons r1
  obtain ⟨v3, vs3, d3, ds3, p3, q3, rfl, rfl, rfl, h3, r3⟩ := trodAll_cons r2
  obtain ⟨v4, vs4, d4, ds4, p4, q4, rfl, rfl, rfl, h4, r4⟩ := trodAll_cons r3
  obtain ⟨v5, vs5, d5, ds5, p5, q5, rfl, rfl, rfl, h5, r5⟩ := trodAll_cons r4
  obtain ⟨rfl, rfl, rfl⟩ := trodAll_nil r5
  obtain rfl : args = #[v0, v1, v2, v3, v4, v5] := by cases args; simp_all
  obtain ⟨rfl, rfl⟩ := trodVars_none hV
  clear hA0
  have k0 := hval 0 35 v0 rfl rfl
  have k1 := hval 1 3 v1 rfl rfl
  have k2 := hval 2 3 v2 rfl rfl
  have k3 := hval 3 3 v3 rfl rfl
  have k4 := hval 4 3 v4 rfl rfl
  have k5 := hval 5 37 v5 rfl rfl
  refine (gridMoves_law enc W k0 h0 k1 h1 k2 h2 k3 h3 k4 h4 k5 h5).mono fun e W' ⟨he, hg⟩ => ?_
  subst he
  exact ⟨_, rfl, law_post (s := Rows.gridMovesSpec) laidOut (by kernel_rfl) rfl Try.underlying4 rfl hW' rfl hg⟩

set_option maxRecDepth 100000 in
theorem gridMoves_lifted (os : Os) (started : os.Started) (H : Type) (enc : TypeId × Value → H) :
    ReturnsInHanded {} Try.checked os 9 .any (Rows.gridMovesSpec.pre6 enc Try.prog Try.f9 Rows.gridMovesRow.domain false) (Rows.gridMovesSpec.post enc Try.prog Try.f9 false true false false) := by
  refine returnsInHanded_of_change (C := Try.checked) own started (by kernel_rfl) Try.func9
    (ChangeSpec.witness6 (enc := enc) (C := Try.checked) false ⟨#[], #[.agg #[.int .i64 0, .int .i64 0, .slice none 0 0], .int .i64 0, .int .i64 0, .int .i64 0, .int .i64 0, .agg #[.int .i64 0, .int .i64 0, .int .i64 0]], []⟩ 12 (by kernel_rfl) (by kernel_rfl) (by kernel_rfl) (by kernel_rfl)) ?_
  intro W base args ds gs before hval hW _ _
  exact gridMoves_contract H enc W base args ds gs before hval hW

theorem gridMoves_holds : Rows.GridMovesSaid :=
  OpenClaim.holds_of_wide 9 Try.f9 rfl rfl rfl rfl rfl rfl rfl ⟨rfl, rfl, rfl, rfl, rfl⟩ rfl rfl rfl rfl rfl (by kernel_rfl) Try.func9 (by kernel_rfl)
    (of_decide_eq_true (by kernel_rfl)) (by unfold Func.isWrapper; first | (rw [if_pos (by decide +kernel)]; kernel_rfl) | (rw [if_neg (by decide +kernel)]; exact ⟨rfl, rfl⟩))
    (fun os started H enc _ => gridMoves_lifted os started H enc)

end Go.Proofs.Ytgcnfcgnkfkpeaa
