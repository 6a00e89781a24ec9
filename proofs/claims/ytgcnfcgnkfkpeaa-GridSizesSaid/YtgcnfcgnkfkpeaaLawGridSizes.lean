/- farlaw.GridSizes returns true for every input, and each argument reads as it read. -/
import Derived.Test.YtgcnfcgnkfkpeaaLawGrid
import Derived.Test.YtgcnfcgnkfkpeaaGrid16
import Derived.Test.YtgcnfcgnkfkpeaaEqF
namespace Go.Proofs.Ytgcnfcgnkfkpeaa
open Go Go.RowKit Go.Fw Go.Sx Go.ChangeShapes Go.WideShapes Go.ChangeAt
set_option maxRecDepth 100000
set_option maxHeartbeats 2000000
attribute [local irreducible] SW SL SQ AtQ SV SC BB LD PK Yields SO SOT SOA SY

theorem own : ownKnob Try.prog.godebug = none := by kernel_rfl
theorem laidOut : laidOutB Try.prog = true := by kernel_rfl
/-- A grid and a status, the cells held. -/
abbrev GR (G : Ctx) (H : List Ent) (f : Nat) (args : List Value) (w h : Int) (D : List Qd) (e : Int) : Prop := SC Try.prog G f args H fun v H' => ∃ a' c', v = .tuple #[gridV w h a' D.length c', .int .i64 e] ∧ H' = .own 104 4 a' D.length c' (qds D) :: H
theorem sv_nil {G : Ctx} {H : List Ent} {f : Nat} {args : List Value} {v : Value} (e : TypeId) (sz : Nat) {R : Value → List Ent → Prop} (h : SV Try.prog G f args H v) (hi : R v (.own e sz none 0 0 [] :: H)) : SC Try.prog G f args H R := by
  unfold SV SC at h
  unfold SC
  exact ⟨h.1, fun w hw => (h.2 w hw).mono fun r w' ⟨u, H', h1, h2, h3, h4⟩ => by
    subst h3
    subst h4
    exact ⟨_, _, h1, h2.nilrow e sz, hi⟩⟩
theorem gr_e {G : Ctx} {H : List Ent} {f : Nat} {args : List Value} {e : Int} (h : SV Try.prog G f args H (.tuple #[gridZ, .int .i64 e])) : GR G H f args 0 0 [] e := sv_nil 104 4 h ⟨none, 0, rfl, rfl⟩
theorem size_all (G : Ctx) (C : List Qd) (w h : Int) (a : Option Addr) (n c : Nat) (W V x y z : Int) [ha : ∀ H, RdC G H a (qds C)] (hn : n = C.length) (hm : n ≤ 9223372036854775807) (hnc : n ≤ c) : ∃ (w1 h1 : Int) (D : List Qd) (e : Int), D.length ≤ 9600 ∧ ∀ H, GR G H 17 [gridV w h a n c, .int .i64 W, .int .i64 V, penV x y z] w1 h1 D e ∧ GR G H 18 [gridV w h a n c, .int .i64 W, .int .i64 V, penV x y z] w1 h1 D e := by
  have bad : ∀ e, ((gridE w h C ≠ 0 ∧ e = gridE w h C) ∨ (gridE w h C = 0 ∧ sizeE W V = 1 ∧ e = 1) ∨ (gridE w h C = 0 ∧ sizeE W V = 0 ∧ penB x y z = false ∧ e = 4)) → _ := fun e he => (⟨0, 0, [], e, Nat.zero_le _, fun H => ⟨gr_e (size_e G H C w h a n c W V x y z e rfl hn hm hnc he), gr_e (rsize_e G H C w h a n c W V x y z e rfl hn hm hnc he)⟩⟩ : ∃ (w1 h1 : Int) (D : List Qd) (e : Int), D.length ≤ 9600 ∧ ∀ H, GR G H 17 [gridV w h a n c, .int .i64 W, .int .i64 V, penV x y z] w1 h1 D e ∧ GR G H 18 [gridV w h a n c, .int .i64 W, .int .i64 V, penV x y z] w1 h1 D e)
  by_cases he : gridE w h C = 0
  · rcases sizeE_01 W V with ⟨hs, hb⟩ | ⟨hs, -⟩
    · cases hp : penB x y z
      · exact bad 4 (.inr (.inr ⟨he, hs, hp, rfl⟩))
      · obtain ⟨⟨w1, w2, h3, h4⟩, hl⟩ := gridE_0 he
        obtain ⟨w, rfl⟩ := Int.eq_ofNat_of_zero_le (show 0 ≤ w by omega)
        obtain ⟨h, rfl⟩ := Int.eq_ofNat_of_zero_le (show 0 ≤ h by omega)
        obtain ⟨W, rfl⟩ := Int.eq_ofNat_of_zero_le (show 0 ≤ W by omega)
        obtain ⟨V, rfl⟩ := Int.eq_ofNat_of_zero_le (show 0 ≤ V by omega)
        have hlen : C.length = w * h := by
          have : ((w * h : Nat) : Int) = (w : Int) * (h : Int) := by simp
          omega
        have hWV : W * V ≤ 160 * 60 := Nat.mul_le_mul (by omega) (by omega)
        have hD := sizC_len (w := w) (h := h) (W := W) (H := V) (B := (32, x, y, z)) hlen
        refine ⟨W, V, sizC C w h W V (32, x, y, z), 0, by omega, fun H => ?_⟩
        unfold GR
        rw [hD]
        exact ⟨size_ok G H C w h a n c W V x y z rfl hn hnc he (by omega) hp, rsize_ok G H C w h a n c W V x y z rfl hn hnc he (by omega) hp⟩
    · exact bad 1 (.inr (.inl ⟨he, hs, rfl⟩))
  · exact bad _ (.inl ⟨he, rfl⟩)
/-- Numbers and a status, the numbers held. -/
abbrev TR (G : Ctx) (H : List Ent) (f : Nat) (args : List Value) (D : List Int) (e : Int) : Prop := SC Try.prog G f args H fun v H' => ∃ a' c', v = .tuple #[.slice a' D.length c', .int .i64 e] ∧ H' = .own 3 1 a' D.length c' (ints D) :: H
theorem tr_e {G : Ctx} {H : List Ent} {f : Nat} {args : List Value} {e : Int} (h : SV Try.prog G f args H (.tuple #[.slice none 0 0, .int .i64 e])) : TR G H f args [] e := sv_nil 3 1 h ⟨none, 0, rfl, rfl⟩
theorem text_all (G : Ctx) (C : List Qd) (w h : Int) (a : Option Addr) (n c : Nat) (k : Int) [ha : ∀ H, RdC G H a (qds C)] (hn : n = C.length) (hm : n ≤ 9223372036854775807) (hnc : n ≤ c) : ∃ (D : List Int) (e : Int), D.length ≤ 160 ∧ ∀ H, TR G H 19 [gridV w h a n c, .int .i64 k] D e ∧ TR G H 20 [gridV w h a n c, .int .i64 k] D e := by
  have bad : ∀ e, ((gridE w h C ≠ 0 ∧ e = gridE w h C) ∨ (gridE w h C = 0 ∧ ¬ (0 ≤ k ∧ k < h) ∧ e = 1)) → _ := fun e he => (⟨[], e, Nat.zero_le _, fun H => ⟨tr_e (text_e G H C w h a n c k e rfl hn hm hnc he), tr_e (gtext_e G H C w h a n c k e rfl hn hm hnc he)⟩⟩ : ∃ (D : List Int) (e : Int), D.length ≤ 160 ∧ ∀ H, TR G H 19 [gridV w h a n c, .int .i64 k] D e ∧ TR G H 20 [gridV w h a n c, .int .i64 k] D e)
  by_cases he : gridE w h C = 0
  · by_cases hk : 0 ≤ k ∧ k < h
    · obtain ⟨⟨w1, w2, h3, h4⟩, hl⟩ := gridE_0 he
      obtain ⟨w, rfl⟩ := Int.eq_ofNat_of_zero_le (show 0 ≤ w by omega)
      obtain ⟨h, rfl⟩ := Int.eq_ofNat_of_zero_le (show 0 ≤ h by omega)
      obtain ⟨k, rfl⟩ := Int.eq_ofNat_of_zero_le hk.1
      have hlen : C.length = w * h := by
        have : ((w * h : Nat) : Int) = (w : Int) * (h : Int) := by simp
        omega
      have h9 := textQ_len (rowQ w C k)
      rw [rowQ_len (show k < h by omega) hlen] at h9
      exact ⟨textQ (rowQ w C k), 0, by omega, fun H => ⟨text_ok G H C w h a n c k rfl hn hnc he (by omega), gtext_ok G H C w h a n c k rfl hn hnc he (by omega)⟩⟩
    · exact bad 1 (.inr ⟨he, hk, rfl⟩)
  · exact bad _ (.inl ⟨he, rfl⟩)
theorem gridSizes_sv (G : Ctx) (C : List Qd) (w h : Int) (a : Option Addr) (n c : Nat) (W V k x y z : Int) [ha : ∀ H, RdC G H a (qds C)] (hn : n = C.length) (hm : n ≤ 9223372036854775807) (hnc : n ≤ c) : SV Try.prog G 4 [gridV w h a n c, .int .i64 W, .int .i64 V, .int .i64 k, penV x y z] [] (.bool true) := by
  obtain ⟨w1, h1, D, e1, hD, c1⟩ := size_all G C w h a n c W V x y z hn hm hnc
  obtain ⟨T, e2, hT, c2⟩ := text_all G C w h a n c k hn hm hnc
  have c11 := fun H => (c1 H).1
  have c12 := fun H => (c1 H).2
  have c21 := fun H => (c2 H).1
  have c22 := fun H => (c2 H).2
  have cS := fun H => sizeRight_sv G H W V
  have cP := fun H => penRight_sv G H x y z
  have cG := fun (H : List Ent) (a1 a2 : Option Addr) (d1 d2 : Nat) {vs us : List Value} [RdC G H a1 vs] [RdC G H a2 us] (hv : vs = qds D) (hu : us = qds D) => sameGrid_sv G H D D w1 h1 w1 h1 a1 a2 D.length D.length d1 d2 hv hu rfl rfl (by omega) (by omega) rfl rfl rfl
  haveI : ∀ H, RdC G H none (qds []) := fun H => ⟨fun w _ => At.nil w none⟩
  have c5 := fun H => sameGrid_sv G H [] [] 0 0 0 0 none none 0 0 0 0 rfl rfl rfl rfl (by decide) (by decide) rfl rfl rfl
  have cE := fun (H : List Ent) (a1 a2 : Option Addr) (d1 d2 : Nat) (m1 : Ent.own 3 1 a1 T.length d1 (ints T) ∈ H) (m2 : Ent.own 3 1 a2 T.length d2 (ints T) ∈ H) => eqI_sv G H (a1, d1, T) (a2, d2, T) (Sl.own m1 rfl rfl) (Sl.own m2 rfl rfl) rfl
  clear c1 c2 hn hm hnc
  rcases sizeE_01 W V with ⟨hs, hb⟩ | ⟨hs, -⟩
  · rw [hs, decide_eq_true rfl] at cS
    cases hp : penB x y z
    · have c3 := fun H => new_e G H W V x y z 4 (.inr ⟨hs, hp, rfl⟩)
      rw [hp] at cP
      refine sv_enter5 Try.func4 rfl rfl rfl rfl rfl ?_
      repeat' (first | (apply g_sl; first | (apply ks_nil; refine sl_nil ?_) | (apply ks_move; refine s_move rfl rfl ?_) | (apply ks_bin; refine s_bin rfl rfl rfl ?_; first | fail | (first | (apply kb_mul; first | refine bb_mul ⟨by omega, by omega⟩ ?_ | refine bb_of rfl ?_) | refine bb_of rfl ?_)) | (apply ks_load; first | (refine s_load rfl rfl ?_; first | refine ld_cell rfl ?_ | refine ld_whole rfl ?_ | refine ld_elem rfl ?_ | refine ld_part rfl rfl ?_) | fail) | (apply ks_asgn; refine s_asgn rfl rfl ?_) | (apply ks_pick; refine s_pick rfl rfl ?_; first | (apply kp_t; refine pk_t rfl ?_) | (apply kp_f; refine pk_f rfl ?_) | refine pk_s rfl rfl ?_) | (apply ks_extr; refine s_extr (y_extract rfl rfl rfl) rfl ?_) | (apply ks_build; first | refine s_build (c_build rfl rfl rfl) rfl ?_ | fail) | (apply ks_fn; first | first | (refine c_call rfl rfl rfl (c11 _) rfl rfl ?_; rintro _ _ ⟨a1, d1, rfl, rfl⟩) | (refine c_call rfl rfl rfl (c12 _) rfl rfl ?_; rintro _ _ ⟨a2, d2, rfl, rfl⟩) | (refine c_call rfl rfl rfl (c21 _) rfl rfl ?_; rintro _ _ ⟨a3, d3, rfl, rfl⟩) | (refine c_call rfl rfl rfl (c22 _) rfl rfl ?_; rintro _ _ ⟨a4, d4, rfl, rfl⟩) | refine c_callv rfl rfl rfl (cS _) rfl rfl ?_ | refine c_callv rfl rfl rfl (cP _) rfl rfl ?_ | refine c_callv rfl rfl rfl (cG _ _ _ _ _ rfl rfl) rfl rfl ?_ | refine c_callv rfl rfl rfl (cE _ _ _ _ _ (by repeat (first | exact List.mem_cons_self | apply List.mem_cons_of_mem)) (by repeat (first | exact List.mem_cons_self | apply List.mem_cons_of_mem))) rfl rfl ?_ | refine c_callv rfl rfl rfl (c5 _) rfl rfl ?_ | refine c_callv rfl rfl rfl (c3 _) rfl rfl ?_) | (apply ks_store; first | first | refine c_store rfl rfl rfl rfl rfl rfl rfl ?_ | refine c_storew rfl rfl rfl rfl rfl rfl rfl rfl ?_ | refine c_storee rfl rfl rfl rfl rfl (by omega) rfl ?_ | fail) | (apply ks_box; refine c_box rfl rfl rfl rfl rfl rfl (fun _ => ?_)) | (apply ks_alloc; refine c_alloc rfl rfl rfl rfl (fun _ => ?_)) | (apply ks_guard; first | (refine sl_gd rfl rfl rfl rfl ?_; first | (apply gd_t) | (apply gd_ft) | (apply gd_tf) | (apply gd_dec_t <;> intro hq <;> (try (exfalso; omega))) | (apply gd_dec_f <;> intro hq <;> (try (exfalso; omega))) | (apply gd_beq_t <;> intro hq <;> (try (exfalso; omega))) | (apply gd_beq_f <;> intro hq <;> (try (exfalso; omega))) | (apply gd_bne_t <;> intro hq <;> (try (exfalso; omega))) | (apply gd_bne_f <;> intro hq <;> (try (exfalso; omega))) | (apply gd_not_t <;> intro hq) | (apply gd_not_f <;> intro hq) | (apply gd_raw_t <;> intro hq) | (apply gd_raw_f <;> intro hq)) | refine sl_skip_u rfl rfl rfl rfl rfl rfl ?_) | fail) | (apply sw_seq) | (apply at_srd) | (apply sw_skip) | (apply sw_ret) | (apply sw_exit) | (apply sw_block) | (apply sw_region) | (refine sw_cd rfl ?_; first | (apply gd_t) | (apply gd_ft) | (apply gd_tf) | (apply gd_dec_t <;> intro hq <;> (try (exfalso; omega))) | (apply gd_dec_f <;> intro hq <;> (try (exfalso; omega))) | (apply gd_beq_t <;> intro hq <;> (try (exfalso; omega))) | (apply gd_beq_f <;> intro hq <;> (try (exfalso; omega))) | (apply gd_bne_t <;> intro hq <;> (try (exfalso; omega))) | (apply gd_bne_f <;> intro hq <;> (try (exfalso; omega))) | (apply gd_not_t <;> intro hq) | (apply gd_not_f <;> intro hq) | (apply gd_raw_t <;> intro hq) | (apply gd_raw_f <;> intro hq)) | (apply at_thn) | (apply at_thn_ret) | (apply at_thn_exit) | (apply at_inb) | (apply at_inb_ret) | (apply at_inb_exit) | refine at_inb_pass rfl ?_ | refine c_drawn (by kernel_rfl) ?_)
      all_goals first | exact absurd rfl (by assumption) | (refine e_sv (by first | exact .inl rfl | exact .inr rfl) rfl (by repeat (first | exact List.Sublist.refl _ | exact List.nil_sublist _ | refine List.Sublist.cons _ ?_)) ?_; simp [resV])
    · rw [hp] at cP
      obtain ⟨W, rfl⟩ := Int.eq_ofNat_of_zero_le (show 0 ≤ W by omega)
      obtain ⟨V, rfl⟩ := Int.eq_ofNat_of_zero_le (show 0 ≤ V by omega)
      have hWV : W * V ≤ 160 * 60 := Nat.mul_le_mul (by omega) (by omega)
      have c3 := fun H => new_sc G H W V x y z (by omega) (by omega) hp
      have e1 : (W : Int) * (V : Int) = ((W * V : Nat) : Int) := by simp
      have cB := fun H => blanks_sc G H (W * V) x y z (by omega)
      have c6 := fun (H : List Ent) (a1 a2 : Option Addr) (d1 d2 : Nat) {vs us : List Value} [RdC G H a1 vs] [RdC G H a2 us] (hv : vs = qds (List.replicate (W * V) (32, x, y, z))) (hu : us = qds (List.replicate (W * V) (32, x, y, z))) => sameGrid_sv G H _ _ W V W V a1 a2 (W * V) (W * V) d1 d2 hv hu (by simp) (by simp) (by omega) (by omega) rfl rfl rfl
      generalize W * V = p at *
      refine sv_enter5 Try.func4 rfl rfl rfl rfl rfl ?_
      repeat' (first | (apply g_sl; first | (apply ks_nil; refine sl_nil ?_) | (apply ks_move; refine s_move rfl rfl ?_) | (apply ks_bin; refine s_bin rfl rfl rfl ?_; first | (refine bb_mul ⟨by omega, by omega⟩ ?_; rw [e1]) | (first | (apply kb_mul; first | refine bb_mul ⟨by omega, by omega⟩ ?_ | refine bb_of rfl ?_) | refine bb_of rfl ?_)) | (apply ks_load; first | (refine s_load rfl rfl ?_; first | refine ld_cell rfl ?_ | refine ld_whole rfl ?_ | refine ld_elem rfl ?_ | refine ld_part rfl rfl ?_) | (refine bb_mul ⟨by omega, by omega⟩ ?_; rw [e1])) | (apply ks_asgn; refine s_asgn rfl rfl ?_) | (apply ks_pick; refine s_pick rfl rfl ?_; first | (apply kp_t; refine pk_t rfl ?_) | (apply kp_f; refine pk_f rfl ?_) | refine pk_s rfl rfl ?_) | (apply ks_extr; refine s_extr (y_extract rfl rfl rfl) rfl ?_) | (apply ks_build; first | refine s_build (c_build rfl rfl rfl) rfl ?_ | (refine bb_mul ⟨by omega, by omega⟩ ?_; rw [e1])) | (apply ks_fn; first | first | (refine c_call rfl rfl rfl (c11 _) rfl rfl ?_; rintro _ _ ⟨a1, d1, rfl, rfl⟩) | (refine c_call rfl rfl rfl (c12 _) rfl rfl ?_; rintro _ _ ⟨a2, d2, rfl, rfl⟩) | (refine c_call rfl rfl rfl (c21 _) rfl rfl ?_; rintro _ _ ⟨a3, d3, rfl, rfl⟩) | (refine c_call rfl rfl rfl (c22 _) rfl rfl ?_; rintro _ _ ⟨a4, d4, rfl, rfl⟩) | refine c_callv rfl rfl rfl (cS _) rfl rfl ?_ | refine c_callv rfl rfl rfl (cP _) rfl rfl ?_ | refine c_callv rfl rfl rfl (cG _ _ _ _ _ rfl rfl) rfl rfl ?_ | refine c_callv rfl rfl rfl (cE _ _ _ _ _ (by repeat (first | exact List.mem_cons_self | apply List.mem_cons_of_mem)) (by repeat (first | exact List.mem_cons_self | apply List.mem_cons_of_mem))) rfl rfl ?_ | refine c_callv rfl rfl rfl (c5 _) rfl rfl ?_ | (refine c_call rfl rfl rfl (c3 _) rfl rfl ?_; rintro _ _ ⟨b3, rfl, rfl⟩) | (refine c_call rfl rfl rfl (cB _) rfl rfl ?_; rintro _ _ ⟨b4, rfl, rfl⟩) | refine c_callv rfl rfl rfl (c6 _ _ _ _ _ rfl rfl) rfl rfl ?_) | (apply ks_store; first | first | refine c_store rfl rfl rfl rfl rfl rfl rfl ?_ | refine c_storew rfl rfl rfl rfl rfl rfl rfl rfl ?_ | refine c_storee rfl rfl rfl rfl rfl (by omega) rfl ?_ | (refine bb_mul ⟨by omega, by omega⟩ ?_; rw [e1])) | (apply ks_box; refine c_box rfl rfl rfl rfl rfl rfl (fun _ => ?_)) | (apply ks_alloc; refine c_alloc rfl rfl rfl rfl (fun _ => ?_)) | (apply ks_guard; first | (refine sl_gd rfl rfl rfl rfl ?_; first | (apply gd_t) | (apply gd_ft) | (apply gd_tf) | (apply gd_dec_t <;> intro hq <;> (try (exfalso; omega))) | (apply gd_dec_f <;> intro hq <;> (try (exfalso; omega))) | (apply gd_beq_t <;> intro hq <;> (try (exfalso; omega))) | (apply gd_beq_f <;> intro hq <;> (try (exfalso; omega))) | (apply gd_bne_t <;> intro hq <;> (try (exfalso; omega))) | (apply gd_bne_f <;> intro hq <;> (try (exfalso; omega))) | (apply gd_not_t <;> intro hq) | (apply gd_not_f <;> intro hq) | (apply gd_raw_t <;> intro hq) | (apply gd_raw_f <;> intro hq)) | refine sl_skip_u rfl rfl rfl rfl rfl rfl ?_) | (refine bb_mul ⟨by omega, by omega⟩ ?_; rw [e1])) | (apply sw_seq) | (apply at_srd) | (apply sw_skip) | (apply sw_ret) | (apply sw_exit) | (apply sw_block) | (apply sw_region) | (refine sw_cd rfl ?_; first | (apply gd_t) | (apply gd_ft) | (apply gd_tf) | (apply gd_dec_t <;> intro hq <;> (try (exfalso; omega))) | (apply gd_dec_f <;> intro hq <;> (try (exfalso; omega))) | (apply gd_beq_t <;> intro hq <;> (try (exfalso; omega))) | (apply gd_beq_f <;> intro hq <;> (try (exfalso; omega))) | (apply gd_bne_t <;> intro hq <;> (try (exfalso; omega))) | (apply gd_bne_f <;> intro hq <;> (try (exfalso; omega))) | (apply gd_not_t <;> intro hq) | (apply gd_not_f <;> intro hq) | (apply gd_raw_t <;> intro hq) | (apply gd_raw_f <;> intro hq)) | (apply at_thn) | (apply at_thn_ret) | (apply at_thn_exit) | (apply at_inb) | (apply at_inb_ret) | (apply at_inb_exit) | refine at_inb_pass rfl ?_ | refine c_drawn (by kernel_rfl) ?_)
      all_goals first | exact absurd rfl (by assumption) | (refine e_sv (by first | exact .inl rfl | exact .inr rfl) rfl (by repeat (first | exact List.Sublist.refl _ | exact List.nil_sublist _ | refine List.Sublist.cons _ ?_)) ?_; simp [resV])
  · have c3 := fun H => new_e G H W V x y z 1 (.inl ⟨hs, rfl⟩)
    rw [hs, decide_eq_false (by decide)] at cS
    refine sv_enter5 Try.func4 rfl rfl rfl rfl rfl ?_
    repeat' (first | (apply g_sl; first | (apply ks_nil; refine sl_nil ?_) | (apply ks_move; refine s_move rfl rfl ?_) | (apply ks_bin; refine s_bin rfl rfl rfl ?_; first | fail | (first | (apply kb_mul; first | refine bb_mul ⟨by omega, by omega⟩ ?_ | refine bb_of rfl ?_) | refine bb_of rfl ?_)) | (apply ks_load; first | (refine s_load rfl rfl ?_; first | refine ld_cell rfl ?_ | refine ld_whole rfl ?_ | refine ld_elem rfl ?_ | refine ld_part rfl rfl ?_) | fail) | (apply ks_asgn; refine s_asgn rfl rfl ?_) | (apply ks_pick; refine s_pick rfl rfl ?_; first | (apply kp_t; refine pk_t rfl ?_) | (apply kp_f; refine pk_f rfl ?_) | refine pk_s rfl rfl ?_) | (apply ks_extr; refine s_extr (y_extract rfl rfl rfl) rfl ?_) | (apply ks_build; first | refine s_build (c_build rfl rfl rfl) rfl ?_ | fail) | (apply ks_fn; first | first | (refine c_call rfl rfl rfl (c11 _) rfl rfl ?_; rintro _ _ ⟨a1, d1, rfl, rfl⟩) | (refine c_call rfl rfl rfl (c12 _) rfl rfl ?_; rintro _ _ ⟨a2, d2, rfl, rfl⟩) | (refine c_call rfl rfl rfl (c21 _) rfl rfl ?_; rintro _ _ ⟨a3, d3, rfl, rfl⟩) | (refine c_call rfl rfl rfl (c22 _) rfl rfl ?_; rintro _ _ ⟨a4, d4, rfl, rfl⟩) | refine c_callv rfl rfl rfl (cS _) rfl rfl ?_ | refine c_callv rfl rfl rfl (cP _) rfl rfl ?_ | refine c_callv rfl rfl rfl (cG _ _ _ _ _ rfl rfl) rfl rfl ?_ | refine c_callv rfl rfl rfl (cE _ _ _ _ _ (by repeat (first | exact List.mem_cons_self | apply List.mem_cons_of_mem)) (by repeat (first | exact List.mem_cons_self | apply List.mem_cons_of_mem))) rfl rfl ?_ | refine c_callv rfl rfl rfl (c5 _) rfl rfl ?_ | refine c_callv rfl rfl rfl (c3 _) rfl rfl ?_) | (apply ks_store; first | first | refine c_store rfl rfl rfl rfl rfl rfl rfl ?_ | refine c_storew rfl rfl rfl rfl rfl rfl rfl rfl ?_ | refine c_storee rfl rfl rfl rfl rfl (by omega) rfl ?_ | fail) | (apply ks_box; refine c_box rfl rfl rfl rfl rfl rfl (fun _ => ?_)) | (apply ks_alloc; refine c_alloc rfl rfl rfl rfl (fun _ => ?_)) | (apply ks_guard; first | (refine sl_gd rfl rfl rfl rfl ?_; first | (apply gd_t) | (apply gd_ft) | (apply gd_tf) | (apply gd_dec_t <;> intro hq <;> (try (exfalso; omega))) | (apply gd_dec_f <;> intro hq <;> (try (exfalso; omega))) | (apply gd_beq_t <;> intro hq <;> (try (exfalso; omega))) | (apply gd_beq_f <;> intro hq <;> (try (exfalso; omega))) | (apply gd_bne_t <;> intro hq <;> (try (exfalso; omega))) | (apply gd_bne_f <;> intro hq <;> (try (exfalso; omega))) | (apply gd_not_t <;> intro hq) | (apply gd_not_f <;> intro hq) | (apply gd_raw_t <;> intro hq) | (apply gd_raw_f <;> intro hq)) | refine sl_skip_u rfl rfl rfl rfl rfl rfl ?_) | fail) | (apply sw_seq) | (apply at_srd) | (apply sw_skip) | (apply sw_ret) | (apply sw_exit) | (apply sw_block) | (apply sw_region) | (refine sw_cd rfl ?_; first | (apply gd_t) | (apply gd_ft) | (apply gd_tf) | (apply gd_dec_t <;> intro hq <;> (try (exfalso; omega))) | (apply gd_dec_f <;> intro hq <;> (try (exfalso; omega))) | (apply gd_beq_t <;> intro hq <;> (try (exfalso; omega))) | (apply gd_beq_f <;> intro hq <;> (try (exfalso; omega))) | (apply gd_bne_t <;> intro hq <;> (try (exfalso; omega))) | (apply gd_bne_f <;> intro hq <;> (try (exfalso; omega))) | (apply gd_not_t <;> intro hq) | (apply gd_not_f <;> intro hq) | (apply gd_raw_t <;> intro hq) | (apply gd_raw_f <;> intro hq)) | (apply at_thn) | (apply at_thn_ret) | (apply at_thn_exit) | (apply at_inb) | (apply at_inb_ret) | (apply at_inb_exit) | refine at_inb_pass rfl ?_ | refine c_drawn (by kernel_rfl) ?_)
    all_goals first | exact absurd rfl (by assumption) | (refine e_sv (by first | exact .inl rfl | exact .inr rfl) rfl (by repeat (first | exact List.Sublist.refl _ | exact List.nil_sublist _ | refine List.Sublist.cons _ ?_)) ?_; simp [resV])
theorem pen_open {H : Type} {enc : TypeId × Value → H} {W : World} {base : Nat} {v : Value} {d : DataW H} {p : List MemPlace} (k : Value.okWide Try.prog W .any base 37 v) (h : DataW.Trod enc Try.prog W 0 (fun _ => true) true 37 v d p) : ∃ fl fo ba, v = penV fl fo ba := by
  obtain ⟨zs, hz, rfl, -⟩ := open_struct_flat (k := .i64) Try.underlying37 (by kernel_rfl) (fun i f hf => by
    match i, hf with
    | 0, hf | 1, hf | 2, hf => cases hf; exact ⟨rfl, Try.underlying3, by kernel_rfl⟩
    | i + 3, hf => simp at hf) k h
  match zs, hz with
  | [a, b, c], _ => exact ⟨a, b, c, rfl⟩
theorem gridSizes_law {H : Type} (enc : TypeId × Value → H) (W : World) {base : Nat} {v0 v1 v2 v3 v4 : Value} {d0 d1 d2 d3 d4 : DataW H} {p0 p1 p2 p3 p4 : List MemPlace}
    (k0 : Value.okWide Try.prog W .any base 35 v0) (h0 : DataW.Trod enc Try.prog W 0 (fun _ => true) true 35 v0 d0 p0)
    (k1 : Value.okWide Try.prog W .any base 3 v1) (h1 : DataW.Trod enc Try.prog W 0 (fun _ => true) true 3 v1 d1 p1)
    (k2 : Value.okWide Try.prog W .any base 3 v2) (h2 : DataW.Trod enc Try.prog W 0 (fun _ => true) true 3 v2 d2 p2)
    (k3 : Value.okWide Try.prog W .any base 3 v3) (h3 : DataW.Trod enc Try.prog W 0 (fun _ => true) true 3 v3 d3 p3)
    (k4 : Value.okWide Try.prog W .any base 37 v4) (h4 : DataW.Trod enc Try.prog W 0 (fun _ => true) true 37 v4 d4 p4)
    : Calls Try.prog 4 #[v0, v1, v2, v3, v4] W fun e w' => e = .returned (.bool true) ∧ Below W.heap.size W w' := by
  obtain ⟨w, h, a, C, c, rfl, hA, hm, hc⟩ := open_grid k0 h0
  obtain ⟨x1, rfl, rfl, rfl, -⟩ := open_int Try.underlying3 k1 h1
  obtain ⟨x2, rfl, rfl, rfl, -⟩ := open_int Try.underlying3 k2 h2
  obtain ⟨x3, rfl, rfl, rfl, -⟩ := open_int Try.underlying3 k3 h3
  obtain ⟨fl, fo, ba, rfl⟩ : ∃ fl fo ba, v4 = penV fl fo ba := pen_open k4 h4
  haveI : ∀ H, RdC ⟨W.heap.size, W⟩ H a (qds C) := fun H => RdC.top hA
  exact calls_of_sv (gridSizes_sv _ C w h a _ c x1 x2 x3 fl fo ba rfl (by unfold maxLen at hm; omega) hc)

set_option maxRecDepth 100000 in
theorem gridSizes_contract (H : Type) (enc : TypeId × Value → H) (W : World) (base : Nat) (args : Array Value) (ds gs : List (DataW H)) (before : List MemPlace)
    (hval : ∀ (j : Nat) t v, Try.f4.params[j]? = some t → args[j]? = some v → Value.okWide Try.prog W .any base t v)
    (hW : DataW.Whole enc Try.prog Try.f4.params.toList Rows.gridSizesSpec.vars false W args.toList ds gs before) :
    Calls Try.prog 4 args W fun e W' => ∃ v, e = .returned v ∧ Rows.gridSizesSpec.post enc Try.prog Try.f4 false true false false W args v W' := by
  have hW' := hW
  obtain ⟨p, q, hA0, hV, rfl, hfz, hnd⟩ := hW
  have hA : DataW.TrodAll enc Try.prog W 0 (fun _ => true) true Try.f4.params.toList args.toList ds p := hA0
  rw [Try.params4] at hA hval
  obtain ⟨v0, vs0, d0, ds0, p0, q0, hargs, rfl, rfl, h0, r0⟩ := trodAll_cons hA
  obtain ⟨v1, vs1, d1, ds1, p1, q1, rfl, rfl, rfl, h1, r1⟩ := trodAll_cons r0
  obtain ⟨v2, vs2, d2, ds2, p2, q2, rfl, rfl, rfl, h2, r2⟩ := trodAll_cons r1
  obtain ⟨v3, vs3, d3, ds3, p3, q3, rfl, rfl, rfl, h3, r3⟩ := trodAll_cons r2
  obtain ⟨v4, vs4, d4, ds4, p4, q4, rfl, rfl, rfl, h4, r4⟩ := trodAll_cons r3
  obtain ⟨rfl, rfl, rfl⟩ := trodAll_nil r4
  obtain rfl : args = #[v0, v1, v2, v3, v4] := by cases args; simp_all
  obtain ⟨rfl, rfl⟩ := trodVars_none hV
  clear hA0
  have k0 := hval 0 35 v0 rfl rfl
  have k1 := hval 1 3 v1 rfl rfl
  have k2 := hval 2 3 v2 rfl rfl
  have k3 := hval 3 3 v3 rfl rfl
  have k4 := hval 4 37 v4 rfl rfl
  refine (gridSizes_law enc W k0 h0 k1 h1 k2 h2 k3 h3 k4 h4).mono fun e W' ⟨he, hg⟩ => ?_
  subst he
  exact ⟨_, rfl, law_post (s := Rows.gridSizesSpec) laidOut (by kernel_rfl) rfl Try.underlying4 rfl hW' rfl hg⟩

set_option maxRecDepth 100000 in
theorem gridSizes_lifted (os : Os) (started : os.Started) (H : Type) (enc : TypeId × Value → H) :
    ReturnsInHanded {} Try.checked os 4 .any (Rows.gridSizesSpec.pre6 enc Try.prog Try.f4 Rows.gridSizesRow.domain false) (Rows.gridSizesSpec.post enc Try.prog Try.f4 false true false false) := by
  refine returnsInHanded_of_change (C := Try.checked) own started (by kernel_rfl) Try.func4
    (ChangeSpec.witness6 (enc := enc) (C := Try.checked) false ⟨#[], #[.agg #[.int .i64 0, .int .i64 0, .slice none 0 0], .int .i64 0, .int .i64 0, .int .i64 0, .agg #[.int .i64 0, .int .i64 0, .int .i64 0]], []⟩ 12 (by kernel_rfl) (by kernel_rfl) (by kernel_rfl) (by kernel_rfl)) ?_
  intro W base args ds gs before hval hW _ _
  exact gridSizes_contract H enc W base args ds gs before hval hW

theorem gridSizes_holds : Rows.GridSizesSaid :=
  OpenClaim.holds_of_wide 4 Try.f4 rfl rfl rfl rfl rfl rfl rfl ⟨rfl, rfl, rfl, rfl, rfl⟩ rfl rfl rfl rfl rfl (by kernel_rfl) Try.func4 (by kernel_rfl)
    (of_decide_eq_true (by kernel_rfl)) (by unfold Func.isWrapper; first | (rw [if_pos (by decide +kernel)]; kernel_rfl) | (rw [if_neg (by decide +kernel)]; exact ⟨rfl, rfl⟩))
    (fun os started H enc _ => gridSizes_lifted os started H enc)

end Go.Proofs.Ytgcnfcgnkfkpeaa
