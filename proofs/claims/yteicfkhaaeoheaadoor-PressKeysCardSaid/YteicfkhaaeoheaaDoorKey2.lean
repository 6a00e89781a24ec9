/- press.Key, farref.KeyText: other keys, and what is refused. -/
import Derived.Test.YteicfkhaaeoheaaDoorKey
namespace Go.Proofs.YteicfkhaaeoheaaDoor
open Go Go.RowKit Go.Fw Go.Sx
set_option maxRecDepth 100000
set_option maxHeartbeats 1000000
attribute [local irreducible] SW SL SQ AtQ SV SC BB LD PK Yields SO SOT SOA SY
def keyOk (name rune mods : Int) : Prop := (0 ≤ mods ∧ mods ≤ 7) ∧ (0 ≤ name ∧ name ≤ 26) ∧ (name = 0 → isR rune) ∧ (name ≠ 0 → rune = 0)
/-- A rune with or without ctrl. -/
def charC (c z4 : Int) : Int := if z4 ≠ 0 then (if (64 ≤ c ∧ c ≤ 95) ∨ (97 ≤ c ∧ c ≤ 122) then c % 32 else if c = 32 then 0 else if c = 63 then 127 else c) else c
def plainB (name c z1 z4 : Int) : ByteArray :=
  if name = 23 then ⟨#[13]⟩ else if name = 24 then (if z1 ≠ 0 then ⟨#[27, 91, 90]⟩ else ⟨#[9]⟩) else if name = 25 then (if z4 ≠ 0 then ⟨#[8]⟩ else ⟨#[127]⟩) else if name = 26 then ⟨#[27]⟩ else strOfNums (runeL (charC c z4))
theorem charC_R {c z4 : Int} (h : isR c) : isR (charC c z4) := by
  unfold charC isR at *
  split
  · split
    · omega
    · split
      · omega
      · split <;> omega
  · exact h
theorem encL_one (c : Int) (h : isR c) : encL [c] = runeL c := by
  unfold encL fixR isR at *
  rw [List.flatMap_cons, List.flatMap_nil, List.append_nil, if_neg (by omega)]
theorem pcode_sv (G : Ctx) (H : List Ent) (c : Int) : SV Tryd.prog G 64 [.int .i64 c] H (.bool (decide (isR c))) := by
  unfold isR
  refine sv_enter1 Tryd.func64 rfl rfl rfl rfl rfl ?_
  repeat' (first | (apply g_sl; first | (apply ks_nil; refine sl_nil ?_) | (apply ks_move; refine s_move rfl rfl ?_) | (apply ks_bin; refine s_bin rfl rfl rfl ?_; first | fail | (first | refine bb_of rfl ?_)) | (apply ks_asgn; refine s_asgn rfl rfl ?_) | (apply ks_pick; refine s_pick rfl rfl ?_; first | (apply kp_t; refine pk_t rfl ?_) | (apply kp_f; refine pk_f rfl ?_) | refine pk_s rfl rfl ?_) | (apply ks_guard; first | (refine sl_gd rfl rfl rfl rfl ?_; first | (apply gd_t) | (apply gd_ft) | (apply gd_tf) | (apply gd_dec_t <;> intro hq <;> (try (exfalso; omega))) | (apply gd_dec_f <;> intro hq <;> (try (exfalso; omega))) | (apply gd_beq_t <;> intro hq <;> (try (exfalso; omega))) | (apply gd_beq_f <;> intro hq <;> (try (exfalso; omega))) | (apply gd_bne_t <;> intro hq <;> (try (exfalso; omega))) | (apply gd_bne_f <;> intro hq <;> (try (exfalso; omega))) | (apply gd_not_t <;> intro hq) | (apply gd_not_f <;> intro hq) | (apply gd_raw_t <;> intro hq) | (apply gd_raw_f <;> intro hq)) | refine sl_skip_u rfl rfl rfl rfl rfl rfl ?_) | fail) | (apply sw_seq) | (apply at_srd) | (apply sw_skip) | (apply sw_ret) | (apply sw_exit) | (apply sw_block) | (apply sw_region) | (refine sw_cd rfl ?_; first | (apply gd_t) | (apply gd_ft) | (apply gd_tf) | (apply gd_dec_t <;> intro hq <;> (try (exfalso; omega))) | (apply gd_dec_f <;> intro hq <;> (try (exfalso; omega))) | (apply gd_beq_t <;> intro hq <;> (try (exfalso; omega))) | (apply gd_beq_f <;> intro hq <;> (try (exfalso; omega))) | (apply gd_bne_t <;> intro hq <;> (try (exfalso; omega))) | (apply gd_bne_f <;> intro hq <;> (try (exfalso; omega))) | (apply gd_not_t <;> intro hq) | (apply gd_not_f <;> intro hq) | (apply gd_raw_t <;> intro hq) | (apply gd_raw_f <;> intro hq)) | (apply at_thn) | (apply at_thn_ret) | (apply at_thn_exit) | (apply at_inb) | (apply at_inb_ret) | (apply at_inb_exit) | refine at_inb_pass rfl ?_ | refine c_drawn (by kernel_rfl) ?_)
  all_goals (refine e_sv (by first | exact .inl rfl | exact .inr rfl) rfl (by repeat (first | exact List.Sublist.refl _ | exact List.nil_sublist _ | refine List.Sublist.cons _ ?_)) ?_; first | (rw [decide_eq_true (by omega)]; rfl) | (rw [decide_eq_false (by omega)]; rfl) | first | exact rb_t (by omega) | exact rb_f (by omega) | exact rb_d (by omega) | exact rb_n (by omega))
theorem character_sv (G : Ctx) (H : List Ent) (c mods z4 : Int) (h : isR c) (hz : ibits .and .i64 mods 4 = z4) : SV Tryd.prog G 104 [.int .i64 c, .int .i64 mods] H (.string (strOfNums (runeL (charC c z4)))) := by
  have cE := fun H a x (hx : isR x) h => encL_one x hx ▸ encode_sv G H [x] a 1 1 (h1 := h) rfl rfl (by simp)
  have hcs : charC c z4 = if z4 ≠ 0 then (if (64 ≤ c ∧ c ≤ 95) ∨ (97 ≤ c ∧ c ≤ 122) then c % 32 else if c = 32 then 0 else if c = 63 then 127 else c) else c := rfl
  generalize charC c z4 = y at *
  unfold isR at h cE
  have Hcs := Lib.hid hcs
  clear hcs
  refine sv_enter2 Tryd.func104 rfl rfl rfl rfl rfl ?_
  repeat' (first | (apply g_sl; first | (apply ks_nil; refine sl_nil ?_) | (apply ks_move; refine s_move rfl rfl ?_) | (apply ks_bin; refine s_bin rfl rfl rfl ?_; first | (refine bb_bitsV rfl hz ?_) | (first | (apply kb_and; first | refine bb_mask rfl rfl (by omega) (by omega) ?_ | refine bb_and (by first | omega | apply iand_nn | apply iclr_nn | apply ior_nn) (by first | omega | (apply iand_l <;> omega) | (apply iclr_l; (apply iand_nn); (apply iand_l <;> omega)) | (apply iclr_l <;> omega) | (apply ior_lt63 <;> omega)) (by first | omega | apply iand_nn | apply iclr_nn | apply ior_nn) (by first | omega | (apply iand_l <;> omega) | (apply iclr_l; (apply iand_nn); (apply iand_l <;> omega)) | (apply iclr_l <;> omega) | (apply ior_lt63 <;> omega)) ?_ | refine bb_bits rfl ?_) | refine bb_of rfl ?_)) | (apply ks_asgn; refine s_asgn rfl rfl ?_) | (apply ks_pick; refine s_pick rfl rfl ?_; first | (apply kp_t; refine pk_t rfl ?_) | (apply kp_f; refine pk_f rfl ?_) | refine pk_s rfl rfl ?_) | (apply ks_fn; first | refine c_callv rfl rfl rfl (cE _ _ _ (by omega) inferInstance) rfl rfl ?_) | (apply ks_bs; first | refine c_buildSlice rfl rfl rfl rfl rfl rfl rfl rfl rfl rfl (fun _ => ?_) | (refine bb_bitsV rfl hz ?_)) | (apply ks_guard; first | (refine sl_gd rfl rfl rfl rfl ?_; first | (apply gd_t) | (apply gd_ft) | (apply gd_tf) | (apply gd_dec_t <;> intro hq <;> (try (exfalso; omega))) | (apply gd_dec_f <;> intro hq <;> (try (exfalso; omega))) | (apply gd_beq_t <;> intro hq <;> (try (exfalso; omega))) | (apply gd_beq_f <;> intro hq <;> (try (exfalso; omega))) | (apply gd_bne_t <;> intro hq <;> (try (exfalso; omega))) | (apply gd_bne_f <;> intro hq <;> (try (exfalso; omega))) | (apply gd_not_t <;> intro hq) | (apply gd_not_f <;> intro hq) | (apply gd_raw_t <;> intro hq) | (apply gd_raw_f <;> intro hq)) | refine sl_skip_u rfl rfl rfl rfl rfl rfl ?_) | (refine bb_bitsV rfl hz ?_)) | (apply sw_seq) | (apply at_srd) | (apply sw_skip) | (apply sw_ret) | (apply sw_exit) | (apply sw_block) | (apply sw_region) | (refine sw_cd rfl ?_; first | (apply gd_t) | (apply gd_ft) | (apply gd_tf) | (apply gd_dec_t <;> intro hq <;> (try (exfalso; omega))) | (apply gd_dec_f <;> intro hq <;> (try (exfalso; omega))) | (apply gd_beq_t <;> intro hq <;> (try (exfalso; omega))) | (apply gd_beq_f <;> intro hq <;> (try (exfalso; omega))) | (apply gd_bne_t <;> intro hq <;> (try (exfalso; omega))) | (apply gd_bne_f <;> intro hq <;> (try (exfalso; omega))) | (apply gd_not_t <;> intro hq) | (apply gd_not_f <;> intro hq) | (apply gd_raw_t <;> intro hq) | (apply gd_raw_f <;> intro hq)) | (apply at_thn) | (apply at_thn_ret) | (apply at_thn_exit) | (apply at_inb) | (apply at_inb_ret) | (apply at_inb_exit) | refine at_inb_pass rfl ?_ | refine c_drawn (by kernel_rfl) ?_)
  all_goals (refine e_sv (by first | exact .inl rfl | exact .inr rfl) rfl (by repeat (first | exact List.Sublist.refl _ | exact List.nil_sublist _ | refine List.Sublist.cons _ ?_)) ?_; rw [Hcs.out]; (repeat (first | rw [if_pos (by omega)] | rw [if_neg (by omega)])); rfl)
theorem plain_sv (G : Ctx) (H : List Ent) (name c mods z1 z4 : Int) (hn : 23 ≤ name ∧ name ≤ 26 ∨ name = 0) (h : name = 0 → isR c) (h1 : ibits .and .i64 mods 1 = z1) (h4 : ibits .and .i64 mods 4 = z4) : SV Tryd.prog G 67 [keyV name c mods] H (.string (plainB name c z1 z4)) := by
  have cC := fun H (h0 : name = 0) => character_sv G H c mods z4 (h h0) h4
  have hp : plainB name c z1 z4 = if name = 23 then ⟨#[13]⟩ else if name = 24 then (if z1 ≠ 0 then ⟨#[27, 91, 90]⟩ else ⟨#[9]⟩) else if name = 25 then (if z4 ≠ 0 then ⟨#[8]⟩ else ⟨#[127]⟩) else if name = 26 then ⟨#[27]⟩ else strOfNums (runeL (charC c z4)) := rfl
  rw [hp]
  clear h hp
  refine sv_enter1 Tryd.func67 rfl rfl rfl rfl rfl ?_
  repeat' (first | (apply g_sl; first | (apply ks_nil; refine sl_nil ?_) | (apply ks_move; refine s_move rfl rfl ?_) | (apply ks_bin; refine s_bin rfl rfl rfl ?_; first | first | (refine bb_bitsV rfl h1 ?_) | (refine bb_bitsV rfl h4 ?_) | (first | (apply kb_and; first | refine bb_mask rfl rfl (by omega) (by omega) ?_ | refine bb_and (by first | omega | apply iand_nn | apply iclr_nn | apply ior_nn) (by first | omega | (apply iand_l <;> omega) | (apply iclr_l; (apply iand_nn); (apply iand_l <;> omega)) | (apply iclr_l <;> omega) | (apply ior_lt63 <;> omega)) (by first | omega | apply iand_nn | apply iclr_nn | apply ior_nn) (by first | omega | (apply iand_l <;> omega) | (apply iclr_l; (apply iand_nn); (apply iand_l <;> omega)) | (apply iclr_l <;> omega) | (apply ior_lt63 <;> omega)) ?_ | refine bb_bits rfl ?_) | refine bb_of rfl ?_)) | (apply ks_load; first | (refine s_load rfl rfl ?_; first | refine ld_cell rfl ?_ | refine ld_whole rfl ?_ | refine ld_elem rfl ?_ | refine ld_part rfl rfl ?_) | first | (refine bb_bitsV rfl h1 ?_) | (refine bb_bitsV rfl h4 ?_)) | (apply ks_asgn; refine s_asgn rfl rfl ?_) | (apply ks_pick; refine s_pick rfl rfl ?_; first | (apply kp_t; refine pk_t rfl ?_) | (apply kp_f; refine pk_f rfl ?_) | refine pk_s rfl rfl ?_) | (apply ks_field; first | refine s_field (c_field0 rfl rfl) rfl ?_ | refine s_field (c_field rfl rfl) rfl ?_) | (apply ks_fn; first | refine c_callv rfl rfl rfl (cC _ (by omega)) rfl rfl ?_) | (apply ks_box; refine c_box rfl rfl rfl rfl rfl rfl (fun _ => ?_)) | (apply ks_guard; first | (refine sl_gd rfl rfl rfl rfl ?_; first | (apply gd_t) | (apply gd_ft) | (apply gd_tf) | (apply gd_dec_t <;> intro hq <;> (try (exfalso; omega))) | (apply gd_dec_f <;> intro hq <;> (try (exfalso; omega))) | (apply gd_beq_t <;> intro hq <;> (try (exfalso; omega))) | (apply gd_beq_f <;> intro hq <;> (try (exfalso; omega))) | (apply gd_bne_t <;> intro hq <;> (try (exfalso; omega))) | (apply gd_bne_f <;> intro hq <;> (try (exfalso; omega))) | (apply gd_not_t <;> intro hq) | (apply gd_not_f <;> intro hq) | (apply gd_raw_t <;> intro hq) | (apply gd_raw_f <;> intro hq)) | refine sl_skip_u rfl rfl rfl rfl rfl rfl ?_) | first | (refine bb_bitsV rfl h1 ?_) | (refine bb_bitsV rfl h4 ?_)) | (apply sw_seq) | (apply at_srd) | (apply sw_skip) | (apply sw_ret) | (apply sw_exit) | (apply sw_block) | (apply sw_region) | (refine sw_cd rfl ?_; first | (apply gd_t) | (apply gd_ft) | (apply gd_tf) | (apply gd_dec_t <;> intro hq <;> (try (exfalso; omega))) | (apply gd_dec_f <;> intro hq <;> (try (exfalso; omega))) | (apply gd_beq_t <;> intro hq <;> (try (exfalso; omega))) | (apply gd_beq_f <;> intro hq <;> (try (exfalso; omega))) | (apply gd_bne_t <;> intro hq <;> (try (exfalso; omega))) | (apply gd_bne_f <;> intro hq <;> (try (exfalso; omega))) | (apply gd_not_t <;> intro hq) | (apply gd_not_f <;> intro hq) | (apply gd_raw_t <;> intro hq) | (apply gd_raw_f <;> intro hq)) | (apply at_thn) | (apply at_thn_ret) | (apply at_thn_exit) | (apply at_inb) | (apply at_inb_ret) | (apply at_inb_exit) | refine at_inb_pass rfl ?_ | refine c_drawn (by kernel_rfl) ?_)
  all_goals (refine e_sv (by first | exact .inl rfl | exact .inr rfl) rfl (by repeat (first | exact List.Sublist.refl _ | exact List.nil_sublist _ | refine List.Sublist.cons _ ?_)) ?_; (repeat (first | rw [if_pos (by omega)] | rw [if_neg (by omega)])); rfl)
theorem keyE_sv (G : Ctx) (H : List Ent) (name c mods z1 z2 z4 modes : Int) (hq : 0 ≤ mods ∧ mods ≤ 7) (hn : 23 ≤ name ∧ name ≤ 26 ∨ name = 0) (h : name = 0 → isR c) (h0 : name ≠ 0 → c = 0) (h1 : ibits .and .i64 mods 1 = z1) (h2 : ibits .and .i64 mods 2 = z2) (h4 : ibits .and .i64 mods 4 = z4) : SV Tryd.prog G 25 [keyV name c mods, .int .i64 modes] H (.tuple #[.string (if z2 ≠ 0 then (⟨#[27]⟩ : ByteArray) ++ plainB name c z1 z4 else plainB name c z1 z4), .int .i64 0]) := by
  have cP := fun H => plain_sv G H name c mods z1 z4 hn h h1 h4
  have cK := fun H => pcode_sv G H c
  have hpl : (plainB name c z1 z4).size ≤ 10 := by
    unfold plainB
    repeat' split
    all_goals first | decide | skip
    rw [strOf_size]
    have := runeL_len (charC c z4)
    omega
  have z9 : (⟨#[27]⟩ : ByteArray).size = 1 := rfl
  generalize plainB name c z1 z4 = B at *
  have hR : name = 0 → decide (isR c) = true := fun e => decide_eq_true (h e)
  generalize decide (isR c) = r at *
  clear h h1 h4
  refine sv_enter2 Tryd.func25 rfl rfl rfl rfl rfl ?_
  repeat' (first | (apply g_sl; first | (apply ks_nil; refine sl_nil ?_) | (apply ks_move; refine s_move rfl rfl ?_) | (apply ks_bin; refine s_bin rfl rfl rfl ?_; first | first | (refine bb_bitsV rfl h2 ?_) | (refine bb_cat (by (try simp only [ByteArray.size_append]); omega) ?_) | (first | (apply kb_add; first | refine bb_add ⟨by omega, by omega⟩ ?_ | refine bb_of rfl ?_) | (apply kb_sub; first | refine bb_sub ⟨by omega, by omega⟩ ?_ | refine bb_of rfl ?_) | (apply kb_and; first | refine bb_mask rfl rfl (by omega) (by omega) ?_ | refine bb_and (by first | omega | apply iand_nn | apply iclr_nn | apply ior_nn) (by first | omega | (apply iand_l <;> omega) | (apply iclr_l; (apply iand_nn); (apply iand_l <;> omega)) | (apply iclr_l <;> omega) | (apply ior_lt63 <;> omega)) (by first | omega | apply iand_nn | apply iclr_nn | apply ior_nn) (by first | omega | (apply iand_l <;> omega) | (apply iclr_l; (apply iand_nn); (apply iand_l <;> omega)) | (apply iclr_l <;> omega) | (apply ior_lt63 <;> omega)) ?_ | refine bb_bits rfl ?_) | refine bb_of rfl ?_)) | (apply ks_load; first | (refine s_load rfl rfl ?_; first | refine ld_cell rfl ?_ | refine ld_whole rfl ?_ | refine ld_elem rfl ?_ | refine ld_part rfl rfl ?_) | first | (refine bb_bitsV rfl h2 ?_) | (refine bb_cat (by (try simp only [ByteArray.size_append]); omega) ?_)) | (apply ks_asgn; refine s_asgn rfl rfl ?_) | (apply ks_pick; refine s_pick rfl rfl ?_; first | (apply kp_t; refine pk_t rfl ?_) | (apply kp_f; refine pk_f rfl ?_) | refine pk_s rfl rfl ?_) | (apply ks_field; first | refine s_field (c_field0 rfl rfl) rfl ?_ | refine s_field (c_field rfl rfl) rfl ?_) | (apply ks_un; refine s_un (y_un rfl rfl rfl) rfl ?_) | (apply ks_build; first | refine s_build (c_build rfl rfl rfl) rfl ?_ | first | (refine bb_bitsV rfl h2 ?_) | (refine bb_cat (by (try simp only [ByteArray.size_append]); omega) ?_)) | (apply ks_index; first | first | (refine bb_bitsV rfl h2 ?_) | (refine bb_cat (by (try simp only [ByteArray.size_append]); omega) ?_) | refine s_index (c_indexArr rfl rfl rfl (by omega) (by omega) rfl) rfl ?_ | refine s_index (c_indexArrA rfl rfl rfl (by omega) (by omega) rfl) rfl ?_ | refine s_index (c_indexStr rfl rfl rfl (by omega) rfl) rfl ?_) | (apply ks_fn; first | first | refine c_callv rfl rfl rfl (cP _) rfl rfl ?_ | refine c_callv rfl rfl rfl (cK _) rfl rfl ?_) | (apply ks_box; refine c_box rfl rfl rfl rfl rfl rfl (fun _ => ?_)) | (apply ks_guard; first | (refine sl_gd rfl rfl rfl rfl ?_; first | (apply gd_t) | (apply gd_ft) | (apply gd_tf) | (apply gd_dec_t <;> intro hq <;> (try (exfalso; omega))) | (apply gd_dec_f <;> intro hq <;> (try (exfalso; omega))) | (apply gd_beq_t <;> intro hq <;> (try (exfalso; omega))) | (apply gd_beq_f <;> intro hq <;> (try (exfalso; omega))) | (apply gd_bne_t <;> intro hq <;> (try (exfalso; omega))) | (apply gd_bne_f <;> intro hq <;> (try (exfalso; omega))) | (apply gd_not_t <;> intro hq) | (apply gd_not_f <;> intro hq) | (apply gd_raw_t <;> intro hq) | (apply gd_raw_f <;> intro hq)) | refine sl_skip_u rfl rfl rfl rfl rfl rfl ?_) | first | (refine bb_bitsV rfl h2 ?_) | (refine bb_cat (by (try simp only [ByteArray.size_append]); omega) ?_)) | (apply sw_seq) | (apply at_srd) | (apply sw_skip) | (apply sw_ret) | (apply sw_exit) | (apply sw_block) | (apply sw_region) | (refine sw_cd rfl ?_; first | (apply gd_t) | (apply gd_ft) | (apply gd_tf) | (apply gd_dec_t <;> intro hq <;> (try (exfalso; omega))) | (apply gd_dec_f <;> intro hq <;> (try (exfalso; omega))) | (apply gd_beq_t <;> intro hq <;> (try (exfalso; omega))) | (apply gd_beq_f <;> intro hq <;> (try (exfalso; omega))) | (apply gd_bne_t <;> intro hq <;> (try (exfalso; omega))) | (apply gd_bne_f <;> intro hq <;> (try (exfalso; omega))) | (apply gd_not_t <;> intro hq) | (apply gd_not_f <;> intro hq) | (apply gd_raw_t <;> intro hq) | (apply gd_raw_f <;> intro hq)) | (apply at_thn) | (apply at_thn_ret) | (apply at_thn_exit) | (apply at_inb) | (apply at_inb_ret) | (apply at_inb_exit) | refine at_inb_pass rfl ?_ | refine c_drawn (by kernel_rfl) ?_)
  all_goals first
    | (exfalso; omega)
    | (have hr := hR (by omega); rw [hr] at hq; cases hq; done)
    | (rw [if_pos (by omega)]; refine e_sv (by first | exact .inl rfl | exact .inr rfl) rfl (by repeat (first | exact List.Sublist.refl _ | exact List.nil_sublist _ | refine List.Sublist.cons _ ?_)) ?_; rfl)
    | (rw [if_neg (by omega)]; refine e_sv (by first | exact .inl rfl | exact .inr rfl) rfl (by repeat (first | exact List.Sublist.refl _ | exact List.nil_sublist _ | refine List.Sublist.cons _ ?_)) ?_; rfl)
theorem key_bad (G : Ctx) (H : List Ent) (name c mods modes : Int) (hb : ¬ keyOk name c mods) : SV Tryd.prog G 25 [keyV name c mods, .int .i64 modes] H (.tuple #[.string ⟨#[]⟩, .int .i64 1]) := by
  have cK := fun H => pcode_sv G H c
  unfold keyOk at hb
  have hb' : (0 ≤ mods ∧ mods ≤ 7) → (0 ≤ name ∧ name ≤ 26) → (name = 0 → decide (isR c) = false) ∧ (name ≠ 0 → c ≠ 0) := fun h1 h2 => ⟨fun h3 => decide_eq_false fun h4 => hb ⟨h1, h2, fun _ => h4, fun h5 => absurd h3 h5⟩, fun h3 h4 => hb ⟨h1, h2, fun h5 => absurd h5 h3, fun _ => h4⟩⟩
  generalize decide (isR c) = r at *
  have Hb := Lib.hid hb'
  clear hb hb'
  refine sv_enter2 Tryd.func25 rfl rfl rfl rfl rfl ?_
  repeat' (first | (apply g_sl; first | (apply ks_nil; refine sl_nil ?_) | (apply ks_move; refine s_move rfl rfl ?_) | (apply ks_bin; refine s_bin rfl rfl rfl ?_; first | fail | (first | (apply kb_add; first | refine bb_add ⟨by omega, by omega⟩ ?_ | refine bb_of rfl ?_) | (apply kb_sub; first | refine bb_sub ⟨by omega, by omega⟩ ?_ | refine bb_of rfl ?_) | (apply kb_and; first | refine bb_mask rfl rfl (by omega) (by omega) ?_ | refine bb_and (by first | omega | apply iand_nn | apply iclr_nn | apply ior_nn) (by first | omega | (apply iand_l <;> omega) | (apply iclr_l; (apply iand_nn); (apply iand_l <;> omega)) | (apply iclr_l <;> omega) | (apply ior_lt63 <;> omega)) (by first | omega | apply iand_nn | apply iclr_nn | apply ior_nn) (by first | omega | (apply iand_l <;> omega) | (apply iclr_l; (apply iand_nn); (apply iand_l <;> omega)) | (apply iclr_l <;> omega) | (apply ior_lt63 <;> omega)) ?_ | refine bb_bits rfl ?_) | refine bb_of rfl ?_)) | (apply ks_load; first | (refine s_load rfl rfl ?_; first | refine ld_cell rfl ?_ | refine ld_whole rfl ?_ | refine ld_elem rfl ?_ | refine ld_part rfl rfl ?_) | fail) | (apply ks_asgn; refine s_asgn rfl rfl ?_) | (apply ks_pick; refine s_pick rfl rfl ?_; first | (apply kp_t; refine pk_t rfl ?_) | (apply kp_f; refine pk_f rfl ?_) | refine pk_s rfl rfl ?_) | (apply ks_field; first | refine s_field (c_field0 rfl rfl) rfl ?_ | refine s_field (c_field rfl rfl) rfl ?_) | (apply ks_un; refine s_un (y_un rfl rfl rfl) rfl ?_) | (apply ks_build; first | refine s_build (c_build rfl rfl rfl) rfl ?_ | fail) | (apply ks_index; first | fail | refine s_index (c_indexArr rfl rfl rfl (by omega) (by omega) rfl) rfl ?_ | refine s_index (c_indexArrA rfl rfl rfl (by omega) (by omega) rfl) rfl ?_ | refine s_index (c_indexStr rfl rfl rfl (by omega) rfl) rfl ?_) | (apply ks_fn; first | refine c_callv rfl rfl rfl (cK _) rfl rfl ?_) | (apply ks_box; refine c_box rfl rfl rfl rfl rfl rfl (fun _ => ?_)) | (apply ks_guard; first | (refine sl_gd rfl rfl rfl rfl ?_; first | (apply gd_t) | (apply gd_ft) | (apply gd_tf) | (apply gd_dec_t <;> intro hq <;> (try (exfalso; omega))) | (apply gd_dec_f <;> intro hq <;> (try (exfalso; omega))) | (apply gd_beq_t <;> intro hq <;> (try (exfalso; omega))) | (apply gd_beq_f <;> intro hq <;> (try (exfalso; omega))) | (apply gd_bne_t <;> intro hq <;> (try (exfalso; omega))) | (apply gd_bne_f <;> intro hq <;> (try (exfalso; omega))) | (apply gd_not_t <;> intro hq) | (apply gd_not_f <;> intro hq) | (apply gd_raw_t <;> intro hq) | (apply gd_raw_f <;> intro hq)) | refine sl_skip_u rfl rfl rfl rfl rfl rfl ?_) | fail) | (apply sw_seq) | (apply at_srd) | (apply sw_skip) | (apply sw_ret) | (apply sw_exit) | (apply sw_block) | ((fail_if_success (refine g_reg (id := 3) ?_)); apply sw_region) | (refine sw_cd rfl ?_; first | (apply gd_t) | (apply gd_ft) | (apply gd_tf) | (apply gd_dec_t <;> intro hq <;> (try (exfalso; omega))) | (apply gd_dec_f <;> intro hq <;> (try (exfalso; omega))) | (apply gd_beq_t <;> intro hq <;> (try (exfalso; omega))) | (apply gd_beq_f <;> intro hq <;> (try (exfalso; omega))) | (apply gd_bne_t <;> intro hq <;> (try (exfalso; omega))) | (apply gd_bne_f <;> intro hq <;> (try (exfalso; omega))) | (apply gd_not_t <;> intro hq) | (apply gd_not_f <;> intro hq) | (apply gd_raw_t <;> intro hq) | (apply gd_raw_f <;> intro hq)) | (apply at_thn) | (apply at_thn_ret) | (apply at_thn_exit) | (apply at_inb) | (apply at_inb_ret) | (apply at_inb_exit) | refine at_inb_pass rfl ?_ | ((fail_if_success (refine g_reg (id := 3) ?_)); refine c_drawn (by kernel_rfl) ?_))
  all_goals first
    | (refine e_sv (by first | exact .inl rfl | exact .inr rfl) rfl (by repeat (first | exact List.Sublist.refl _ | exact List.nil_sublist _ | refine List.Sublist.cons _ ?_)) ?_; rfl)
    | (exfalso; have h3 := Hb.out (by omega) (by omega); omega)
    | (exfalso; have h3 := (Hb.out (by omega) (by omega)).1 (by omega); have h4 : r = true := (by assumption); rw [h3] at h4; cases h4)
theorem runeL_small (x : Int) (h : x < 128) : runeL x = [x] := if_pos h
theorem textE_sv (G : Ctx) (H : List Ent) (name c mods z1 z2 z4 modes : Int) (hq : 0 ≤ mods ∧ mods ≤ 7) (hn : 23 ≤ name ∧ name ≤ 26 ∨ name = 0) (h : name = 0 → isR c) (h0 : name ≠ 0 → c = 0) (h1 : ibits .and .i64 mods 1 = z1) (h2 : ibits .and .i64 mods 2 = z2) (h4 : ibits .and .i64 mods 4 = z4) : SV Tryd.prog G 26 [keyV name c mods, .int .i64 modes] H (.tuple #[.string (if z2 ≠ 0 then (⟨#[27]⟩ : ByteArray) ++ plainB name c z1 z4 else plainB name c z1 z4), .int .i64 0]) := by
  have hR : name = 0 → decide (isR c) = true := fun e => decide_eq_true (h e)
  have cK := fun H => isRune_sv G H c
  have hc : name = 0 → 0 ≤ c ∧ c ≤ 1114111 := fun e => by have := h e; unfold isR at this; omega
  have cT := bet_sv G
  have cZ1 := fun H => refBitA_sv G H mods 1
  have cZ2 := fun H => refBitA_sv G H mods 2
  have cZ4 := fun H => refBitA_sv G H mods 4
  rw [h1] at cZ1
  rw [h2] at cZ2
  rw [h4] at cZ4
  have cR := fun H h => runeBytes_sv G H c h
  have cB := fun H a (hb : Oct (c % 32)) h => bytes_sv G H [c % 32] a 1 1 (h1 := h) rfl rfl (by simp) (by intro x hx; simp only [List.mem_singleton] at hx; subst hx; exact hb)
  have cI := fun H => num_sv G (mods.toNat + 1) (mods.toNat + 1) H (Nat.le_refl _) (by omega)
  have eq : ((mods.toNat + 1 : Nat) : Int) = mods + 1 := by omega
  rw [eq] at cI
  have sN := numB_size 0 (mods.toNat + 1) (by omega)
  have z9 : (⟨#[27]⟩ : ByteArray).size = 1 := rfl
  have z4' : (⟨#[59]⟩ : ByteArray).size = 1 := rfl
  have sR : name = 0 → (strOfNums (runeL c)).size ≤ 4 := fun _ => by rw [strOf_size]; have := runeL_len c; omega
  have sB : (strOfNums [c % 32]).size = 1 := rfl
  have y1 : (⟨#[13]⟩ : ByteArray).size = 1 := rfl
  have y2 : (⟨#[27, 91, 90]⟩ : ByteArray).size = 3 := rfl
  have y3 : (⟨#[9]⟩ : ByteArray).size = 1 := rfl
  have y4 : (⟨#[8]⟩ : ByteArray).size = 1 := rfl
  have y5 : (⟨#[127]⟩ : ByteArray).size = 1 := rfl
  have y6 : (⟨#[0]⟩ : ByteArray).size = 1 := rfl
  have hp : plainB name c z1 z4 = if name = 23 then ⟨#[13]⟩ else if name = 24 then (if z1 ≠ 0 then ⟨#[27, 91, 90]⟩ else ⟨#[9]⟩) else if name = 25 then (if z4 ≠ 0 then ⟨#[8]⟩ else ⟨#[127]⟩) else if name = 26 then ⟨#[27]⟩ else strOfNums (runeL (charC c z4)) := rfl
  have hcs : charC c z4 = if z4 ≠ 0 then (if (64 ≤ c ∧ c ≤ 95) ∨ (97 ≤ c ∧ c ≤ 122) then c % 32 else if c = 32 then 0 else if c = 63 then 127 else c) else c := rfl
  generalize plainB name c z1 z4 = B at *
  generalize charC c z4 = C at *
  generalize numB (mods.toNat + 1) = N at *
  generalize decide (isR c) = r at *
  have Hp := Lib.hid hp
  have Hcs := Lib.hid hcs
  clear h h1 h2 h4 eq hp hcs
  refine sv_enter2 Tryd.func26 rfl rfl rfl rfl rfl ?_
  repeat' (first | (apply g_sl; first | (apply ks_nil; refine sl_nil ?_) | (apply ks_move; refine s_move rfl rfl ?_) | (apply ks_bin; refine s_bin rfl rfl rfl ?_; first | (refine bb_cat (by (try simp only [ByteArray.size_append]); omega) ?_) | (first | (apply kb_add; first | refine bb_add ⟨by omega, by omega⟩ ?_ | refine bb_of rfl ?_) | (apply kb_sub; first | refine bb_sub ⟨by omega, by omega⟩ ?_ | refine bb_of rfl ?_) | (apply kb_rem; refine bb_rem (by omega) (by omega) ?_) | refine bb_of rfl ?_)) | (apply ks_load; first | (refine s_load rfl rfl ?_; first | refine ld_cell rfl ?_ | refine ld_whole rfl ?_ | refine ld_elem rfl ?_ | refine ld_part rfl rfl ?_) | (refine bb_cat (by (try simp only [ByteArray.size_append]); omega) ?_)) | (apply ks_asgn; refine s_asgn rfl rfl ?_) | (apply ks_pick; refine s_pick rfl rfl ?_; first | (apply kp_t; refine pk_t rfl ?_) | (apply kp_f; refine pk_f rfl ?_) | refine pk_s rfl rfl ?_) | (apply ks_field; first | refine s_field (c_field0 rfl rfl) rfl ?_ | refine s_field (c_field rfl rfl) rfl ?_) | (apply ks_un; refine s_un (y_un rfl rfl rfl) rfl ?_) | (apply ks_indexA; first | refine s_indexA (c_indexAddr rfl rfl rfl rfl (by omega) (by omega)) rfl ?_ | (refine bb_cat (by (try simp only [ByteArray.size_append]); omega) ?_)) | (apply ks_fn; first | first | refine c_callv rfl rfl rfl (cT _ _ _ _) rfl rfl ?_ | refine c_callv rfl rfl rfl (cI _) rfl rfl ?_ | refine c_callv rfl rfl rfl (cK _) rfl rfl ?_ | refine c_callv rfl rfl rfl (cZ1 _) rfl rfl ?_ | refine c_callv rfl rfl rfl (cZ2 _) rfl rfl ?_ | refine c_callv rfl rfl rfl (cZ4 _) rfl rfl ?_ | refine c_callv rfl rfl rfl (cR _ ⟨by omega, by omega⟩) rfl rfl ?_ | refine c_callv rfl rfl rfl (cB _ _ ⟨by omega, by omega⟩ inferInstance) rfl rfl ?_) | (apply ks_box; refine c_box rfl rfl rfl rfl rfl rfl (fun _ => ?_)) | (apply ks_bs; first | refine c_buildSlice rfl rfl rfl rfl rfl rfl rfl rfl rfl rfl (fun _ => ?_) | (refine bb_cat (by (try simp only [ByteArray.size_append]); omega) ?_)) | (apply ks_slice; first | (refine bb_cat (by (try simp only [ByteArray.size_append]); omega) ?_) | refine s_slice (c_sliceStr rfl rfl rfl rfl (by omega) (by omega) (by omega)) rfl ?_) | (apply ks_guard; first | (refine sl_gd rfl rfl rfl rfl ?_; first | (apply gd_t) | (apply gd_ft) | (apply gd_tf) | (apply gd_dec_t <;> intro hq <;> (try (exfalso; omega))) | (apply gd_dec_f <;> intro hq <;> (try (exfalso; omega))) | (apply gd_beq_t <;> intro hq <;> (try (exfalso; omega))) | (apply gd_beq_f <;> intro hq <;> (try (exfalso; omega))) | (apply gd_bne_t <;> intro hq <;> (try (exfalso; omega))) | (apply gd_bne_f <;> intro hq <;> (try (exfalso; omega))) | (apply gd_not_t <;> intro hq) | (apply gd_not_f <;> intro hq) | (apply gd_raw_t <;> intro hq) | (apply gd_raw_f <;> intro hq)) | refine sl_skip_u rfl rfl rfl rfl rfl rfl ?_) | (refine bb_cat (by (try simp only [ByteArray.size_append]); omega) ?_)) | (apply sw_seq) | (apply at_srd) | (apply sw_skip) | (apply sw_ret) | (apply sw_exit) | (apply sw_block) | (apply sw_region) | (refine sw_cd rfl ?_; first | (apply gd_t) | (apply gd_ft) | (apply gd_tf) | (apply gd_dec_t <;> intro hq <;> (try (exfalso; omega))) | (apply gd_dec_f <;> intro hq <;> (try (exfalso; omega))) | (apply gd_beq_t <;> intro hq <;> (try (exfalso; omega))) | (apply gd_beq_f <;> intro hq <;> (try (exfalso; omega))) | (apply gd_bne_t <;> intro hq <;> (try (exfalso; omega))) | (apply gd_bne_f <;> intro hq <;> (try (exfalso; omega))) | (apply gd_not_t <;> intro hq) | (apply gd_not_f <;> intro hq) | (apply gd_raw_t <;> intro hq) | (apply gd_raw_f <;> intro hq)) | (apply at_thn) | (apply at_thn_ret) | (apply at_thn_exit) | (apply at_inb) | (apply at_inb_ret) | (apply at_inb_exit) | refine at_inb_pass rfl ?_ | refine c_drawn (by kernel_rfl) ?_)
  all_goals (try simp only [decide_eq_true_eq, decide_eq_false_iff_not] at hq)
  all_goals first
    | (exfalso; omega)
    | (exfalso; have h3 := hR (by omega); have h4 : r = false := (by assumption); rw [h3] at h4; cases h4)
    | (refine e_sv (by first | exact .inl rfl | exact .inr rfl) rfl (by repeat (first | exact List.Sublist.refl _ | exact List.nil_sublist _ | refine List.Sublist.cons _ ?_)) ?_; rw [Hp.out]; (repeat (first | rw [if_pos (by omega)] | rw [if_neg (by omega)])); (try rw [Hcs.out]; (repeat (first | rw [if_pos (by omega)] | rw [if_neg (by omega)])); (try rw [runeL_small _ (by omega)])); rfl)
theorem text_bad (G : Ctx) (H : List Ent) (name c mods modes : Int) (hb : ¬ keyOk name c mods) : SV Tryd.prog G 26 [keyV name c mods, .int .i64 modes] H (.tuple #[.string ⟨#[]⟩, .int .i64 1]) := by
  have cK := fun H => isRune_sv G H c
  have cT := bet_sv G
  unfold keyOk at hb
  have hb' : (0 ≤ mods ∧ mods ≤ 7) → (0 ≤ name ∧ name ≤ 26) → (name = 0 → decide (isR c) = false) ∧ (name ≠ 0 → c ≠ 0) := fun h1 h2 => ⟨fun h3 => decide_eq_false fun h4 => hb ⟨h1, h2, fun _ => h4, fun h5 => absurd h3 h5⟩, fun h3 h4 => hb ⟨h1, h2, fun h5 => absurd h5 h3, fun _ => h4⟩⟩
  generalize decide (isR c) = r at *
  have Hb := Lib.hid hb'
  clear hb hb'
  refine sv_enter2 Tryd.func26 rfl rfl rfl rfl rfl ?_
  repeat' (first | (apply g_sl; first | (apply ks_nil; refine sl_nil ?_) | (apply ks_move; refine s_move rfl rfl ?_) | (apply ks_bin; refine s_bin rfl rfl rfl ?_; first | fail | (first | (apply kb_add; first | refine bb_add ⟨by omega, by omega⟩ ?_ | refine bb_of rfl ?_) | (apply kb_sub; first | refine bb_sub ⟨by omega, by omega⟩ ?_ | refine bb_of rfl ?_) | (apply kb_rem; refine bb_rem (by omega) (by omega) ?_) | refine bb_of rfl ?_)) | (apply ks_load; first | (refine s_load rfl rfl ?_; first | refine ld_cell rfl ?_ | refine ld_whole rfl ?_ | refine ld_elem rfl ?_ | refine ld_part rfl rfl ?_) | fail) | (apply ks_asgn; refine s_asgn rfl rfl ?_) | (apply ks_pick; refine s_pick rfl rfl ?_; first | (apply kp_t; refine pk_t rfl ?_) | (apply kp_f; refine pk_f rfl ?_) | refine pk_s rfl rfl ?_) | (apply ks_field; first | refine s_field (c_field0 rfl rfl) rfl ?_ | refine s_field (c_field rfl rfl) rfl ?_) | (apply ks_un; refine s_un (y_un rfl rfl rfl) rfl ?_) | (apply ks_indexA; first | refine s_indexA (c_indexAddr rfl rfl rfl rfl (by omega) (by omega)) rfl ?_ | fail) | (apply ks_fn; first | first | refine c_callv rfl rfl rfl (cT _ _ _ _) rfl rfl ?_ | refine c_callv rfl rfl rfl (cK _) rfl rfl ?_) | (apply ks_box; refine c_box rfl rfl rfl rfl rfl rfl (fun _ => ?_)) | (apply ks_bs; first | refine c_buildSlice rfl rfl rfl rfl rfl rfl rfl rfl rfl rfl (fun _ => ?_) | fail) | (apply ks_slice; first | fail | refine s_slice (c_sliceStr rfl rfl rfl rfl (by omega) (by omega) (by omega)) rfl ?_) | (apply ks_guard; first | (refine sl_gd rfl rfl rfl rfl ?_; first | (apply gd_t) | (apply gd_ft) | (apply gd_tf) | (apply gd_dec_t <;> intro hq <;> (try (exfalso; omega))) | (apply gd_dec_f <;> intro hq <;> (try (exfalso; omega))) | (apply gd_beq_t <;> intro hq <;> (try (exfalso; omega))) | (apply gd_beq_f <;> intro hq <;> (try (exfalso; omega))) | (apply gd_bne_t <;> intro hq <;> (try (exfalso; omega))) | (apply gd_bne_f <;> intro hq <;> (try (exfalso; omega))) | (apply gd_not_t <;> intro hq) | (apply gd_not_f <;> intro hq) | (apply gd_raw_t <;> intro hq) | (apply gd_raw_f <;> intro hq)) | refine sl_skip_u rfl rfl rfl rfl rfl rfl ?_) | fail) | (apply sw_seq) | (apply at_srd) | (apply sw_skip) | (apply sw_ret) | (apply sw_exit) | (apply sw_block) | ((fail_if_success (refine g_reg (id := 3) ?_)); apply sw_region) | (refine sw_cd rfl ?_; first | (apply gd_t) | (apply gd_ft) | (apply gd_tf) | (apply gd_dec_t <;> intro hq <;> (try (exfalso; omega))) | (apply gd_dec_f <;> intro hq <;> (try (exfalso; omega))) | (apply gd_beq_t <;> intro hq <;> (try (exfalso; omega))) | (apply gd_beq_f <;> intro hq <;> (try (exfalso; omega))) | (apply gd_bne_t <;> intro hq <;> (try (exfalso; omega))) | (apply gd_bne_f <;> intro hq <;> (try (exfalso; omega))) | (apply gd_not_t <;> intro hq) | (apply gd_not_f <;> intro hq) | (apply gd_raw_t <;> intro hq) | (apply gd_raw_f <;> intro hq)) | (apply at_thn) | (apply at_thn_ret) | (apply at_thn_exit) | (apply at_inb) | (apply at_inb_ret) | (apply at_inb_exit) | refine at_inb_pass rfl ?_ | ((fail_if_success (refine g_reg (id := 3) ?_)); refine c_drawn (by kernel_rfl) ?_))
  all_goals first
    | (refine e_sv (by first | exact .inl rfl | exact .inr rfl) rfl (by repeat (first | exact List.Sublist.refl _ | exact List.nil_sublist _ | refine List.Sublist.cons _ ?_)) ?_; rfl)
    | (exfalso; simp only [decide_eq_true_eq, decide_eq_false_iff_not] at *; omega)
    | (exfalso; have h3 := Hb.out (by simp only [decide_eq_true_eq] at *; omega) (by simp only [decide_eq_true_eq] at *; omega); omega)
    | (exfalso; have h3 := (Hb.out (by simp only [decide_eq_true_eq] at *; omega) (by simp only [decide_eq_true_eq] at *; omega)).1 (by omega); have h4 : r = true := (by assumption); rw [h3] at h4; cases h4)
theorem key_names (name : Int) (h : 0 ≤ name ∧ name ≤ 26) : (∃ L, (name, L) ∈ [((1 : Int), (65 : Int)), (2, 66), (3, 67), (4, 68), (5, 72), (6, 70)]) ∨ (∃ n : Nat, (name, n) ∈ [((7 : Int), (2 : Nat)), (8, 3), (9, 5), (10, 6), (15, 15), (16, 17), (17, 18), (18, 19), (19, 20), (20, 21), (21, 23), (22, 24)]) ∨ (∃ L, (name, L) ∈ [((11 : Int), (80 : Int)), (12, 81), (13, 82), (14, 83)]) ∨ (23 ≤ name ∧ name ≤ 26 ∨ name = 0) := by
  obtain ⟨k, rfl⟩ : ∃ k : Nat, name = k := ⟨name.toNat, by omega⟩
  have hk : k ≤ 26 := by omega
  match k, hk with
  | 0, _ => exact .inr (.inr (.inr (.inr rfl)))
  | 1, _ => exact .inl ⟨65, by decide⟩
  | 2, _ => exact .inl ⟨66, by decide⟩
  | 3, _ => exact .inl ⟨67, by decide⟩
  | 4, _ => exact .inl ⟨68, by decide⟩
  | 5, _ => exact .inl ⟨72, by decide⟩
  | 6, _ => exact .inl ⟨70, by decide⟩
  | 7, _ => exact .inr (.inl ⟨2, by decide⟩)
  | 8, _ => exact .inr (.inl ⟨3, by decide⟩)
  | 9, _ => exact .inr (.inl ⟨5, by decide⟩)
  | 10, _ => exact .inr (.inl ⟨6, by decide⟩)
  | 11, _ => exact .inr (.inr (.inl ⟨80, by decide⟩))
  | 12, _ => exact .inr (.inr (.inl ⟨81, by decide⟩))
  | 13, _ => exact .inr (.inr (.inl ⟨82, by decide⟩))
  | 14, _ => exact .inr (.inr (.inl ⟨83, by decide⟩))
  | 15, _ => exact .inr (.inl ⟨15, by decide⟩)
  | 16, _ => exact .inr (.inl ⟨17, by decide⟩)
  | 17, _ => exact .inr (.inl ⟨18, by decide⟩)
  | 18, _ => exact .inr (.inl ⟨19, by decide⟩)
  | 19, _ => exact .inr (.inl ⟨20, by decide⟩)
  | 20, _ => exact .inr (.inl ⟨21, by decide⟩)
  | 21, _ => exact .inr (.inl ⟨23, by decide⟩)
  | 22, _ => exact .inr (.inl ⟨24, by decide⟩)
  | 23, _ => exact .inr (.inr (.inr (.inl (by decide))))
  | 24, _ => exact .inr (.inr (.inr (.inl (by decide))))
  | 25, _ => exact .inr (.inr (.inr (.inl (by decide))))
  | 26, _ => exact .inr (.inr (.inr (.inl (by decide))))
/-- Both answer the same. -/
theorem key_both (G : Ctx) (name c mods modes : Int) : ∃ (r : ByteArray) (e : Int), (∀ H, SV Tryd.prog G 25 [keyV name c mods, .int .i64 modes] H (.tuple #[.string r, .int .i64 e])) ∧ (∀ H, SV Tryd.prog G 26 [keyV name c mods, .int .i64 modes] H (.tuple #[.string r, .int .i64 e])) := by
  by_cases hk : keyOk name c mods
  · obtain ⟨hm, hn, h0, h1⟩ := hk
    rcases key_names name hn with ⟨L, hL⟩ | ⟨n, hL⟩ | ⟨L, hL⟩ | hE
    · have hc : c = 0 := h1 (by simp only [List.mem_cons, Prod.mk.injEq, List.not_mem_nil, or_false] at hL; omega)
      subst hc
      obtain ⟨q, rfl⟩ : ∃ q : Nat, mods = q := ⟨mods.toNat, by omega⟩
      exact ⟨_, _, fun H => keyA_sv G H name L q modes _ rfl hL (by omega), fun H => textA_sv G H name L q modes _ rfl hL (by omega)⟩
    · have hc : c = 0 := h1 (by simp only [List.mem_cons, Prod.mk.injEq, List.not_mem_nil, or_false] at hL; omega)
      subst hc
      obtain ⟨q, rfl⟩ : ∃ q : Nat, mods = q := ⟨mods.toNat, by omega⟩
      exact ⟨_, _, fun H => keyB_sv G H name n q modes hL (by omega), fun H => textB_sv G H name n q modes hL (by omega)⟩
    · have hc : c = 0 := h1 (by simp only [List.mem_cons, Prod.mk.injEq, List.not_mem_nil, or_false] at hL; omega)
      subst hc
      obtain ⟨q, rfl⟩ : ∃ q : Nat, mods = q := ⟨mods.toNat, by omega⟩
      exact ⟨_, _, fun H => keyC_sv G H name L q modes hL (by omega), fun H => textC_sv G H name L q modes hL (by omega)⟩
    · exact ⟨_, _, fun H => keyE_sv G H name c mods _ _ _ modes hm hE h0 h1 rfl rfl rfl, fun H => textE_sv G H name c mods _ _ _ modes hm hE h0 h1 rfl rfl rfl⟩
  · exact ⟨_, _, fun H => key_bad G H name c mods modes hk, fun H => text_bad G H name c mods modes hk⟩
end Go.Proofs.YteicfkhaaeoheaaDoor
