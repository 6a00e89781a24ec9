/- utf.need, utf.longest, utf.Check, utf.Flush, farref.runeValue, farref.Whole: walks. -/
import Derived.Test.YteicfkhaaeoheaaDoorUtf
import Derived.Test.YteicfkhaaeoheaaDoorSxp
import Derived.Test.YteicfkhaaeoheaaDoorRunes
import Derived.Test.YteicfkhaaeoheaaDoorPaste
import Derived.Test.YteicfkhaaeoheaaDoorGridA
namespace Go.Proofs.YteicfkhaaeoheaaDoor
open Go Go.RowKit Go.Fw Go.Sx
set_option maxRecDepth 100000
set_option maxHeartbeats 1000000
attribute [local irreducible] SW SL SQ AtQ SV SC BB LD PK Yields SO SOT SOA SY
def isR (c : Int) : Prop := (0 ≤ c ∧ c ≤ 55295) ∨ (57344 ≤ c ∧ c ≤ 1114111)
theorem wf_1 {a : Int} (h1 : 0 ≤ a ∧ a < 256) : (isR (a % 128) ∧ runeL (a % 128) = [a]) ↔ wfU [a] = true := by
  unfold isR runeL wfU
  rw [decide_eq_true_eq, if_pos (by omega)]
  simp only [List.cons.injEq, and_true]
  omega
theorem wf_2 {a b : Int} (h1 : 0 ≤ a ∧ a < 256) (h2 : 0 ≤ b ∧ b < 256) (h3 : b / 64 = 2) : (isR (64 * (a % 64) + b % 64) ∧ runeL (64 * (a % 64) + b % 64) = [a, b]) ↔ wfU [a, b] = true := by
  unfold isR runeL wfU
  rw [decide_eq_true_eq]
  split
  · simp; omega
  · split
    · simp only [List.cons.injEq, and_true]; omega
    · split <;> (simp; omega)
theorem wf_3 {a b c : Int} (h1 : 0 ≤ a ∧ a < 256) (h2 : 0 ≤ b ∧ b < 256) (h3 : b / 64 = 2) (h4 : 0 ≤ c ∧ c < 256) (h5 : c / 64 = 2) : (isR (64 * (64 * (a % 32) + b % 64) + c % 64) ∧ runeL (64 * (64 * (a % 32) + b % 64) + c % 64) = [a, b, c]) ↔ wfU [a, b, c] = true := by
  unfold isR runeL wfU
  rw [decide_eq_true_eq]
  split
  · simp; omega
  · split
    · simp; omega
    · split
      · simp only [List.cons.injEq, and_true]; omega
      · simp; omega
theorem wf_4 {a b c d : Int} (h1 : 0 ≤ a ∧ a < 256) (h2 : 0 ≤ b ∧ b < 256) (h3 : b / 64 = 2) (h4 : 0 ≤ c ∧ c < 256) (h5 : c / 64 = 2) (h6 : 0 ≤ d ∧ d < 256) (h7 : d / 64 = 2) : (isR (64 * (64 * (64 * (a % 16) + b % 64) + c % 64) + d % 64) ∧ runeL (64 * (64 * (64 * (a % 16) + b % 64) + c % 64) + d % 64) = [a, b, c, d]) ↔ wfU [a, b, c, d] = true := by
  unfold isR runeL wfU
  rw [decide_eq_true_eq]
  split
  · simp; omega
  · split
    · simp; omega
    · split
      · simp; omega
      · simp only [List.cons.injEq, and_true]; omega
instance (c : Int) : Decidable (isR c) := by unfold isR; infer_instance
theorem need_sv (G : Ctx) (H : List Ent) (c : Int) (h : 0 ≤ c ∧ c ≤ 255) : SV Tryd.prog G 96 [.int .u8 c] H (.tuple #[.int .i64 (needU c).1, .int .u8 (needU c).2.1, .int .u8 (needU c).2.2]) := by
  refine sv_enter1 Tryd.func96 rfl rfl rfl rfl rfl ?_
  rcases needU_ways c with ⟨h1, h2, hn⟩ | ⟨h1, hn⟩ | ⟨h1, hn⟩ | ⟨h1, h2, h3, hn⟩ | ⟨h1, hn⟩ | ⟨h1, hn⟩ | ⟨h1, h2, hn⟩ | ⟨h1, hn⟩
  all_goals
    rw [hn]
    clear hn
    repeat' (first | (apply g_sl; first | (apply ks_nil; refine sl_nil ?_) | (apply ks_move; refine s_move rfl rfl ?_) | (apply ks_bin; refine s_bin rfl rfl rfl ?_; first | fail | (first | refine bb_of rfl ?_)) | (apply ks_asgn; refine s_asgn rfl rfl ?_) | (apply ks_pick; refine s_pick rfl rfl ?_; first | (apply kp_t; refine pk_t rfl ?_) | (apply kp_f; refine pk_f rfl ?_) | refine pk_s rfl rfl ?_) | (apply ks_guard; first | (refine sl_gd rfl rfl rfl rfl ?_; first | (apply gd_t) | (apply gd_ft) | (apply gd_tf) | (apply gd_dec_t <;> intro hq <;> (try (exfalso; omega))) | (apply gd_dec_f <;> intro hq <;> (try (exfalso; omega))) | (apply gd_beq_t <;> intro hq <;> (try (exfalso; omega))) | (apply gd_beq_f <;> intro hq <;> (try (exfalso; omega))) | (apply gd_bne_t <;> intro hq <;> (try (exfalso; omega))) | (apply gd_bne_f <;> intro hq <;> (try (exfalso; omega))) | (apply gd_not_t <;> intro hq) | (apply gd_not_f <;> intro hq) | (apply gd_raw_t <;> intro hq) | (apply gd_raw_f <;> intro hq)) | refine sl_skip_u rfl rfl rfl rfl rfl rfl ?_) | fail) | (apply sw_seq) | (apply at_srd) | (apply sw_skip) | (apply sw_ret) | (apply sw_exit) | (apply sw_block) | (apply sw_region) | (refine sw_cd rfl ?_; first | (apply gd_t) | (apply gd_ft) | (apply gd_tf) | (apply gd_dec_t <;> intro hq <;> (try (exfalso; omega))) | (apply gd_dec_f <;> intro hq <;> (try (exfalso; omega))) | (apply gd_beq_t <;> intro hq <;> (try (exfalso; omega))) | (apply gd_beq_f <;> intro hq <;> (try (exfalso; omega))) | (apply gd_bne_t <;> intro hq <;> (try (exfalso; omega))) | (apply gd_bne_f <;> intro hq <;> (try (exfalso; omega))) | (apply gd_not_t <;> intro hq) | (apply gd_not_f <;> intro hq) | (apply gd_raw_t <;> intro hq) | (apply gd_raw_f <;> intro hq)) | (apply at_thn) | (apply at_thn_ret) | (apply at_thn_exit) | (apply at_inb) | (apply at_inb_ret) | (apply at_inb_exit) | refine at_inb_pass rfl ?_ | refine c_drawn (by kernel_rfl) ?_)
    all_goals first | (exfalso; omega) | (refine e_sv (by first | exact .inl rfl | exact .inr rfl) rfl (by repeat (first | exact List.Sublist.refl _ | exact List.nil_sublist _ | refine List.Sublist.cons _ ?_)) ?_; rfl)
theorem longest_sv (G : Ctx) (H : List Ent) (s : ByteArray) (h : 0 < s.size) (hm : s.size ≤ 9223372036854775807) : SV Tryd.prog G 49 [.string s] H (.tuple #[.int .i64 (longU (nums s)).1, .bool (longU (nums s)).2]) := by
  have hl := nums_length s
  have hbd : ∀ k, k < s.size → 0 ≤ (nums s).getD k 0 ∧ (nums s).getD k 0 ≤ 255 := fun k hk => by
    have := nums_bound s ((nums s).getD k 0) (by
      rw [List.getD_eq_getElem?_getD, List.getElem?_eq_getElem (by omega)]
      exact List.getElem_mem _)
    exact this
  have cN := fun H => need_sv G H ((nums s).getD 0 0) (hbd 0 h)
  have e : longU (nums s) = (if (needU ((nums s).getD 0 0)).1 = 0 then (0, false)
    else if ¬ (2 ≤ s.size ∧ (needU ((nums s).getD 0 0)).2.1 ≤ (nums s).getD 1 0 ∧ (nums s).getD 1 0 ≤ (needU ((nums s).getD 0 0)).2.2) then (1, false)
    else if ¬ (2 ≤ (needU ((nums s).getD 0 0)).1 ∧ 3 ≤ s.size ∧ 128 ≤ (nums s).getD 2 0 ∧ (nums s).getD 2 0 ≤ 191) then (2, decide ((needU ((nums s).getD 0 0)).1 < 2))
    else if ¬ (3 ≤ (needU ((nums s).getD 0 0)).1 ∧ 4 ≤ s.size ∧ 128 ≤ (nums s).getD 3 0 ∧ (nums s).getD 3 0 ≤ 191) then (3, decide ((needU ((nums s).getD 0 0)).1 < 3))
    else (4, true)) := by unfold longU; rw [hl]
  rw [e]
  have hn : (needU ((nums s).getD 0 0)).1 = 0 ∨ (needU ((nums s).getD 0 0)).1 = 1 ∨ (needU ((nums s).getD 0 0)).1 = 2 ∨ (needU ((nums s).getD 0 0)).1 = 3 := by
    rcases needU_ways ((nums s).getD 0 0) with ⟨h1, h2, hn⟩ | ⟨h1, hn⟩ | ⟨h1, hn⟩ | ⟨h1, h2, h3, hn⟩ | ⟨h1, hn⟩ | ⟨h1, hn⟩ | ⟨h1, h2, hn⟩ | ⟨h1, hn⟩ <;> rw [hn] <;> simp
  have h1b := hbd 1
  have h2b := hbd 2
  have h3b := hbd 3
  generalize needU ((nums s).getD 0 0) = nd at *
  obtain ⟨m, lo, hi⟩ := nd
  dsimp only at hn cN ⊢
  clear e hbd
  have ix := fun (k : Nat) => (rfl : (nums s).getD ((k : Int)).toNat 0 = (nums s).getD k 0)
  generalize hL1 : (nums s).getD 1 0 = b1 at *
  generalize hL2 : (nums s).getD 2 0 = b2 at *
  generalize hL3 : (nums s).getD 3 0 = b3 at *
  clear ix
  have g1 : (nums s).getD (Int.toNat 1) 0 = b1 := hL1
  have g2 : (nums s).getD (Int.toNat (1 + 1)) 0 = b2 := hL2
  have g3 : (nums s).getD (Int.toNat (1 + 1 + 1)) 0 = b3 := hL3
  rcases hn with rfl | rfl | rfl | rfl
  · refine sv_enter1 Tryd.func49 rfl rfl rfl rfl rfl ?_
    repeat' (first | (apply g_sl; first | (apply ks_nil; refine sl_nil ?_) | (apply ks_move; refine s_move rfl rfl ?_) | (apply ks_bin; refine s_bin rfl rfl rfl ?_; first | (refine s_index (c_indexNum rfl rfl rfl (by omega) (by omega)) rfl ?_) | (first | (apply kb_add; first | refine bb_add ⟨by omega, by omega⟩ ?_ | refine bb_of rfl ?_) | refine bb_of rfl ?_)) | (apply ks_asgn; refine s_asgn rfl rfl ?_) | (apply ks_pick; refine s_pick rfl rfl ?_; first | (apply kp_t; refine pk_t rfl ?_) | (apply kp_f; refine pk_f rfl ?_) | refine pk_s rfl rfl ?_) | (apply ks_extr; refine s_extr (y_extract rfl rfl rfl) rfl ?_) | (apply ks_index; first | (refine s_index (c_indexNum rfl rfl rfl (by omega) (by omega)) rfl ?_) | refine s_index (c_indexArr rfl rfl rfl (by omega) (by omega) rfl) rfl ?_ | refine s_index (c_indexArrA rfl rfl rfl (by omega) (by omega) rfl) rfl ?_ | refine s_index (c_indexStr rfl rfl rfl (by omega) rfl) rfl ?_) | (apply ks_fn; first | refine c_callv rfl rfl rfl (cN _) rfl rfl ?_) | (apply ks_bi; first | (refine s_index (c_indexNum rfl rfl rfl (by omega) (by omega)) rfl ?_) | refine s_call (c_len rfl rfl) rfl ?_ | refine s_call (c_len_str rfl rfl) rfl ?_ | refine s_call (c_bi rfl rfl rfl rfl) rfl ?_ | refine c_append rfl rfl rfl rfl (by first | rfl | simp [ints]) (by first | rfl | exact ints_one _ | exact octs_one _ | exact strs_one _) (by omega) rfl rfl (fun _ _ => ?_) | refine c_append_nil rfl rfl rfl rfl (by first | rfl | simp [ints]) (by first | rfl | exact ints_one _ | exact octs_one _ | exact strs_one _) (by omega) rfl rfl (fun _ _ => ?_)) | (apply ks_guard; first | (refine sl_gd rfl rfl rfl rfl ?_; first | (apply gd_t) | (apply gd_ft) | (apply gd_tf) | (apply gd_dec_t <;> intro hq <;> (try (exfalso; omega))) | (apply gd_dec_f <;> intro hq <;> (try (exfalso; omega))) | (apply gd_beq_t <;> intro hq <;> (try (exfalso; omega))) | (apply gd_beq_f <;> intro hq <;> (try (exfalso; omega))) | (apply gd_bne_t <;> intro hq <;> (try (exfalso; omega))) | (apply gd_bne_f <;> intro hq <;> (try (exfalso; omega))) | (apply gd_not_t <;> intro hq) | (apply gd_not_f <;> intro hq) | (apply gd_raw_t <;> intro hq) | (apply gd_raw_f <;> intro hq)) | refine sl_skip_u rfl rfl rfl rfl rfl rfl ?_) | (refine s_index (c_indexNum rfl rfl rfl (by omega) (by omega)) rfl ?_)) | (apply sw_seq) | (apply at_srd) | (apply sw_skip) | (apply sw_ret) | (apply sw_exit) | (apply sw_block) | (apply sw_region) | (refine sw_cd rfl ?_; first | (apply gd_t) | (apply gd_ft) | (apply gd_tf) | (apply gd_dec_t <;> intro hq <;> (try (exfalso; omega))) | (apply gd_dec_f <;> intro hq <;> (try (exfalso; omega))) | (apply gd_beq_t <;> intro hq <;> (try (exfalso; omega))) | (apply gd_beq_f <;> intro hq <;> (try (exfalso; omega))) | (apply gd_bne_t <;> intro hq <;> (try (exfalso; omega))) | (apply gd_bne_f <;> intro hq <;> (try (exfalso; omega))) | (apply gd_not_t <;> intro hq) | (apply gd_not_f <;> intro hq) | (apply gd_raw_t <;> intro hq) | (apply gd_raw_f <;> intro hq)) | (apply at_thn) | (apply at_thn_ret) | (apply at_thn_exit) | (apply at_inb) | (apply at_inb_ret) | (apply at_inb_exit) | refine at_inb_pass rfl ?_ | refine c_drawn (by kernel_rfl) ?_)
    all_goals first | (exfalso; omega) | (refine e_sv (by first | exact .inl rfl | exact .inr rfl) rfl (by repeat (first | exact List.Sublist.refl _ | exact List.nil_sublist _ | refine List.Sublist.cons _ ?_)) ?_; rfl)
  all_goals
    refine sv_enter1 Tryd.func49 rfl rfl rfl rfl rfl ?_
    repeat' (first | (apply g_sl; first | (apply ks_nil; refine sl_nil ?_) | (apply ks_move; refine s_move rfl rfl ?_) | (apply ks_bin; refine s_bin rfl rfl rfl ?_; first | (refine s_index (c_indexNum rfl rfl rfl (by omega) (by omega)) rfl ?_) | (first | (apply kb_add; first | refine bb_add ⟨by omega, by omega⟩ ?_ | refine bb_of rfl ?_) | refine bb_of rfl ?_)) | (apply ks_asgn; refine s_asgn rfl rfl ?_) | (apply ks_pick; refine s_pick rfl rfl ?_; first | (apply kp_t; refine pk_t rfl ?_) | (apply kp_f; refine pk_f rfl ?_) | refine pk_s rfl rfl ?_) | (apply ks_extr; refine s_extr (y_extract rfl rfl rfl) rfl ?_) | (apply ks_index; first | (refine s_index (c_indexNum rfl rfl rfl (by omega) (by omega)) rfl ?_) | refine s_index (c_indexArr rfl rfl rfl (by omega) (by omega) rfl) rfl ?_ | refine s_index (c_indexArrA rfl rfl rfl (by omega) (by omega) rfl) rfl ?_ | refine s_index (c_indexStr rfl rfl rfl (by omega) rfl) rfl ?_) | (apply ks_fn; first | refine c_callv rfl rfl rfl (cN _) rfl rfl ?_) | (apply ks_bi; first | (refine s_index (c_indexNum rfl rfl rfl (by omega) (by omega)) rfl ?_) | refine s_call (c_len rfl rfl) rfl ?_ | refine s_call (c_len_str rfl rfl) rfl ?_ | refine s_call (c_bi rfl rfl rfl rfl) rfl ?_ | refine c_append rfl rfl rfl rfl (by first | rfl | simp [ints]) (by first | rfl | exact ints_one _ | exact octs_one _ | exact strs_one _) (by omega) rfl rfl (fun _ _ => ?_) | refine c_append_nil rfl rfl rfl rfl (by first | rfl | simp [ints]) (by first | rfl | exact ints_one _ | exact octs_one _ | exact strs_one _) (by omega) rfl rfl (fun _ _ => ?_)) | (apply ks_guard; first | (refine sl_gd rfl rfl rfl rfl ?_; first | (apply gd_t) | (apply gd_ft) | (apply gd_tf) | (apply gd_dec_t <;> intro hq <;> (try (exfalso; omega))) | (apply gd_dec_f <;> intro hq <;> (try (exfalso; omega))) | (apply gd_beq_t <;> intro hq <;> (try (exfalso; omega))) | (apply gd_beq_f <;> intro hq <;> (try (exfalso; omega))) | (apply gd_bne_t <;> intro hq <;> (try (exfalso; omega))) | (apply gd_bne_f <;> intro hq <;> (try (exfalso; omega))) | (apply gd_not_t <;> intro hq) | (apply gd_not_f <;> intro hq) | (apply gd_raw_t <;> intro hq) | (apply gd_raw_f <;> intro hq)) | refine sl_skip_u rfl rfl rfl rfl rfl rfl ?_) | (refine s_index (c_indexNum rfl rfl rfl (by omega) (by omega)) rfl ?_)) | (apply sw_seq) | (apply at_srd) | (apply sw_skip) | (apply sw_ret) | (apply sw_exit) | (apply sw_block) | (apply sw_region) | (refine sw_cd rfl ?_; first | (apply gd_t) | (apply gd_ft) | (apply gd_tf) | (apply gd_dec_t <;> intro hq <;> (try (exfalso; omega))) | (apply gd_dec_f <;> intro hq <;> (try (exfalso; omega))) | (apply gd_beq_t <;> intro hq <;> (try (exfalso; omega))) | (apply gd_beq_f <;> intro hq <;> (try (exfalso; omega))) | (apply gd_bne_t <;> intro hq <;> (try (exfalso; omega))) | (apply gd_bne_f <;> intro hq <;> (try (exfalso; omega))) | (apply gd_not_t <;> intro hq) | (apply gd_not_f <;> intro hq) | (apply gd_raw_t <;> intro hq) | (apply gd_raw_f <;> intro hq)) | (apply at_thn) | (apply at_thn_ret) | (apply at_thn_exit) | (apply at_inb) | (apply at_inb_ret) | (apply at_inb_exit) | refine at_inb_pass rfl ?_ | refine c_drawn (by kernel_rfl) ?_)
    all_goals first | (exfalso; omega) | skip
    refine sw_loopN 4 (srd_succ ?_)
    repeat' (first | (apply g_sl; first | (apply ks_nil; refine sl_nil ?_) | (apply ks_move; refine s_move rfl rfl ?_) | (apply ks_bin; refine s_bin rfl rfl rfl ?_; first | (refine s_index (c_indexNum rfl rfl rfl (by omega) (by omega)) rfl ?_) | (first | (apply kb_add; first | refine bb_add ⟨by omega, by omega⟩ ?_ | refine bb_of rfl ?_) | refine bb_of rfl ?_)) | (apply ks_asgn; refine s_asgn rfl rfl ?_) | (apply ks_pick; refine s_pick rfl rfl ?_; first | (apply kp_t; refine pk_t rfl ?_) | (apply kp_f; refine pk_f rfl ?_) | refine pk_s rfl rfl ?_) | (apply ks_extr; refine s_extr (y_extract rfl rfl rfl) rfl ?_) | (apply ks_index; first | (refine s_index (c_indexNum rfl rfl rfl (by omega) (by omega)) rfl ?_) | refine s_index (c_indexArr rfl rfl rfl (by omega) (by omega) rfl) rfl ?_ | refine s_index (c_indexArrA rfl rfl rfl (by omega) (by omega) rfl) rfl ?_ | refine s_index (c_indexStr rfl rfl rfl (by omega) rfl) rfl ?_) | (apply ks_fn; first | fail) | (apply ks_bi; first | (refine s_index (c_indexNum rfl rfl rfl (by omega) (by omega)) rfl ?_) | refine s_call (c_len rfl rfl) rfl ?_ | refine s_call (c_len_str rfl rfl) rfl ?_ | refine s_call (c_bi rfl rfl rfl rfl) rfl ?_ | refine c_append rfl rfl rfl rfl (by first | rfl | simp [ints]) (by first | rfl | exact ints_one _ | exact octs_one _ | exact strs_one _) (by omega) rfl rfl (fun _ _ => ?_) | refine c_append_nil rfl rfl rfl rfl (by first | rfl | simp [ints]) (by first | rfl | exact ints_one _ | exact octs_one _ | exact strs_one _) (by omega) rfl rfl (fun _ _ => ?_)) | (apply ks_guard; first | (refine sl_gd rfl rfl rfl rfl ?_; first | (apply gd_t) | (apply gd_ft) | (apply gd_tf) | (apply gd_dec_t <;> intro hq <;> (try (exfalso; omega))) | (apply gd_dec_f <;> intro hq <;> (try (exfalso; omega))) | (apply gd_beq_t <;> intro hq <;> (try (exfalso; omega))) | (apply gd_beq_f <;> intro hq <;> (try (exfalso; omega))) | (apply gd_bne_t <;> intro hq <;> (try (exfalso; omega))) | (apply gd_bne_f <;> intro hq <;> (try (exfalso; omega))) | (apply gd_not_t <;> intro hq) | (apply gd_not_f <;> intro hq) | (apply gd_raw_t <;> intro hq) | (apply gd_raw_f <;> intro hq)) | refine sl_skip_u rfl rfl rfl rfl rfl rfl ?_) | (refine s_index (c_indexNum rfl rfl rfl (by omega) (by omega)) rfl ?_)) | (apply sw_seq) | (apply at_srd) | (apply sw_skip) | (apply sw_ret) | (apply sw_exit) | (apply sw_block) | (apply sw_region) | (refine sw_cd rfl ?_; first | (apply gd_t) | (apply gd_ft) | (apply gd_tf) | (apply gd_dec_t <;> intro hq <;> (try (exfalso; omega))) | (apply gd_dec_f <;> intro hq <;> (try (exfalso; omega))) | (apply gd_beq_t <;> intro hq <;> (try (exfalso; omega))) | (apply gd_beq_f <;> intro hq <;> (try (exfalso; omega))) | (apply gd_bne_t <;> intro hq <;> (try (exfalso; omega))) | (apply gd_bne_f <;> intro hq <;> (try (exfalso; omega))) | (apply gd_not_t <;> intro hq) | (apply gd_not_f <;> intro hq) | (apply gd_raw_t <;> intro hq) | (apply gd_raw_f <;> intro hq)) | (apply at_thn) | (apply at_thn_ret) | (apply at_thn_exit) | (apply at_inb) | (apply at_inb_ret) | (apply at_inb_exit) | refine at_inb_pass rfl ?_ | refine c_drawn (by kernel_rfl) ?_)
    all_goals first | (exfalso; omega) | (refine e_sv (by first | exact .inl rfl | exact .inr rfl) rfl (by repeat (first | exact List.Sublist.refl _ | exact List.nil_sublist _ | refine List.Sublist.cons _ ?_)) ?_; simp only [resV]; (repeat' split) <;> first | rfl | (exfalso; omega))
/-- What Check answers. -/
def chkU (L : List Int) : Int := if L = [] ∨ partU L then 0 else 4
theorem chkU_eq {L : List Int} (h : L ≠ []) : chkU L = if (longU L).2 = false ∧ (longU L).1 = L.length then 0 else 4 := by
  unfold chkU
  by_cases hp : partU L
  · rw [if_pos (.inr hp), if_pos (show (longU L).2 = false ∧ (longU L).1 = L.length from hp)]
  · rw [if_neg (fun h2 => h2.elim h hp), if_neg (show ¬ ((longU L).2 = false ∧ (longU L).1 = L.length) from hp)]
theorem nums_nil {s : ByteArray} (h : s.size = 0) : s = ⟨#[]⟩ := nums_inj (by
  have e : nums s = [] := List.eq_nil_of_length_eq_zero (by rw [nums_length, h])
  rw [e]
  rfl)
theorem utfCheck_sv (G : Ctx) (H : List Ent) (s : ByteArray) (hm : s.size ≤ 9223372036854775807) : SV Tryd.prog G 14 [.string s] H (.int .i64 (chkU (nums s))) := by
  by_cases h0 : s.size = 0
  · have hs := nums_nil h0
    subst hs
    refine sv_enter1 Tryd.func14 rfl rfl rfl rfl rfl ?_
    repeat' (first | (apply g_sl; first | (apply ks_nil; refine sl_nil ?_) | (apply ks_move; refine s_move rfl rfl ?_) | (apply ks_bin; refine s_bin rfl rfl rfl ?_; first | first | refine bb_seq ?_ | refine bb_sne ?_ | (first | refine bb_of rfl ?_)) | (apply ks_asgn; refine s_asgn rfl rfl ?_) | (apply ks_pick; refine s_pick rfl rfl ?_; first | (apply kp_t; refine pk_t rfl ?_) | (apply kp_f; refine pk_f rfl ?_) | refine pk_s rfl rfl ?_) | (apply ks_extr; refine s_extr (y_extract rfl rfl rfl) rfl ?_) | (apply ks_fn; first | fail) | (apply ks_bi; first | first | refine bb_seq ?_ | refine bb_sne ?_ | refine s_call (c_len rfl rfl) rfl ?_ | refine s_call (c_len_str rfl rfl) rfl ?_ | refine s_call (c_bi rfl rfl rfl rfl) rfl ?_ | refine c_append rfl rfl rfl rfl (by first | rfl | simp [ints]) (by first | rfl | exact ints_one _ | exact octs_one _ | exact strs_one _) (by omega) rfl rfl (fun _ _ => ?_) | refine c_append_nil rfl rfl rfl rfl (by first | rfl | simp [ints]) (by first | rfl | exact ints_one _ | exact octs_one _ | exact strs_one _) (by omega) rfl rfl (fun _ _ => ?_)) | (apply ks_guard; first | (refine sl_gd rfl rfl rfl rfl ?_; first | (apply gd_t) | (apply gd_ft) | (apply gd_tf) | (apply gd_dec_t <;> intro hq <;> (try (exfalso; omega))) | (apply gd_dec_f <;> intro hq <;> (try (exfalso; omega))) | (apply gd_beq_t <;> intro hq <;> (try (exfalso; omega))) | (apply gd_beq_f <;> intro hq <;> (try (exfalso; omega))) | (apply gd_bne_t <;> intro hq <;> (try (exfalso; omega))) | (apply gd_bne_f <;> intro hq <;> (try (exfalso; omega))) | (apply gd_not_t <;> intro hq) | (apply gd_not_f <;> intro hq) | (apply gd_raw_t <;> intro hq) | (apply gd_raw_f <;> intro hq)) | refine sl_skip_u rfl rfl rfl rfl rfl rfl ?_) | first | refine bb_seq ?_ | refine bb_sne ?_) | (apply sw_seq) | (apply at_srd) | (apply sw_skip) | (apply sw_ret) | (apply sw_exit) | (apply sw_block) | (apply sw_region) | (refine sw_cd rfl ?_; first | (apply gd_t) | (apply gd_ft) | (apply gd_tf) | (apply gd_dec_t <;> intro hq <;> (try (exfalso; omega))) | (apply gd_dec_f <;> intro hq <;> (try (exfalso; omega))) | (apply gd_beq_t <;> intro hq <;> (try (exfalso; omega))) | (apply gd_beq_f <;> intro hq <;> (try (exfalso; omega))) | (apply gd_bne_t <;> intro hq <;> (try (exfalso; omega))) | (apply gd_bne_f <;> intro hq <;> (try (exfalso; omega))) | (apply gd_not_t <;> intro hq) | (apply gd_not_f <;> intro hq) | (apply gd_raw_t <;> intro hq) | (apply gd_raw_f <;> intro hq)) | (apply at_thn) | (apply at_thn_ret) | (apply at_thn_exit) | (apply at_inb) | (apply at_inb_ret) | (apply at_inb_exit) | refine at_inb_pass rfl ?_ | refine c_drawn (by kernel_rfl) ?_)
    all_goals first | (exact absurd rfl (by assumption)) | (refine e_sv (by first | exact .inl rfl | exact .inr rfl) rfl (by repeat (first | exact List.Sublist.refl _ | exact List.nil_sublist _ | refine List.Sublist.cons _ ?_)) ?_; rfl)
  · have cL := fun H => longest_sv G H s (by omega) hm
    have hl := nums_length s
    have hne : ¬ s = ⟨#[]⟩ := fun h => h0 (by rw [h]; rfl)
    have hnn : nums s ≠ [] := fun h => h0 (by rw [← hl, h]; rfl)
    rw [chkU_eq hnn, hl]
    clear hl hnn
    generalize longU (nums s) = r at *
    obtain ⟨k, w⟩ := r
    cases w
    all_goals
      refine sv_enter1 Tryd.func14 rfl rfl rfl rfl rfl ?_
      repeat' (first | (apply g_sl; first | (apply ks_nil; refine sl_nil ?_) | (apply ks_move; refine s_move rfl rfl ?_) | (apply ks_bin; refine s_bin rfl rfl rfl ?_; first | first | refine bb_seq ?_ | refine bb_sne ?_ | (first | refine bb_of rfl ?_)) | (apply ks_asgn; refine s_asgn rfl rfl ?_) | (apply ks_pick; refine s_pick rfl rfl ?_; first | (apply kp_t; refine pk_t rfl ?_) | (apply kp_f; refine pk_f rfl ?_) | refine pk_s rfl rfl ?_) | (apply ks_extr; refine s_extr (y_extract rfl rfl rfl) rfl ?_) | (apply ks_fn; first | refine c_callv rfl rfl rfl (cL _) rfl rfl ?_) | (apply ks_bi; first | first | refine bb_seq ?_ | refine bb_sne ?_ | refine s_call (c_len rfl rfl) rfl ?_ | refine s_call (c_len_str rfl rfl) rfl ?_ | refine s_call (c_bi rfl rfl rfl rfl) rfl ?_ | refine c_append rfl rfl rfl rfl (by first | rfl | simp [ints]) (by first | rfl | exact ints_one _ | exact octs_one _ | exact strs_one _) (by omega) rfl rfl (fun _ _ => ?_) | refine c_append_nil rfl rfl rfl rfl (by first | rfl | simp [ints]) (by first | rfl | exact ints_one _ | exact octs_one _ | exact strs_one _) (by omega) rfl rfl (fun _ _ => ?_)) | (apply ks_guard; first | (refine sl_gd rfl rfl rfl rfl ?_; first | (apply gd_t) | (apply gd_ft) | (apply gd_tf) | (apply gd_dec_t <;> intro hq <;> (try (exfalso; omega))) | (apply gd_dec_f <;> intro hq <;> (try (exfalso; omega))) | (apply gd_beq_t <;> intro hq <;> (try (exfalso; omega))) | (apply gd_beq_f <;> intro hq <;> (try (exfalso; omega))) | (apply gd_bne_t <;> intro hq <;> (try (exfalso; omega))) | (apply gd_bne_f <;> intro hq <;> (try (exfalso; omega))) | (apply gd_not_t <;> intro hq) | (apply gd_not_f <;> intro hq) | (apply gd_raw_t <;> intro hq) | (apply gd_raw_f <;> intro hq)) | refine sl_skip_u rfl rfl rfl rfl rfl rfl ?_) | first | refine bb_seq ?_ | refine bb_sne ?_) | (apply sw_seq) | (apply at_srd) | (apply sw_skip) | (apply sw_ret) | (apply sw_exit) | (apply sw_block) | (apply sw_region) | (refine sw_cd rfl ?_; first | (apply gd_t) | (apply gd_ft) | (apply gd_tf) | (apply gd_dec_t <;> intro hq <;> (try (exfalso; omega))) | (apply gd_dec_f <;> intro hq <;> (try (exfalso; omega))) | (apply gd_beq_t <;> intro hq <;> (try (exfalso; omega))) | (apply gd_beq_f <;> intro hq <;> (try (exfalso; omega))) | (apply gd_bne_t <;> intro hq <;> (try (exfalso; omega))) | (apply gd_bne_f <;> intro hq <;> (try (exfalso; omega))) | (apply gd_not_t <;> intro hq) | (apply gd_not_f <;> intro hq) | (apply gd_raw_t <;> intro hq) | (apply gd_raw_f <;> intro hq)) | (apply at_thn) | (apply at_thn_ret) | (apply at_thn_exit) | (apply at_inb) | (apply at_inb_ret) | (apply at_inb_exit) | refine at_inb_pass rfl ?_ | refine c_drawn (by kernel_rfl) ?_)
      all_goals first | (exact absurd (by assumption) hne) | (exfalso; omega) | (refine e_sv (by first | exact .inl rfl | exact .inr rfl) rfl (by repeat (first | exact List.Sublist.refl _ | exact List.nil_sublist _ | refine List.Sublist.cons _ ?_)) ?_; simp [resV]; try omega)
end Go.Proofs.YteicfkhaaeoheaaDoor
