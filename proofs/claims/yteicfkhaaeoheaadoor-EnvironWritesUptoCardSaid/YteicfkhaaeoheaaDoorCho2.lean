/- choice.Ask, farref.AskFor: walks. -/
import Derived.Test.YteicfkhaaeoheaaDoorChoQ
import Derived.Test.YteicfkhaaeoheaaDoorIdxG
import Derived.Test.YteicfkhaaeoheaaDoorSlc4
import Derived.Test.YteicfkhaaeoheaaDoorShelf
namespace Go.Proofs.YteicfkhaaeoheaaDoor
open Go Go.RowKit Go.Fw Go.Sx
set_option maxRecDepth 100000
set_option maxHeartbeats 1000000
attribute [local irreducible] SW SL SQ AtQ SV SC BB LD PK Yields SO SOT SOA SY
theorem bet_sv (G : Ctx) (H : List Ent) (x lo hi : Int) : SV Tryd.prog G 59 [.int .i64 x, .int .i64 lo, .int .i64 hi] H (.bool (decide (lo ≤ x ∧ x ≤ hi))) := by have h := between_sv G H x lo hi; unfold betB at h; exact h
theorem refName1_sv (G : Ctx) (H : List Ent) (x : Int) (h : 0 ≤ x ∧ x ≤ 255) : SV Tryd.prog G 101 [.int .u8 x] H (.bool (!nameByte x)) := by
  have hb := bet_sv G H x 33 126
  refine sv_enter1 Tryd.func101 rfl rfl rfl rfl rfl ?_
  repeat' (first | (apply g_sl; first | (apply ks_nil; refine sl_nil ?_) | (apply ks_move; refine s_move rfl rfl ?_) | (apply ks_asgn; refine s_asgn rfl rfl ?_) | (apply ks_un; refine s_un (y_un rfl rfl rfl) rfl ?_) | (apply ks_conv; first | fail | refine s_conv (c_conv (k := .i64) rfl rfl ⟨by omega, by omega⟩) rfl ?_ | refine s_conv (c_conv (k := .u8) rfl rfl ⟨by omega, by omega⟩) rfl ?_ | refine s_conv (c_conv (k := .u64) rfl rfl ⟨by omega, by omega⟩) rfl ?_ | refine s_conv (c_convw rfl rfl) rfl ?_) | (apply ks_fn; first | refine c_callv rfl rfl rfl (hb) rfl rfl ?_) | fail) | (apply sw_seq) | (apply at_srd) | (apply sw_skip) | (apply sw_ret) | (apply sw_exit) | (apply sw_block) | (apply sw_region) | (refine sw_cd rfl ?_; first | (apply gd_t) | (apply gd_ft) | (apply gd_tf) | (apply gd_dec_t <;> intro hq <;> (try (exfalso; omega))) | (apply gd_dec_f <;> intro hq <;> (try (exfalso; omega))) | (apply gd_beq_t <;> intro hq <;> (try (exfalso; omega))) | (apply gd_beq_f <;> intro hq <;> (try (exfalso; omega))) | (apply gd_bne_t <;> intro hq <;> (try (exfalso; omega))) | (apply gd_bne_f <;> intro hq <;> (try (exfalso; omega))) | (apply gd_not_t <;> intro hq) | (apply gd_not_f <;> intro hq) | (apply gd_raw_t <;> intro hq) | (apply gd_raw_f <;> intro hq)) | (apply at_thn) | (apply at_thn_ret) | (apply at_thn_exit) | (apply at_inb) | (apply at_inb_ret) | (apply at_inb_exit) | refine at_inb_pass rfl ?_ | refine c_drawn (by kernel_rfl) ?_)
  refine e_sv (by first | exact .inl rfl | exact .inr rfl) rfl (by repeat (first | exact List.Sublist.refl _ | exact List.nil_sublist _ | refine List.Sublist.cons _ ?_)) ?_
  rfl
theorem refName_sv (G : Ctx) (H : List Ent) (s : ByteArray) (hm : s.size ≤ maxLen) : SV Tryd.prog G 60 [.string s] H (.bool (nameB s)) := by
  have hm' : s.size ≤ 9223372036854775807 := hm
  have hb := bet_sv G
  have he : nameB s = (decide (1 ≤ (s.size : Int) ∧ (s.size : Int) ≤ 40) && !((nums s).any fun x => !nameByte x)) := by
    unfold nameB
    rw [List.all_eq_not_any_not]
    congr 1
    rw [decide_eq_decide]; omega
  have hc := fun (H : List Ent) (a : Option Addr) (c : Nat) (_ : RdC G H a (octs (nums s))) => hasByteG_sv G H 101 [] (fun x => !nameByte x) (nums s) a s.size c rfl (by rw [nums_length]) (by rw [nums_length]; exact hm) (fun x hx => refName1_sv G H x (nums_bound s x hx))
  generalize ((nums s).any fun x => !nameByte x) = q at *
  rw [he]
  clear he hm
  refine sv_enter1 Tryd.func60 rfl rfl rfl rfl rfl ?_
  repeat' (first | (apply g_sl; first | (apply ks_nil; refine sl_nil ?_) | (apply ks_move; refine s_move rfl rfl ?_) | (apply ks_asgn; refine s_asgn rfl rfl ?_) | (apply ks_pick; refine s_pick rfl rfl ?_; first | (apply kp_t; refine pk_t rfl ?_) | (apply kp_f; refine pk_f rfl ?_) | refine pk_s rfl rfl ?_) | (apply ks_un; refine s_un (y_un rfl rfl rfl) rfl ?_) | (apply ks_conv; first | refine c_convSb rfl rfl rfl rfl rfl (fun _ _ _ => ?_) | refine s_conv (c_conv (k := .i64) rfl rfl ⟨by omega, by omega⟩) rfl ?_ | refine s_conv (c_conv (k := .u8) rfl rfl ⟨by omega, by omega⟩) rfl ?_ | refine s_conv (c_conv (k := .u64) rfl rfl ⟨by omega, by omega⟩) rfl ?_ | refine s_conv (c_convw rfl rfl) rfl ?_) | (apply ks_fn; first | first | refine c_callv rfl rfl rfl (hb _ _ _ _) rfl rfl ?_ | refine c_callv rfl rfl rfl (hc _ _ _ inferInstance) rfl rfl ?_) | (apply ks_bi; first | refine c_convSb rfl rfl rfl rfl rfl (fun _ _ _ => ?_) | refine s_call (c_len rfl rfl) rfl ?_ | refine s_call (c_len_str rfl rfl) rfl ?_ | refine s_call (c_bi rfl rfl rfl rfl) rfl ?_ | refine c_append rfl rfl rfl rfl (by first | rfl | simp [ints]) (by first | rfl | exact ints_one _ | exact octs_one _ | exact strs_one _) (by omega) rfl rfl (fun _ _ => ?_) | refine c_append_nil rfl rfl rfl rfl (by first | rfl | simp [ints]) (by first | rfl | exact ints_one _ | exact octs_one _ | exact strs_one _) (by omega) rfl rfl (fun _ _ => ?_)) | (apply ks_guard; first | (refine sl_gd rfl rfl rfl rfl ?_; first | (apply gd_t) | (apply gd_ft) | (apply gd_tf) | (apply gd_dec_t <;> intro hq <;> (try (exfalso; omega))) | (apply gd_dec_f <;> intro hq <;> (try (exfalso; omega))) | (apply gd_beq_t <;> intro hq <;> (try (exfalso; omega))) | (apply gd_beq_f <;> intro hq <;> (try (exfalso; omega))) | (apply gd_bne_t <;> intro hq <;> (try (exfalso; omega))) | (apply gd_bne_f <;> intro hq <;> (try (exfalso; omega))) | (apply gd_not_t <;> intro hq) | (apply gd_not_f <;> intro hq) | (apply gd_raw_t <;> intro hq) | (apply gd_raw_f <;> intro hq)) | refine sl_skip_u rfl rfl rfl rfl rfl rfl ?_) | refine c_convSb rfl rfl rfl rfl rfl (fun _ _ _ => ?_)) | (apply sw_seq) | (apply at_srd) | (apply sw_skip) | (apply sw_ret) | (apply sw_exit) | (apply sw_block) | (apply sw_region) | (refine sw_cd rfl ?_; first | (apply gd_t) | (apply gd_ft) | (apply gd_tf) | (apply gd_dec_t <;> intro hq <;> (try (exfalso; omega))) | (apply gd_dec_f <;> intro hq <;> (try (exfalso; omega))) | (apply gd_beq_t <;> intro hq <;> (try (exfalso; omega))) | (apply gd_beq_f <;> intro hq <;> (try (exfalso; omega))) | (apply gd_bne_t <;> intro hq <;> (try (exfalso; omega))) | (apply gd_bne_f <;> intro hq <;> (try (exfalso; omega))) | (apply gd_not_t <;> intro hq) | (apply gd_not_f <;> intro hq) | (apply gd_raw_t <;> intro hq) | (apply gd_raw_f <;> intro hq)) | (apply at_thn) | (apply at_thn_ret) | (apply at_thn_exit) | (apply at_inb) | (apply at_inb_ret) | (apply at_inb_exit) | refine at_inb_pass rfl ?_ | refine c_drawn (by kernel_rfl) ?_)
  · refine e_sv (by first | exact .inl rfl | exact .inr rfl) rfl (by repeat (first | exact List.Sublist.refl _ | exact List.nil_sublist _ | refine List.Sublist.cons _ ?_)) ?_
    rw [decide_eq_true hq]; rfl
  · refine e_sv (by first | exact .inl rfl | exact .inr rfl) rfl (by repeat (first | exact List.Sublist.refl _ | exact List.nil_sublist _ | refine List.Sublist.cons _ ?_)) ?_
    rw [decide_eq_false hq]; rfl
end Go.Proofs.YteicfkhaaeoheaaDoor
