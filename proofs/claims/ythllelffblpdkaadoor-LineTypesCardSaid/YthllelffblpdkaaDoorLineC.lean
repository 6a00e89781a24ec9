/- line.Check: walk. -/
import Derived.Test.YthllelffblpdkaaDoorLineP
namespace Go.Proofs.YthllelffblpdkaaDoor
open Go Go.RowKit Go.Fw Go.Sx
set_option maxRecDepth 100000
set_option maxHeartbeats 1000000
attribute [local irreducible] SW SL SQ AtQ SV SC BB LD PK Yields SO SOT SOA SY
theorem lineCheck_sv (G : Ctx) (H : List Ent) (s0 : ByteArray) (q : Bool) : SV Tryd.prog G 50 [.agg #[.string s0, .bool q]] H (.int .i64 (if 1024 ≤ s0.size then 2 else 0)) := by
  refine sv_enter1 Tryd.func50 rfl rfl rfl rfl rfl ?_
  repeat' (first | (apply g_sl; first | (apply ks_nil; refine sl_nil ?_) | (apply ks_bin; refine s_bin rfl rfl rfl ?_; first | fail | (first | refine bb_of rfl ?_)) | (apply ks_load; first | (refine s_load rfl rfl ?_; first | refine ld_cell rfl ?_ | refine ld_whole rfl ?_ | refine ld_elem rfl ?_ | refine ld_part rfl rfl ?_) | fail) | (apply ks_asgn; refine s_asgn rfl rfl ?_) | (apply ks_field; first | refine s_field (c_field0 rfl rfl) rfl ?_ | refine s_field (c_field rfl rfl) rfl ?_) | (apply ks_bi; first | fail | refine s_call (c_len rfl rfl) rfl ?_ | refine s_call (c_len_str rfl rfl) rfl ?_ | refine s_call (c_bi rfl rfl rfl rfl) rfl ?_ | refine c_append rfl rfl rfl rfl (by first | rfl | simp [ints]) (by first | rfl | exact ints_one _ | exact octs_one _ | exact strs_one _) (by omega) rfl rfl (fun _ _ => ?_) | refine c_append_nil rfl rfl rfl rfl (by first | rfl | simp [ints]) (by first | rfl | exact ints_one _ | exact octs_one _ | exact strs_one _) (by omega) rfl rfl (fun _ _ => ?_)) | (apply ks_box; refine c_box rfl rfl rfl rfl rfl rfl (fun _ => ?_)) | fail) | (apply sw_seq) | (apply at_srd) | (apply sw_skip) | (apply sw_ret) | (apply sw_exit) | (apply sw_block) | (apply sw_region) | (refine sw_cd rfl ?_; first | (apply gd_t) | (apply gd_ft) | (apply gd_tf) | (apply gd_dec_t <;> intro hq <;> (try (exfalso; omega))) | (apply gd_dec_f <;> intro hq <;> (try (exfalso; omega))) | (apply gd_beq_t <;> intro hq <;> (try (exfalso; omega))) | (apply gd_beq_f <;> intro hq <;> (try (exfalso; omega))) | (apply gd_bne_t <;> intro hq <;> (try (exfalso; omega))) | (apply gd_bne_f <;> intro hq <;> (try (exfalso; omega))) | (apply gd_not_t <;> intro hq) | (apply gd_not_f <;> intro hq) | (apply gd_raw_t <;> intro hq) | (apply gd_raw_f <;> intro hq)) | (apply at_thn) | (apply at_thn_ret) | (apply at_thn_exit) | (apply at_inb) | (apply at_inb_ret) | (apply at_inb_exit) | refine at_inb_pass rfl ?_ | refine c_drawn (by kernel_rfl) ?_)
  · refine e_sv (by first | exact .inl rfl | exact .inr rfl) rfl (by repeat (first | exact List.Sublist.refl _ | exact List.nil_sublist _ | refine List.Sublist.cons _ ?_)) ?_
    rw [if_pos (by omega)]
    rfl
  · refine e_sv (by first | exact .inl rfl | exact .inr rfl) rfl (by repeat (first | exact List.Sublist.refl _ | exact List.nil_sublist _ | refine List.Sublist.cons _ ?_)) ?_
    rw [if_neg (by omega)]
    rfl
end Go.Proofs.YthllelffblpdkaaDoor
