/- slices.Clone of strings, about.Answer, farref.Walked: walks. -/
import Derived.Test.YtgcnfcgnkfkpeaaSorts2
import Derived.Test.YtgcnfcgnkfkpeaaSx15
namespace Go.Proofs.Ytgcnfcgnkfkpeaa
open Go Go.RowKit Go.Fw Go.Sx
set_option maxRecDepth 100000
set_option maxHeartbeats 1000000
attribute [local irreducible] SW SL SQ AtQ SV SC BB LD PK Yields SO SOT SOA SY
theorem cloneInts_sc (G : Ctx) (H : List Ent) (l : List Int) (a : Option Addr) (n c : Nat) (hn : n = l.length) (hm : n ≤ 1000000000000) [hr : RdC G H a (ints l)] : SC Try.prog G 53 [.slice a n c] H (fun v H' => ∃ a' c', v = .slice a' n c' ∧ H' = .own 3 1 a' n c' (ints l) :: H) := by
  have hlx : (ints l).length = n * 1 := by simp [ints, hn]
  have hone : (ints l).all (·.oneCell') = true := by simp [ints]; intro x _; rfl
  refine sc_here (callee_of Try.func53 rfl rfl) fun w0 hw0 => ?_
  cases a with
  | none =>
    have h0 := At.none_nil (hr.here w0 hw0)
    obtain rfl : l = [] := by simpa [ints] using h0
    obtain rfl : n = 0 := hn
    clear h0 hlx hone
    refine sc_enter1 Try.func53 rfl rfl rfl rfl rfl ?_
    repeat' (first | (apply g_sl; first | (apply ks_nil; refine sl_nil ?_) | (apply ks_move; refine s_move rfl rfl ?_) | (apply ks_bin; refine s_bin rfl rfl rfl ?_; first | first | refine bb_enil ?_ | (first | refine bb_of rfl ?_)) | (apply ks_asgn; refine s_asgn rfl rfl ?_) | (apply ks_bi; first | first | refine bb_enil ?_ | refine s_call (c_len rfl rfl) rfl ?_ | refine s_call (c_len_str rfl rfl) rfl ?_ | refine s_call (c_bi rfl rfl rfl rfl) rfl ?_ | refine c_append rfl rfl rfl rfl (by first | rfl | simp [ints]) (by first | rfl | exact ints_one _ | exact octs_one _ | exact strs_one _) (by omega) rfl rfl (fun _ _ => ?_) | refine c_append_nil rfl rfl rfl rfl (by first | rfl | simp [ints]) (by first | rfl | exact ints_one _ | exact octs_one _ | exact strs_one _) (by omega) rfl rfl (fun _ _ => ?_)) | (apply ks_bs; first | refine c_buildSlice rfl rfl rfl rfl rfl rfl rfl rfl rfl rfl (fun _ => ?_) | first | refine bb_enil ?_) | first | refine bb_enil ?_) | (apply sw_seq) | (apply at_srd) | (apply sw_skip) | (apply sw_ret) | (apply sw_exit) | (apply sw_block) | (apply sw_region) | (refine sw_cd rfl ?_; first | (apply gd_t) | (apply gd_ft) | (apply gd_tf) | (apply gd_dec_t <;> intro hq <;> (try (exfalso; omega))) | (apply gd_dec_f <;> intro hq <;> (try (exfalso; omega))) | (apply gd_beq_t <;> intro hq <;> (try (exfalso; omega))) | (apply gd_beq_f <;> intro hq <;> (try (exfalso; omega))) | (apply gd_bne_t <;> intro hq <;> (try (exfalso; omega))) | (apply gd_bne_f <;> intro hq <;> (try (exfalso; omega))) | (apply gd_not_t <;> intro hq) | (apply gd_not_f <;> intro hq) | (apply gd_raw_t <;> intro hq) | (apply gd_raw_f <;> intro hq)) | (apply at_thn) | (apply at_thn_ret) | (apply at_thn_exit) | (apply at_inb) | (apply at_inb_ret) | (apply at_inb_exit) | refine at_inb_pass rfl ?_ | refine c_drawn (by kernel_rfl) ?_)
    · exact e_scf (.own 3 1 none 0 0 [] :: H) (.inr rfl) rfl (fun _ hw => hw.nilrow _ _) ⟨_, _, rfl, rfl⟩
  | some a =>
    clear hn
    refine sc_enter1 Try.func53 rfl rfl rfl rfl rfl ?_
    repeat' (first | (apply g_sl; first | (apply ks_nil; refine sl_nil ?_) | (apply ks_move; refine s_move rfl rfl ?_) | (apply ks_bin; refine s_bin rfl rfl rfl ?_; first | first | refine bb_enil ?_ | (refine c_bsl0 rfl rfl rfl rfl (fun _ => ?_)) | (refine c_append rfl rfl rfl rfl hlx hone (by omega) rfl rfl (fun _ _ => ?_)) | (first | refine bb_of rfl ?_)) | (apply ks_asgn; refine s_asgn rfl rfl ?_) | (apply ks_bi; first | first | refine bb_enil ?_ | (refine c_bsl0 rfl rfl rfl rfl (fun _ => ?_)) | (refine c_append rfl rfl rfl rfl hlx hone (by omega) rfl rfl (fun _ _ => ?_)) | refine s_call (c_len rfl rfl) rfl ?_ | refine s_call (c_len_str rfl rfl) rfl ?_ | refine s_call (c_bi rfl rfl rfl rfl) rfl ?_ | refine c_append rfl rfl rfl rfl (by first | rfl | simp [ints]) (by first | rfl | exact ints_one _ | exact octs_one _ | exact strs_one _) (by omega) rfl rfl (fun _ _ => ?_) | refine c_append_nil rfl rfl rfl rfl (by first | rfl | simp [ints]) (by first | rfl | exact ints_one _ | exact octs_one _ | exact strs_one _) (by omega) rfl rfl (fun _ _ => ?_)) | (apply ks_bs; first | refine c_buildSlice rfl rfl rfl rfl rfl rfl rfl rfl rfl rfl (fun _ => ?_) | first | refine bb_enil ?_ | (refine c_bsl0 rfl rfl rfl rfl (fun _ => ?_)) | (refine c_append rfl rfl rfl rfl hlx hone (by omega) rfl rfl (fun _ _ => ?_))) | first | refine bb_enil ?_ | (refine c_bsl0 rfl rfl rfl rfl (fun _ => ?_)) | (refine c_append rfl rfl rfl rfl hlx hone (by omega) rfl rfl (fun _ _ => ?_))) | (apply sw_seq) | (apply at_srd) | (apply sw_skip) | (apply sw_ret) | (apply sw_exit) | (apply sw_block) | (apply sw_region) | (refine sw_cd rfl ?_; first | (apply gd_t) | (apply gd_ft) | (apply gd_tf) | (apply gd_dec_t <;> intro hq <;> (try (exfalso; omega))) | (apply gd_dec_f <;> intro hq <;> (try (exfalso; omega))) | (apply gd_beq_t <;> intro hq <;> (try (exfalso; omega))) | (apply gd_beq_f <;> intro hq <;> (try (exfalso; omega))) | (apply gd_bne_t <;> intro hq <;> (try (exfalso; omega))) | (apply gd_bne_f <;> intro hq <;> (try (exfalso; omega))) | (apply gd_not_t <;> intro hq) | (apply gd_not_f <;> intro hq) | (apply gd_raw_t <;> intro hq) | (apply gd_raw_f <;> intro hq)) | (apply at_thn) | (apply at_thn_ret) | (apply at_thn_exit) | (apply at_inb) | (apply at_inb_ret) | (apply at_inb_exit) | refine at_inb_pass rfl ?_ | refine c_drawn (by kernel_rfl) ?_)
    refine e_sc _ (.inr rfl) rfl (List.Sublist.refl _) ?_
    simp only [Nat.zero_add, List.nil_append]
    exact ⟨_, _, rfl, rfl⟩
end Go.Proofs.Ytgcnfcgnkfkpeaa
