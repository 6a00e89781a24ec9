/- slices.Repeat of one element: its walk. -/
import Derived.Test.YtgcnfcgnkfkpeaaSxp
import Derived.Test.YtgcnfcgnkfkpeaaSxB
namespace Go.Proofs.Ytgcnfcgnkfkpeaa
open Go Go.RowKit Go.Fw Go.Sx
set_option maxRecDepth 100000
set_option maxHeartbeats 1000000
attribute [local irreducible] SW SL SQ AtQ SV SC BB LD PK Yields SO SOT SOA SY
theorem mul64_sv (G : Ctx) (H : List Ent) (k : Int) (hk : 0 ≤ k ∧ k < 2147483648) : SV Try.prog G 152 [.int .u64 1, .int .u64 k] H (.tuple #[.int .u64 0, .int .u64 k]) := by
  refine sv_enter2 Try.func152 rfl rfl rfl rfl rfl ?_
  repeat' (first | (apply g_sl; first | (apply ks_nil; refine sl_nil ?_) | (apply ks_move; refine s_move rfl rfl ?_) | (apply ks_bin; refine s_bin rfl rfl rfl ?_; first | refine bb_and32 (by omega) (by omega) ?_ | (first | (apply kb_add; first | refine bb_add ⟨by omega, by omega⟩ ?_ | refine bb_of rfl ?_) | (apply kb_mul; first | refine bb_mul ⟨by omega, by omega⟩ ?_ | refine bb_of rfl ?_) | (apply kb_and; first | refine bb_mask rfl rfl (by omega) (by omega) ?_ | refine bb_and (by first | omega | apply iand_nn | apply iclr_nn | apply ior_nn) (by first | omega | (apply iand_l <;> omega) | (apply iclr_l; (apply iand_nn); (apply iand_l <;> omega)) | (apply iclr_l <;> omega) | (apply ior_lt63 <;> omega)) (by first | omega | apply iand_nn | apply iclr_nn | apply ior_nn) (by first | omega | (apply iand_l <;> omega) | (apply iclr_l; (apply iand_nn); (apply iand_l <;> omega)) | (apply iclr_l <;> omega) | (apply ior_lt63 <;> omega)) ?_ | refine bb_bits rfl ?_) | (apply kb_shr; refine bb_shr rfl rfl rfl ?_) | refine bb_of rfl ?_)) | (apply ks_asgn; refine s_asgn rfl rfl ?_) | refine bb_and32 (by omega) (by omega) ?_) | (apply sw_seq) | (apply at_srd) | (apply sw_skip) | (apply sw_ret) | (apply sw_exit) | (apply sw_block) | (apply sw_region) | (refine sw_cd rfl ?_; first | (apply gd_t) | (apply gd_ft) | (apply gd_tf) | (apply gd_dec_t <;> intro hq <;> (try (exfalso; omega))) | (apply gd_dec_f <;> intro hq <;> (try (exfalso; omega))) | (apply gd_beq_t <;> intro hq <;> (try (exfalso; omega))) | (apply gd_beq_f <;> intro hq <;> (try (exfalso; omega))) | (apply gd_bne_t <;> intro hq <;> (try (exfalso; omega))) | (apply gd_bne_f <;> intro hq <;> (try (exfalso; omega))) | (apply gd_not_t <;> intro hq) | (apply gd_not_f <;> intro hq) | (apply gd_raw_t <;> intro hq) | (apply gd_raw_f <;> intro hq)) | (apply at_thn) | (apply at_thn_ret) | (apply at_thn_exit) | (apply at_inb) | (apply at_inb_ret) | (apply at_inb_exit) | refine at_inb_pass rfl ?_ | refine c_drawn (by kernel_rfl) ?_)
  refine e_sv (by first | exact .inl rfl | exact .inr rfl) rfl (by repeat (first | exact List.Sublist.refl _ | exact List.nil_sublist _ | refine List.Sublist.cons _ ?_)) ?_
  have e1 : k / 4294967296 = 0 := by omega
  simp [resV, e1]
theorem mul_sv (G : Ctx) (H : List Ent) (k : Int) (hk : 0 ≤ k ∧ k < 2147483648) : SV Try.prog G 142 [.int .u64 1, .int .u64 k] H (.tuple #[.int .u64 0, .int .u64 k]) := by
  have c := fun H => mul64_sv G H k hk
  refine sv_enter2 Try.func142 rfl rfl rfl rfl rfl ?_
  repeat' (first | (apply g_sl; first | (apply ks_nil; refine sl_nil ?_) | (apply ks_move; refine s_move rfl rfl ?_) | (apply ks_asgn; refine s_asgn rfl rfl ?_) | (apply ks_extr; refine s_extr (y_extract rfl rfl rfl) rfl ?_) | (apply ks_conv; first | fail | refine s_conv (c_conv (k := .i64) rfl rfl ⟨by omega, by omega⟩) rfl ?_ | refine s_conv (c_conv (k := .u8) rfl rfl ⟨by omega, by omega⟩) rfl ?_ | refine s_conv (c_conv (k := .u64) rfl rfl ⟨by omega, by omega⟩) rfl ?_ | refine s_conv (c_convw rfl rfl) rfl ?_) | (apply ks_fn; first | refine c_callv rfl rfl rfl (c _) rfl rfl ?_) | fail) | (apply sw_seq) | (apply at_srd) | (apply sw_skip) | (apply sw_ret) | (apply sw_exit) | (apply sw_block) | (apply sw_region) | (refine sw_cd rfl ?_; first | (apply gd_t) | (apply gd_ft) | (apply gd_tf) | (apply gd_dec_t <;> intro hq <;> (try (exfalso; omega))) | (apply gd_dec_f <;> intro hq <;> (try (exfalso; omega))) | (apply gd_beq_t <;> intro hq <;> (try (exfalso; omega))) | (apply gd_beq_f <;> intro hq <;> (try (exfalso; omega))) | (apply gd_bne_t <;> intro hq <;> (try (exfalso; omega))) | (apply gd_bne_f <;> intro hq <;> (try (exfalso; omega))) | (apply gd_not_t <;> intro hq) | (apply gd_not_f <;> intro hq) | (apply gd_raw_t <;> intro hq) | (apply gd_raw_f <;> intro hq)) | (apply at_thn) | (apply at_thn_ret) | (apply at_thn_exit) | (apply at_inb) | (apply at_inb_ret) | (apply at_inb_exit) | refine at_inb_pass rfl ?_ | refine c_drawn (by kernel_rfl) ?_)
  refine e_sv (by first | exact .inl rfl | exact .inr rfl) rfl (by repeat (first | exact List.Sublist.refl _ | exact List.nil_sublist _ | refine List.Sublist.cons _ ?_)) ?_
  rfl
/-- A row of which the first m places are written. -/
def rowR (x z : Value) (K m : Nat) : List Value := List.replicate m x ++ List.replicate (K - m) z
theorem rowR_len (x z : Value) {K m : Nat} (h : m ≤ K) : (rowR x z K m).length = K := by simp [rowR]; omega
theorem rowR_take (x z : Value) {K m d : Nat} (h : d ≤ m) : (rowR x z K m).take d = List.replicate d x := by
  unfold rowR
  rw [List.take_append_of_le_length (by simpa using h), List.take_replicate, Nat.min_eq_left h]
theorem rowR_drop (x z : Value) {K m d : Nat} : (rowR x z K m).drop (m + d) = List.replicate (K - (m + d)) z := by
  unfold rowR
  rw [List.drop_append]
  simp
  omega
theorem rowR_step (x z : Value) {K m d : Nat} (h : d ≤ m) : (rowR x z K m).take m ++ (rowR x z K m).take d ++ (rowR x z K m).drop (m + d) = rowR x z K (m + d) := by
  rw [rowR_take x z (Nat.le_refl m), rowR_take x z h, rowR_drop]
  unfold rowR
  rw [List.replicate_append_replicate]
theorem rowR_first (x z : Value) (K : Nat) : (List.replicate K z).take 0 ++ [x].take (min 1 K) ++ (List.replicate K z).drop (0 + min 1 K) = rowR x z K (min 1 K) := by
  unfold rowR
  rcases Nat.eq_zero_or_pos K with h | h
  · subst h; rfl
  · rw [Nat.min_eq_left h]
    simp
theorem rowR_all (x z : Value) (K : Nat) : rowR x z K K = List.replicate K x := by simp [rowR]
theorem one_in {x : Value} (h : x.oneCell' = true) (d : Nat) : ∀ v ∈ List.replicate d x, v.oneCell' = true := fun v hv => by
  rw [List.eq_of_mem_replicate hv]; exact h
end Go.Proofs.Ytgcnfcgnkfkpeaa
