/- farref.Num, strconv.Itoa: contracts; farref.bit. -/
import Derived.Test.YthllelffblpdkaaDoorCho
import Derived.Test.YthllelffblpdkaaDoorShelf
import Derived.Lib.ItoaNum
namespace Go.Proofs.YthllelffblpdkaaDoor
open Go Go.RowKit Go.Fw Go.Sx
set_option maxRecDepth 100000
set_option maxHeartbeats 1000000
attribute [local irreducible] SW SL SQ AtQ SV SC BB LD PK Yields SO SOT SOA SY
/-- A number's digits. -/
def numB (n : Nat) : ByteArray := ⟨(Lib.decDigits n).toArray⟩
theorem numB_app (n : Nat) (h : ¬ n < 10) : numB (n / 10) ++ numB (n % 10) = numB n := by
  apply ByteArray.ext
  apply Array.ext'
  show (numB (n / 10) ++ numB (n % 10)).data.toList = Lib.decDigits n
  rw [ByteArray.data_append, Array.toList_append]
  show Lib.decDigits (n / 10) ++ Lib.decDigits (n % 10) = _
  rw [Lib.decDigits_one (show n % 10 < 10 by omega)]
  conv => rhs; rw [Lib.decDigits]
  rw [dif_neg h]
theorem numB_one (n : Nat) (h : n < 10) : (⟨#[48, 49, 50, 51, 52, 53, 54, 55, 56, 57]⟩ : ByteArray).extract (n : Int).toNat ((n : Int) + 1).toNat = numB n := by
  unfold numB
  rw [Lib.decDigits_one h]
  match n, h with
  | 0, _ => rfl
  | 1, _ => rfl
  | 2, _ => rfl
  | 3, _ => rfl
  | 4, _ => rfl
  | 5, _ => rfl
  | 6, _ => rfl
  | 7, _ => rfl
  | 8, _ => rfl
  | 9, _ => rfl
theorem numB_size : ∀ (k n : Nat), n < 10 ^ (k + 1) → (numB n).size ≤ k + 1
  | 0, n, h => by
    have e : (numB n).size = (Lib.decDigits n).length := List.size_toArray
    rw [e, Lib.decDigits_one (by omega)]
    exact Nat.le_refl _
  | k + 1, n, h => by
    by_cases h10 : n < 10
    · have e : (numB n).size = (Lib.decDigits n).length := List.size_toArray
      rw [e, Lib.decDigits_one h10]
      simp
    · rw [← numB_app n h10, ByteArray.size_append]
      have h1 := numB_size k (n / 10) (by rw [Nat.pow_succ] at h; omega)
      have h2 := numB_size 0 (n % 10) (by omega)
      omega
theorem num_sv (G : Ctx) : ∀ (m n : Nat) (H : List Ent), n ≤ m → n ≤ 9223372036854775807 → SV Tryd.prog G 72 [.int .i64 n] H (.string (numB n))
  | m, n, H, hm, hn => by
    by_cases h : n < 10
    · have h1 := numB_one n h
      refine sv_enter1 Tryd.func72 rfl rfl rfl rfl rfl ?_
      have hz : (n : Int) + 1 ≤ ((⟨#[48, 49, 50, 51, 52, 53, 54, 55, 56, 57]⟩ : ByteArray).size : Nat) := by show (n : Int) + 1 ≤ 10; omega
      repeat' (first | (apply g_sl; first | (apply ks_nil; refine sl_nil ?_) | (apply ks_move; refine s_move rfl rfl ?_) | (apply ks_bin; refine s_bin rfl rfl rfl ?_; first | (refine s_slice (h1 ▸ c_sliceStr rfl rfl rfl rfl (by omega) (by omega) hz) rfl ?_) | (first | (apply kb_add; first | refine bb_add ⟨by omega, by omega⟩ ?_ | refine bb_of rfl ?_) | (apply kb_quo; refine bb_quo ⟨by omega, by omega⟩ (by omega) (by omega) ?_) | (apply kb_rem; refine bb_rem (by omega) (by omega) ?_) | refine bb_of rfl ?_)) | (apply ks_asgn; refine s_asgn rfl rfl ?_) | (apply ks_un; refine s_un (y_un rfl rfl rfl) rfl ?_) | (apply ks_fn; first | fail) | (apply ks_slice; first | (refine s_slice (h1 ▸ c_sliceStr rfl rfl rfl rfl (by omega) (by omega) hz) rfl ?_) | refine s_slice (c_sliceStr rfl rfl rfl rfl (by omega) (by omega) (by omega)) rfl ?_) | (refine s_slice (h1 ▸ c_sliceStr rfl rfl rfl rfl (by omega) (by omega) hz) rfl ?_)) | (apply sw_seq) | (apply at_srd) | (apply sw_skip) | (apply sw_ret) | (apply sw_exit) | (apply sw_block) | (apply sw_region) | (refine sw_cd rfl ?_; first | (apply gd_t) | (apply gd_ft) | (apply gd_tf) | (apply gd_dec_t <;> intro hq <;> (try (exfalso; omega))) | (apply gd_dec_f <;> intro hq <;> (try (exfalso; omega))) | (apply gd_beq_t <;> intro hq <;> (try (exfalso; omega))) | (apply gd_beq_f <;> intro hq <;> (try (exfalso; omega))) | (apply gd_bne_t <;> intro hq <;> (try (exfalso; omega))) | (apply gd_bne_f <;> intro hq <;> (try (exfalso; omega))) | (apply gd_not_t <;> intro hq) | (apply gd_not_f <;> intro hq) | (apply gd_raw_t <;> intro hq) | (apply gd_raw_f <;> intro hq)) | (apply at_thn) | (apply at_thn_ret) | (apply at_thn_exit) | (apply at_inb) | (apply at_inb_ret) | (apply at_inb_exit) | refine at_inb_pass rfl ?_ | refine c_drawn (by kernel_rfl) ?_)
      all_goals first | (exfalso; omega) | (refine e_sv (by first | exact .inl rfl | exact .inr rfl) rfl (by repeat (first | exact List.Sublist.refl _ | exact List.nil_sublist _ | refine List.Sublist.cons _ ?_)) ?_; rfl)
    · cases m with
      | zero => omega
      | succ m =>
        have i1 := fun H => num_sv G m (n / 10) H (by omega) (by omega)
        have i2 := fun H => num_sv G m (n % 10) H (by omega) (by omega)
        have e := numB_app n h
        have s1 := numB_size 20 (n / 10) (by omega)
        have s2 := numB_size 20 (n % 10) (by omega)
        have hc : (numB (n / 10)).size + (numB (n % 10)).size ≤ 9223372036854775807 := by omega
        have q1 : ((n / 10 : Nat) : Int) = (n : Int) / 10 := by omega
        have q2 : ((n % 10 : Nat) : Int) = (n : Int) % 10 := by omega
        rw [q1] at i1
        rw [q2] at i2
        clear q1 q2 s1 s2
        generalize numB (n / 10) = A at *
        generalize numB (n % 10) = B at *
        rw [← e]
        clear e
        refine sv_enter1 Tryd.func72 rfl rfl rfl rfl rfl ?_
        repeat' (first | (apply g_sl; first | (apply ks_nil; refine sl_nil ?_) | (apply ks_move; refine s_move rfl rfl ?_) | (apply ks_bin; refine s_bin rfl rfl rfl ?_; first | (refine bb_cat hc ?_) | (first | (apply kb_add; first | refine bb_add ⟨by omega, by omega⟩ ?_ | refine bb_of rfl ?_) | (apply kb_quo; refine bb_quo ⟨by omega, by omega⟩ (by omega) (by omega) ?_) | (apply kb_rem; refine bb_rem (by omega) (by omega) ?_) | refine bb_of rfl ?_)) | (apply ks_asgn; refine s_asgn rfl rfl ?_) | (apply ks_un; refine s_un (y_un rfl rfl rfl) rfl ?_) | (apply ks_fn; first | first | refine c_callv rfl rfl rfl (i1 _) rfl rfl ?_ | refine c_callv rfl rfl rfl (i2 _) rfl rfl ?_) | (apply ks_slice; first | (refine bb_cat hc ?_) | refine s_slice (c_sliceStr rfl rfl rfl rfl (by omega) (by omega) (by omega)) rfl ?_) | (refine bb_cat hc ?_)) | (apply sw_seq) | (apply at_srd) | (apply sw_skip) | (apply sw_ret) | (apply sw_exit) | (apply sw_block) | (apply sw_region) | (refine sw_cd rfl ?_; first | (apply gd_t) | (apply gd_ft) | (apply gd_tf) | (apply gd_dec_t <;> intro hq <;> (try (exfalso; omega))) | (apply gd_dec_f <;> intro hq <;> (try (exfalso; omega))) | (apply gd_beq_t <;> intro hq <;> (try (exfalso; omega))) | (apply gd_beq_f <;> intro hq <;> (try (exfalso; omega))) | (apply gd_bne_t <;> intro hq <;> (try (exfalso; omega))) | (apply gd_bne_f <;> intro hq <;> (try (exfalso; omega))) | (apply gd_not_t <;> intro hq) | (apply gd_not_f <;> intro hq) | (apply gd_raw_t <;> intro hq) | (apply gd_raw_f <;> intro hq)) | (apply at_thn) | (apply at_thn_ret) | (apply at_thn_exit) | (apply at_inb) | (apply at_inb_ret) | (apply at_inb_exit) | refine at_inb_pass rfl ?_ | refine c_drawn (by kernel_rfl) ?_)
        all_goals first | (exfalso; omega) | (refine e_sv (by first | exact .inl rfl | exact .inr rfl) rfl (by repeat (first | exact List.Sublist.refl _ | exact List.nil_sublist _ | refine List.Sublist.cons _ ?_)) ?_; rfl)
theorem itoaS_sv (G : Ctx) (H : List Ent) (n : Nat) (h : n < 100) : SV Tryd.prog G 70 [.int .i64 n] H (.string (numB n)) :=
  sv_of_calls (callee_of Tryd.func70 rfl rfl) fun w _ => (Tryd.strconv_Itoa_small n h w).mono fun _ _ ⟨he, hw⟩ => ⟨he, hw ▸ Below.refl _ _⟩
theorem refBit_sv (G : Ctx) (H : List Ent) (p q : Int) (h : 0 ≤ p ∧ p ≤ 9223372036854775807 ∧ 0 ≤ q ∧ q ≤ 9223372036854775807) : SV Tryd.prog G 81 [.int .i64 p, .int .i64 q] H (.bool (iand p q != 0)) := by
  refine sv_enter2 Tryd.func81 rfl rfl rfl rfl rfl ?_
  repeat' (first | (apply g_sl; first | (apply ks_nil; refine sl_nil ?_) | (apply ks_move; refine s_move rfl rfl ?_) | (apply ks_bin; refine s_bin rfl rfl rfl ?_; first | fail | (first | (apply kb_and; first | refine bb_mask rfl rfl (by omega) (by omega) ?_ | refine bb_and (by first | omega | apply iand_nn | apply iclr_nn | apply ior_nn) (by first | omega | (apply iand_l <;> omega) | (apply iclr_l; (apply iand_nn); (apply iand_l <;> omega)) | (apply iclr_l <;> omega) | (apply ior_lt63 <;> omega)) (by first | omega | apply iand_nn | apply iclr_nn | apply ior_nn) (by first | omega | (apply iand_l <;> omega) | (apply iclr_l; (apply iand_nn); (apply iand_l <;> omega)) | (apply iclr_l <;> omega) | (apply ior_lt63 <;> omega)) ?_ | refine bb_bits rfl ?_) | refine bb_of rfl ?_)) | (apply ks_asgn; refine s_asgn rfl rfl ?_) | fail) | (apply sw_seq) | (apply at_srd) | (apply sw_skip) | (apply sw_ret) | (apply sw_exit) | (apply sw_block) | (apply sw_region) | (refine sw_cd rfl ?_; first | (apply gd_t) | (apply gd_ft) | (apply gd_tf) | (apply gd_dec_t <;> intro hq <;> (try (exfalso; omega))) | (apply gd_dec_f <;> intro hq <;> (try (exfalso; omega))) | (apply gd_beq_t <;> intro hq <;> (try (exfalso; omega))) | (apply gd_beq_f <;> intro hq <;> (try (exfalso; omega))) | (apply gd_bne_t <;> intro hq <;> (try (exfalso; omega))) | (apply gd_bne_f <;> intro hq <;> (try (exfalso; omega))) | (apply gd_not_t <;> intro hq) | (apply gd_not_f <;> intro hq) | (apply gd_raw_t <;> intro hq) | (apply gd_raw_f <;> intro hq)) | (apply at_thn) | (apply at_thn_ret) | (apply at_thn_exit) | (apply at_inb) | (apply at_inb_ret) | (apply at_inb_exit) | refine at_inb_pass rfl ?_ | refine c_drawn (by kernel_rfl) ?_)
  refine e_sv (by first | exact .inl rfl | exact .inr rfl) rfl (by repeat (first | exact List.Sublist.refl _ | exact List.nil_sublist _ | refine List.Sublist.cons _ ?_)) ?_
  rfl
theorem refBitA_sv (G : Ctx) (H : List Ent) (p q : Int) : SV Tryd.prog G 81 [.int .i64 p, .int .i64 q] H (.bool (ibits .and .i64 p q != 0)) := by
  refine sv_enter2 Tryd.func81 rfl rfl rfl rfl rfl ?_
  repeat' (first | (apply g_sl; first | (apply ks_nil; refine sl_nil ?_) | (apply ks_move; refine s_move rfl rfl ?_) | (apply ks_bin; refine s_bin rfl rfl rfl ?_; first | (refine bb_bits rfl ?_) | (first | (apply kb_and; first | refine bb_mask rfl rfl (by omega) (by omega) ?_ | refine bb_and (by first | omega | apply iand_nn | apply iclr_nn | apply ior_nn) (by first | omega | (apply iand_l <;> omega) | (apply iclr_l; (apply iand_nn); (apply iand_l <;> omega)) | (apply iclr_l <;> omega) | (apply ior_lt63 <;> omega)) (by first | omega | apply iand_nn | apply iclr_nn | apply ior_nn) (by first | omega | (apply iand_l <;> omega) | (apply iclr_l; (apply iand_nn); (apply iand_l <;> omega)) | (apply iclr_l <;> omega) | (apply ior_lt63 <;> omega)) ?_ | refine bb_bits rfl ?_) | refine bb_of rfl ?_)) | (apply ks_asgn; refine s_asgn rfl rfl ?_) | (refine bb_bits rfl ?_)) | (apply sw_seq) | (apply at_srd) | (apply sw_skip) | (apply sw_ret) | (apply sw_exit) | (apply sw_block) | (apply sw_region) | (refine sw_cd rfl ?_; first | (apply gd_t) | (apply gd_ft) | (apply gd_tf) | (apply gd_dec_t <;> intro hq <;> (try (exfalso; omega))) | (apply gd_dec_f <;> intro hq <;> (try (exfalso; omega))) | (apply gd_beq_t <;> intro hq <;> (try (exfalso; omega))) | (apply gd_beq_f <;> intro hq <;> (try (exfalso; omega))) | (apply gd_bne_t <;> intro hq <;> (try (exfalso; omega))) | (apply gd_bne_f <;> intro hq <;> (try (exfalso; omega))) | (apply gd_not_t <;> intro hq) | (apply gd_not_f <;> intro hq) | (apply gd_raw_t <;> intro hq) | (apply gd_raw_f <;> intro hq)) | (apply at_thn) | (apply at_thn_ret) | (apply at_thn_exit) | (apply at_inb) | (apply at_inb_ret) | (apply at_inb_exit) | refine at_inb_pass rfl ?_ | refine c_drawn (by kernel_rfl) ?_)
  refine e_sv (by first | exact .inl rfl | exact .inr rfl) rfl (by repeat (first | exact List.Sublist.refl _ | exact List.nil_sublist _ | refine List.Sublist.cons _ ?_)) ?_
  rfl
end Go.Proofs.YthllelffblpdkaaDoor
