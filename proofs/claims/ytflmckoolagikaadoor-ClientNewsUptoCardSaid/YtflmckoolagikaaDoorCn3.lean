/- Texts of this claim, merged: Rep RepQ Scr1 Slc Slc2 Slc4 Neg2 Cli2 Sorts Bet Sorts2 EnvP. -/
import Derived.Test.YtflmckoolagikaaDoorCn2
import Derived.WalkKit
import Derived.WalkSpells
import Derived.WalkLawsBesides
import Derived.Handy
import Derived.Lib.Hide
import Derived.Laws.BitsAllLaws
import Derived.Deep.MidRow
import Derived.Deep.WholeRow
import Derived.BigQuiet
import Derived.Laws.CopyOwn
import Derived.Deep.QuietTactic
import Derived.Laws.AppendOwnNone
import Derived.Laws.MakeOwn
import Derived.Laws.IdiomStrings
import Derived.OrdersHeld
import Derived.Lib.SliceRun
import Derived.ChangeKeysEq
import Derived.Laws.CopyRow
import Derived.Test.YtflmckoolagikaaDoorRows
import Derived.Lib.AppendStr
import Derived.ArgAppend
import Derived.StillTailTactics
import Derived.RegionTactic
import Derived.ChangeAlike
import Derived.Laws.RangeAny
import Derived.Maps.RangeRun
import Derived.Lib.Replace
section
namespace Go.Proofs.YtflmckoolagikaaDoor
open Go Go.RowKit Go.Fw Go.Sx
set_option maxRecDepth 100000
set_option maxHeartbeats 1000000
attribute [local irreducible] SW SL SQ AtQ SV SC BB LD PK Yields SO SOT SOA SY
theorem mul64_sv (G : Ctx) (H : List Ent) (k : Int) (hk : 0 ≤ k ∧ k < 2147483648) : SV Tryd.prog G 185 [.int .u64 1, .int .u64 k] H (.tuple #[.int .u64 0, .int .u64 k]) := by
  refine sv_enter2 Tryd.func185 rfl rfl rfl rfl rfl ?_
  repeat' (first | (apply g_sl; first | (apply ks_nil; refine sl_nil ?_) | (apply ks_move; refine s_move rfl rfl ?_) | (apply ks_bin; refine s_bin rfl rfl rfl ?_; first | refine bb_and32 (by omega) (by omega) ?_ | (first | (apply kb_add; first | refine bb_add ⟨by omega, by omega⟩ ?_ | refine bb_of rfl ?_) | (apply kb_mul; first | refine bb_mul ⟨by omega, by omega⟩ ?_ | refine bb_of rfl ?_) | (apply kb_and; first | refine bb_mask rfl rfl (by omega) (by omega) ?_ | refine bb_and (by first | omega | apply iand_nn | apply iclr_nn | apply ior_nn) (by first | omega | (apply iand_l <;> omega) | (apply iclr_l; (apply iand_nn); (apply iand_l <;> omega)) | (apply iclr_l <;> omega) | (apply ior_lt63 <;> omega)) (by first | omega | apply iand_nn | apply iclr_nn | apply ior_nn) (by first | omega | (apply iand_l <;> omega) | (apply iclr_l; (apply iand_nn); (apply iand_l <;> omega)) | (apply iclr_l <;> omega) | (apply ior_lt63 <;> omega)) ?_ | refine bb_bits rfl ?_) | (apply kb_shr; refine bb_shr rfl rfl rfl ?_) | refine bb_of rfl ?_)) | (apply ks_asgn; refine s_asgn rfl rfl ?_) | refine bb_and32 (by omega) (by omega) ?_) | (apply sw_seq) | (apply at_srd) | (apply sw_skip) | (apply sw_ret) | (apply sw_exit) | (apply sw_block) | (apply sw_region) | (refine sw_cd rfl ?_; first | (apply gd_t) | (apply gd_ft) | (apply gd_tf) | (apply gd_dec_t <;> intro hq <;> (try (exfalso; omega))) | (apply gd_dec_f <;> intro hq <;> (try (exfalso; omega))) | (apply gd_beq_t <;> intro hq <;> (try (exfalso; omega))) | (apply gd_beq_f <;> intro hq <;> (try (exfalso; omega))) | (apply gd_bne_t <;> intro hq <;> (try (exfalso; omega))) | (apply gd_bne_f <;> intro hq <;> (try (exfalso; omega))) | (apply gd_not_t <;> intro hq) | (apply gd_not_f <;> intro hq) | (apply gd_raw_t <;> intro hq) | (apply gd_raw_f <;> intro hq)) | (apply at_thn) | (apply at_thn_ret) | (apply at_thn_exit) | (apply at_inb) | (apply at_inb_ret) | (apply at_inb_exit) | refine at_inb_pass rfl ?_ | refine c_drawn (by kernel_rfl) ?_)
  refine e_sv (by first | exact .inl rfl | exact .inr rfl) rfl (by repeat (first | exact List.Sublist.refl _ | exact List.nil_sublist _ | refine List.Sublist.cons _ ?_)) ?_
  have e1 : k / 4294967296 = 0 := by omega
  simp [resV, e1]
theorem mul_sv (G : Ctx) (H : List Ent) (k : Int) (hk : 0 ≤ k ∧ k < 2147483648) : SV Tryd.prog G 162 [.int .u64 1, .int .u64 k] H (.tuple #[.int .u64 0, .int .u64 k]) := by
  have c := fun H => mul64_sv G H k hk
  refine sv_enter2 Tryd.func162 rfl rfl rfl rfl rfl ?_
  repeat' (first | (apply g_sl; first | (apply ks_nil; refine sl_nil ?_) | (apply ks_move; refine s_move rfl rfl ?_) | (apply ks_asgn; refine s_asgn rfl rfl ?_) | (apply ks_extr; refine s_extr (y_extract rfl rfl rfl) rfl ?_) | (apply ks_conv; first | fail | refine s_conv (c_conv (k := .i64) rfl rfl ⟨by omega, by omega⟩) rfl ?_ | refine s_conv (c_conv (k := .u8) rfl rfl ⟨by omega, by omega⟩) rfl ?_ | refine s_conv (c_conv (k := .u64) rfl rfl ⟨by omega, by omega⟩) rfl ?_ | refine s_conv (c_convw rfl rfl) rfl ?_) | (apply ks_fn; first | refine c_callv rfl rfl rfl (c _) rfl rfl ?_) | fail) | (apply sw_seq) | (apply at_srd) | (apply sw_skip) | (apply sw_ret) | (apply sw_exit) | (apply sw_block) | (apply sw_region) | (refine sw_cd rfl ?_; first | (apply gd_t) | (apply gd_ft) | (apply gd_tf) | (apply gd_dec_t <;> intro hq <;> (try (exfalso; omega))) | (apply gd_dec_f <;> intro hq <;> (try (exfalso; omega))) | (apply gd_beq_t <;> intro hq <;> (try (exfalso; omega))) | (apply gd_beq_f <;> intro hq <;> (try (exfalso; omega))) | (apply gd_bne_t <;> intro hq <;> (try (exfalso; omega))) | (apply gd_bne_f <;> intro hq <;> (try (exfalso; omega))) | (apply gd_not_t <;> intro hq) | (apply gd_not_f <;> intro hq) | (apply gd_raw_t <;> intro hq) | (apply gd_raw_f <;> intro hq)) | (apply at_thn) | (apply at_thn_ret) | (apply at_thn_exit) | (apply at_inb) | (apply at_inb_ret) | (apply at_inb_exit) | refine at_inb_pass rfl ?_ | refine c_drawn (by kernel_rfl) ?_)
  refine e_sv (by first | exact .inl rfl | exact .inr rfl) rfl (by repeat (first | exact List.Sublist.refl _ | exact List.nil_sublist _ | refine List.Sublist.cons _ ?_)) ?_
  rfl
end Go.Proofs.YtflmckoolagikaaDoor
end
section
namespace Go.Fw
open Go Go.RowKit Go.Sx
theorem qds_rep (q : Qd) (k : Nat) : (List.replicate k (qd q)).flatten = qds (List.replicate k q) := by
  induction k with
  | zero => rfl
  | succ k ih => rw [List.replicate_succ, List.flatten_cons, ih, List.replicate_succ, qds_cons]
theorem made_qds (k : Nat) : (madeCells (#[.int .i64 0, .int .i64 0, .int .i64 0, .int .i64 0] : Array Value) (k * 4)).toList = qds (List.replicate k qz) := by
  have h := zeros_eq [.int .i64 0, .int .i64 0, .int .i64 0, .int .i64 0] k 4 rfl (by decide)
  have h2 := congrArg Array.toList h
  rw [← qds_rep]
  exact h2
/-- A row of which the first m places are written. -/
def rowP (q : Qd) (K m : Nat) : List Qd := List.replicate m q ++ List.replicate (K - m) qz
theorem rowP_len (q : Qd) {K m : Nat} (h : m ≤ K) : (rowP q K m).length = K := by simp [rowP]; omega
theorem rowP_take (q : Qd) {K m d : Nat} (h : d ≤ m) : (rowP q K m).take d = List.replicate d q := by
  unfold rowP
  rw [List.take_append_of_le_length (by simpa using h), List.take_replicate, Nat.min_eq_left h]
theorem over_qds (C D : List Qd) (k : Nat) : over (qds C) (k * 4) (qds D) = qds (C.take k ++ D ++ C.drop (k + D.length)) := by
  unfold over
  rw [qds_take, qds_len, ← Nat.add_mul, qds_drop, qds_app, qds_app]
theorem rowP_step (q : Qd) {K m d : Nat} (h : d ≤ m) (h2 : m + d ≤ K) : over (qds (rowP q K m)) (m * 4) ((qds (rowP q K m)).take (d * 4)) = qds (rowP q K (m + d)) := by
  rw [qds_take, rowP_take q h, over_qds, rowP_take q (Nat.le_refl m), List.length_replicate]
  congr 1
  unfold rowP
  rw [List.drop_append, List.length_replicate, List.drop_of_length_le (by simp), List.nil_append, show m + d - m = d from by omega, List.drop_replicate, List.replicate_append_replicate, show K - m - d = K - (m + d) from by omega]
theorem rowP_first (q : Qd) (K : Nat) : over (qds (List.replicate K qz)) 0 ((qd q).take (min 1 K * 4)) = qds (rowP q K (min 1 K)) := by
  rcases Nat.eq_zero_or_pos K with h | h
  · subst h; rfl
  · rw [Nat.min_eq_left h, show (qd q).take (1 * 4) = qds [q] from by rfl]
    show over (qds (List.replicate K qz)) (0 * 4) (qds [q]) = _
    rw [over_qds]
    congr 1
    unfold rowP
    simp
theorem rowP_all (q : Qd) (K : Nat) : rowP q K K = List.replicate K q := by simp [rowP]
end Go.Fw
namespace Go.Proofs.YtflmckoolagikaaDoor
open Go Go.RowKit Go.Fw Go.Sx
set_option maxRecDepth 100000
set_option maxHeartbeats 1000000
attribute [local irreducible] SW SL SQ AtQ SV SC BB LD PK Yields SO SOT SOA SY
theorem repQ_sc (G : Ctx) (H : List Ent) (q : Qd) (a : Option Addr) (c : Nat) (k : Int) {vs : List Value} (hk : 0 ≤ k ∧ k ≤ 1000000) [hr : RdC G H a vs] (hv : vs = qd q) : SC Tryd.prog G 178 [.slice a 1 c, .int .i64 k] H (fun v H' => ∃ b, v = .slice (some ⟨b, 0, none⟩) k.toNat k.toNat ∧ H' = .own 170 4 (some ⟨b, 0, none⟩) k.toNat k.toNat (qds (List.replicate k.toNat q)) :: H) := by
  subst hv
  have cm := fun H => mul_sv G H k (by omega)
  obtain ⟨K, rfl⟩ : ∃ K : Nat, k = K := ⟨k.toNat, by omega⟩
  have hqone : ∀ d, ((qd q).take d).all (·.oneCell') = true := fun d => by
    rw [List.all_eq_true]
    intro v hv
    have := List.mem_of_mem_take hv
    simp [qd] at this
    rcases this with rfl | rfl | rfl | rfl <;> rfl
  refine sc_enter2 Tryd.func178 rfl rfl rfl rfl rfl ?_
  repeat' (first | (apply g_sl; first | (apply ks_nil; refine sl_nil ?_) | (apply ks_move; refine s_move rfl rfl ?_) | (apply ks_bin; refine s_bin rfl rfl rfl ?_; first | first | (refine c_makes rfl rfl rfl rfl (by omega) (by omega) (by omega) rfl rfl (fun _ => ?_)) | (first | (apply kb_add; first | refine bb_add ⟨by omega, by omega⟩ ?_ | refine bb_of rfl ?_) | refine bb_of rfl ?_)) | (apply ks_asgn; refine s_asgn rfl rfl ?_) | (apply ks_pick; refine s_pick rfl rfl ?_; first | (apply kp_t; refine pk_t rfl ?_) | (apply kp_f; refine pk_f rfl ?_) | refine pk_s rfl rfl ?_) | (apply ks_extr; refine s_extr (y_extract rfl rfl rfl) rfl ?_) | (apply ks_conv; first | first | (refine c_makes rfl rfl rfl rfl (by omega) (by omega) (by omega) rfl rfl (fun _ => ?_)) | refine s_conv (c_conv (k := .i64) rfl rfl ⟨by omega, by omega⟩) rfl ?_ | refine s_conv (c_conv (k := .u8) rfl rfl ⟨by omega, by omega⟩) rfl ?_ | refine s_conv (c_conv (k := .u64) rfl rfl ⟨by omega, by omega⟩) rfl ?_ | refine s_conv (c_convw rfl rfl) rfl ?_) | (apply ks_fn; first | refine c_callv rfl rfl rfl (cm _) rfl rfl ?_) | (apply ks_bi; first | first | (refine c_makes rfl rfl rfl rfl (by omega) (by omega) (by omega) rfl rfl (fun _ => ?_)) | refine s_call (c_len rfl rfl) rfl ?_ | refine s_call (c_len_str rfl rfl) rfl ?_ | refine s_call (c_bi rfl rfl rfl rfl) rfl ?_ | refine c_append rfl rfl rfl rfl (by first | rfl | simp [ints]) (by first | rfl | exact ints_one _ | exact octs_one _ | exact strs_one _) (by omega) rfl rfl (fun _ _ => ?_) | refine c_append_nil rfl rfl rfl rfl (by first | rfl | simp [ints]) (by first | rfl | exact ints_one _ | exact octs_one _ | exact strs_one _) (by omega) rfl rfl (fun _ _ => ?_)) | (apply ks_slice; first | first | (refine c_makes rfl rfl rfl rfl (by omega) (by omega) (by omega) rfl rfl (fun _ => ?_)) | refine s_slice (c_sliceStr rfl rfl rfl rfl (by omega) (by omega) (by omega)) rfl ?_) | (apply ks_make; refine c_make rfl rfl rfl rfl (by omega) (by omega) rfl rfl (fun _ => ?_)) | (apply ks_guard; first | (refine sl_gd rfl rfl rfl rfl ?_; first | (apply gd_t) | (apply gd_ft) | (apply gd_tf) | (apply gd_dec_t <;> intro hq <;> (try (exfalso; omega))) | (apply gd_dec_f <;> intro hq <;> (try (exfalso; omega))) | (apply gd_beq_t <;> intro hq <;> (try (exfalso; omega))) | (apply gd_beq_f <;> intro hq <;> (try (exfalso; omega))) | (apply gd_bne_t <;> intro hq <;> (try (exfalso; omega))) | (apply gd_bne_f <;> intro hq <;> (try (exfalso; omega))) | (apply gd_not_t <;> intro hq) | (apply gd_not_f <;> intro hq) | (apply gd_raw_t <;> intro hq) | (apply gd_raw_f <;> intro hq)) | refine sl_skip_u rfl rfl rfl rfl rfl rfl ?_) | first | (refine c_makes rfl rfl rfl rfl (by omega) (by omega) (by omega) rfl rfl (fun _ => ?_))) | (apply sw_seq) | (apply at_srd) | (apply sw_skip) | (apply sw_ret) | (apply sw_exit) | (apply sw_block) | (apply sw_region) | (refine sw_cd rfl ?_; first | (apply gd_t) | (apply gd_ft) | (apply gd_tf) | (apply gd_dec_t <;> intro hq <;> (try (exfalso; omega))) | (apply gd_dec_f <;> intro hq <;> (try (exfalso; omega))) | (apply gd_beq_t <;> intro hq <;> (try (exfalso; omega))) | (apply gd_beq_f <;> intro hq <;> (try (exfalso; omega))) | (apply gd_bne_t <;> intro hq <;> (try (exfalso; omega))) | (apply gd_bne_f <;> intro hq <;> (try (exfalso; omega))) | (apply gd_not_t <;> intro hq) | (apply gd_not_f <;> intro hq) | (apply gd_raw_t <;> intro hq) | (apply gd_raw_f <;> intro hq)) | (apply at_thn) | (apply at_thn_ret) | (apply at_thn_exit) | (apply at_inb) | (apply at_inb_ret) | (apply at_inb_exit) | refine at_inb_pass rfl ?_ | refine c_drawn (by kernel_rfl) ?_)
  rename_i b
  rw [Int.toNat_natCast, made_qds]
  repeat' (first | (apply g_sl; first | (apply ks_nil; refine sl_nil ?_) | (apply ks_move; refine s_move rfl rfl ?_) | (apply ks_bin; refine s_bin rfl rfl rfl ?_; first | (refine c_copyA (off := 0) (m := min 1 K) rfl rfl rfl rfl rfl (by rw [qd_len]; omega) (by omega) (hqone _) rfl rfl ?_) | (first | (apply kb_add; first | refine bb_add ⟨by omega, by omega⟩ ?_ | refine bb_of rfl ?_) | refine bb_of rfl ?_)) | (apply ks_asgn; refine s_asgn rfl rfl ?_) | (apply ks_pick; refine s_pick rfl rfl ?_; first | (apply kp_t; refine pk_t rfl ?_) | (apply kp_f; refine pk_f rfl ?_) | refine pk_s rfl rfl ?_) | (apply ks_extr; refine s_extr (y_extract rfl rfl rfl) rfl ?_) | (apply ks_conv; first | (refine c_copyA (off := 0) (m := min 1 K) rfl rfl rfl rfl rfl (by rw [qd_len]; omega) (by omega) (hqone _) rfl rfl ?_) | refine s_conv (c_conv (k := .i64) rfl rfl ⟨by omega, by omega⟩) rfl ?_ | refine s_conv (c_conv (k := .u8) rfl rfl ⟨by omega, by omega⟩) rfl ?_ | refine s_conv (c_conv (k := .u64) rfl rfl ⟨by omega, by omega⟩) rfl ?_ | refine s_conv (c_convw rfl rfl) rfl ?_) | (apply ks_fn; first | fail) | (apply ks_bi; first | (refine c_copyA (off := 0) (m := min 1 K) rfl rfl rfl rfl rfl (by rw [qd_len]; omega) (by omega) (hqone _) rfl rfl ?_) | refine s_call (c_len rfl rfl) rfl ?_ | refine s_call (c_len_str rfl rfl) rfl ?_ | refine s_call (c_bi rfl rfl rfl rfl) rfl ?_ | refine c_append rfl rfl rfl rfl (by first | rfl | simp [ints]) (by first | rfl | exact ints_one _ | exact octs_one _ | exact strs_one _) (by omega) rfl rfl (fun _ _ => ?_) | refine c_append_nil rfl rfl rfl rfl (by first | rfl | simp [ints]) (by first | rfl | exact ints_one _ | exact octs_one _ | exact strs_one _) (by omega) rfl rfl (fun _ _ => ?_)) | (apply ks_slice; first | (refine c_copyA (off := 0) (m := min 1 K) rfl rfl rfl rfl rfl (by rw [qd_len]; omega) (by omega) (hqone _) rfl rfl ?_) | refine s_slice (c_sliceStr rfl rfl rfl rfl (by omega) (by omega) (by omega)) rfl ?_) | (apply ks_make; refine c_make rfl rfl rfl rfl (by omega) (by omega) rfl rfl (fun _ => ?_)) | (apply ks_guard; first | (refine sl_gd rfl rfl rfl rfl ?_; first | (apply gd_t) | (apply gd_ft) | (apply gd_tf) | (apply gd_dec_t <;> intro hq <;> (try (exfalso; omega))) | (apply gd_dec_f <;> intro hq <;> (try (exfalso; omega))) | (apply gd_beq_t <;> intro hq <;> (try (exfalso; omega))) | (apply gd_beq_f <;> intro hq <;> (try (exfalso; omega))) | (apply gd_bne_t <;> intro hq <;> (try (exfalso; omega))) | (apply gd_bne_f <;> intro hq <;> (try (exfalso; omega))) | (apply gd_not_t <;> intro hq) | (apply gd_not_f <;> intro hq) | (apply gd_raw_t <;> intro hq) | (apply gd_raw_f <;> intro hq)) | refine sl_skip_u rfl rfl rfl rfl rfl rfl ?_) | (refine c_copyA (off := 0) (m := min 1 K) rfl rfl rfl rfl rfl (by rw [qd_len]; omega) (by omega) (hqone _) rfl rfl ?_)) | (apply sw_seq) | (apply at_srd) | (apply sw_skip) | (apply sw_ret) | (apply sw_exit) | (apply sw_block) | (apply sw_region) | (refine sw_cd rfl ?_; first | (apply gd_t) | (apply gd_ft) | (apply gd_tf) | (apply gd_dec_t <;> intro hq <;> (try (exfalso; omega))) | (apply gd_dec_f <;> intro hq <;> (try (exfalso; omega))) | (apply gd_beq_t <;> intro hq <;> (try (exfalso; omega))) | (apply gd_beq_f <;> intro hq <;> (try (exfalso; omega))) | (apply gd_bne_t <;> intro hq <;> (try (exfalso; omega))) | (apply gd_bne_f <;> intro hq <;> (try (exfalso; omega))) | (apply gd_not_t <;> intro hq) | (apply gd_not_f <;> intro hq) | (apply gd_raw_t <;> intro hq) | (apply gd_raw_f <;> intro hq)) | (apply at_thn) | (apply at_thn_ret) | (apply at_thn_exit) | (apply at_inb) | (apply at_inb_ret) | (apply at_inb_exit) | refine at_inb_pass rfl ?_ | refine c_drawn (by kernel_rfl) ?_)
  rw [rowP_first]
  refine sw_loopg (α := Nat) (fun m => [(7, .slice (some ⟨b, 0, none⟩) K K), (8, .int .i64 m)]) (fun m => .own 170 4 (some ⟨b, 0, none⟩) K K (qds (rowP q K m)) :: H)
    (fun m => m ≤ K ∧ (m = 0 → K = 0)) (fun m => K - m) (min 1 K) ⟨Nat.min_le_right _ _, fun h => by omega⟩ (by repeat (first | exact Le.nil _ | refine Le.cons (by first | rfl | (exact congrArg some (congrArg (Value.int _) (by omega)))) ?_)) (fun _ hw => hw.subs (by repeat (first | refine Subs.cons (by repeat constructor) ?_ | exact Subs.sub (by repeat (first | exact List.Sublist.refl _ | exact List.nil_sublist _ | refine List.Sublist.cons _ ?_))))) ?_
  rintro m ⟨hm, h0⟩
  by_cases hlt : (m : Int) < K
  · have hrl := rowP_len q hm
    have hql : (qds (rowP q K m)).length = K * 4 := by rw [qds_len, hrl]
    have hst := rowP_step q (K := K) (m := m) (d := min m (K - m)) (Nat.min_le_left _ _) (by omega)
    have hon : ((qds (rowP q K m)).take (min m (K - m) * 4)).all (·.oneCell') = true := by rw [qds_take]; exact qds_one _
    repeat' (first | (apply g_sl; first | (apply ks_nil; refine sl_nil ?_) | (apply ks_move; refine s_move rfl rfl ?_) | (apply ks_bin; refine s_bin rfl rfl rfl ?_; first | (refine c_copyA (m := min m (K - m)) rfl rfl rfl rfl rfl (by rw [hql]; omega) (by omega) hon rfl rfl ?_) | (first | (apply kb_add; first | refine bb_add ⟨by omega, by omega⟩ ?_ | refine bb_of rfl ?_) | refine bb_of rfl ?_)) | (apply ks_asgn; refine s_asgn rfl rfl ?_) | (apply ks_pick; refine s_pick rfl rfl ?_; first | (apply kp_t; refine pk_t rfl ?_) | (apply kp_f; refine pk_f rfl ?_) | refine pk_s rfl rfl ?_) | (apply ks_extr; refine s_extr (y_extract rfl rfl rfl) rfl ?_) | (apply ks_conv; first | (refine c_copyA (m := min m (K - m)) rfl rfl rfl rfl rfl (by rw [hql]; omega) (by omega) hon rfl rfl ?_) | refine s_conv (c_conv (k := .i64) rfl rfl ⟨by omega, by omega⟩) rfl ?_ | refine s_conv (c_conv (k := .u8) rfl rfl ⟨by omega, by omega⟩) rfl ?_ | refine s_conv (c_conv (k := .u64) rfl rfl ⟨by omega, by omega⟩) rfl ?_ | refine s_conv (c_convw rfl rfl) rfl ?_) | (apply ks_fn; first | fail) | (apply ks_bi; first | (refine c_copyA (m := min m (K - m)) rfl rfl rfl rfl rfl (by rw [hql]; omega) (by omega) hon rfl rfl ?_) | refine s_call (c_len rfl rfl) rfl ?_ | refine s_call (c_len_str rfl rfl) rfl ?_ | refine s_call (c_bi rfl rfl rfl rfl) rfl ?_ | refine c_append rfl rfl rfl rfl (by first | rfl | simp [ints]) (by first | rfl | exact ints_one _ | exact octs_one _ | exact strs_one _) (by omega) rfl rfl (fun _ _ => ?_) | refine c_append_nil rfl rfl rfl rfl (by first | rfl | simp [ints]) (by first | rfl | exact ints_one _ | exact octs_one _ | exact strs_one _) (by omega) rfl rfl (fun _ _ => ?_)) | (apply ks_slice; first | (refine c_copyA (m := min m (K - m)) rfl rfl rfl rfl rfl (by rw [hql]; omega) (by omega) hon rfl rfl ?_) | refine s_slice (c_sliceStr rfl rfl rfl rfl (by omega) (by omega) (by omega)) rfl ?_) | (apply ks_make; refine c_make rfl rfl rfl rfl (by omega) (by omega) rfl rfl (fun _ => ?_)) | (apply ks_guard; first | (refine sl_gd rfl rfl rfl rfl ?_; first | (apply gd_t) | (apply gd_ft) | (apply gd_tf) | (apply gd_dec_t <;> intro hq <;> (try (exfalso; omega))) | (apply gd_dec_f <;> intro hq <;> (try (exfalso; omega))) | (apply gd_beq_t <;> intro hq <;> (try (exfalso; omega))) | (apply gd_beq_f <;> intro hq <;> (try (exfalso; omega))) | (apply gd_bne_t <;> intro hq <;> (try (exfalso; omega))) | (apply gd_bne_f <;> intro hq <;> (try (exfalso; omega))) | (apply gd_not_t <;> intro hq) | (apply gd_not_f <;> intro hq) | (apply gd_raw_t <;> intro hq) | (apply gd_raw_f <;> intro hq)) | refine sl_skip_u rfl rfl rfl rfl rfl rfl ?_) | (refine c_copyA (m := min m (K - m)) rfl rfl rfl rfl rfl (by rw [hql]; omega) (by omega) hon rfl rfl ?_)) | (apply g_sq; first | (apply kq_nil; refine sq_nil ?_) | (apply kq_move; refine q_move rfl rfl ?_) | (apply kq_bin; refine q_bin rfl rfl rfl ?_; first | fail | (first | (apply kb_add; first | refine bb_add ⟨by omega, by omega⟩ ?_ | refine bb_of rfl ?_) | refine bb_of rfl ?_)) | (apply kq_asgn; refine q_asgn rfl rfl ?_) | (apply kq_pick; refine q_pick rfl rfl ?_; first | (apply kp_t; refine pk_t rfl ?_) | (apply kp_f; refine pk_f rfl ?_) | refine pk_s rfl rfl ?_) | (apply kq_extr; refine q_extr (y_extract rfl rfl rfl) rfl ?_) | (apply kq_conv; first | fail | refine q_conv (c_conv (k := .i64) rfl rfl ⟨by omega, by omega⟩) rfl ?_ | refine q_conv (c_conv (k := .u8) rfl rfl ⟨by omega, by omega⟩) rfl ?_ | refine q_conv (c_conv (k := .u64) rfl rfl ⟨by omega, by omega⟩) rfl ?_ | refine q_conv (c_convw rfl rfl) rfl ?_) | (apply kq_fn; first | fail) | (apply kq_bi; first | fail | refine q_call (c_len rfl rfl) rfl ?_ | refine q_call (c_len_str rfl rfl) rfl ?_) | (apply kq_slice; first | fail | refine q_slice (c_sliceStr rfl rfl rfl rfl (by omega) (by omega) (by omega)) rfl ?_) | (apply kq_guard; first | (refine sq_gd rfl rfl rfl rfl ?_; first | (apply gd_t) | (apply gd_ft) | (apply gd_tf) | (apply gd_dec_t <;> intro hq <;> (try (exfalso; omega))) | (apply gd_dec_f <;> intro hq <;> (try (exfalso; omega))) | (apply gd_beq_t <;> intro hq <;> (try (exfalso; omega))) | (apply gd_beq_f <;> intro hq <;> (try (exfalso; omega))) | (apply gd_bne_t <;> intro hq <;> (try (exfalso; omega))) | (apply gd_bne_f <;> intro hq <;> (try (exfalso; omega))) | (apply gd_not_t <;> intro hq) | (apply gd_not_f <;> intro hq) | (apply gd_raw_t <;> intro hq) | (apply gd_raw_f <;> intro hq)) | refine sq_skip_u rfl rfl rfl rfl rfl rfl ?_) | fail) | (apply g_atso; refine so_back (k := 0) (fun _ hw => hw.subs (by repeat (first | refine Subs.cons (by repeat constructor) ?_ | exact Subs.sub (by repeat (first | exact List.Sublist.refl _ | exact List.nil_sublist _ | refine List.Sublist.cons _ ?_))))) ?_) | (apply g_sot; first | (refine sot_skip rfl ?_) | (refine sot_take rfl rfl rfl rfl (by kernel_rfl) (by decide +kernel) (by decide +kernel) ?_; (first | (apply ky_move; refine sy_val (y_move rfl rfl) ?_) | (apply ky_bin; refine sy_bin rfl rfl ?_; first | first | (refine sy_val (y_slice0 rfl rfl rfl (by omega) (by omega)) ?_) | (refine sy_val (y_sliceAt rfl rfl rfl rfl (by omega) (by omega) (by omega) (by omega)) ?_) | (first | (apply kb_add; first | refine bb_add ⟨by omega, by omega⟩ ?_ | refine bb_of rfl ?_) | refine bb_of rfl ?_)) | (apply ky_asgn; refine sy_val (y_assign rfl rfl) ?_) | (apply ky_pick; refine sy_pick rfl ?_; first | (apply kp_t; refine pk_t rfl ?_) | (apply kp_f; refine pk_f rfl ?_) | refine pk_s rfl rfl ?_) | (apply ky_extr; refine sy_val (y_extract rfl rfl rfl) ?_) | (apply ky_conv; first | first | (refine sy_val (y_slice0 rfl rfl rfl (by omega) (by omega)) ?_) | (refine sy_val (y_sliceAt rfl rfl rfl rfl (by omega) (by omega) (by omega) (by omega)) ?_) | refine sy_val (c_conv (k := .i64) rfl rfl ⟨by omega, by omega⟩) ?_ | refine sy_val (c_conv (k := .u8) rfl rfl ⟨by omega, by omega⟩) ?_ | refine sy_val (c_conv (k := .u64) rfl rfl ⟨by omega, by omega⟩) ?_ | refine sy_val (c_convw rfl rfl) ?_) | (apply ky_bi; first | first | (refine sy_val (y_slice0 rfl rfl rfl (by omega) (by omega)) ?_) | (refine sy_val (y_sliceAt rfl rfl rfl rfl (by omega) (by omega) (by omega) (by omega)) ?_) | refine sy_val (c_len rfl rfl) ?_ | refine sy_val (c_len_str rfl rfl) ?_) | (apply ky_slice; first | first | (refine sy_val (y_slice0 rfl rfl rfl (by omega) (by omega)) ?_) | (refine sy_val (y_sliceAt rfl rfl rfl rfl (by omega) (by omega) (by omega) (by omega)) ?_) | refine sy_val (c_sliceStr rfl rfl rfl rfl (by omega) (by omega) (by omega)) ?_) | first | (refine sy_val (y_slice0 rfl rfl rfl (by omega) (by omega)) ?_) | (refine sy_val (y_sliceAt rfl rfl rfl rfl (by omega) (by omega) (by omega) (by omega)) ?_))) | (refine sot_takeg rfl rfl rfl rfl rfl (by kernel_rfl) (by decide +kernel) (by decide +kernel) ?_; first | (apply gd_t) | (apply gd_ft) | (apply gd_tf) | (apply gd_dec_t <;> intro hq <;> (try (exfalso; omega))) | (apply gd_dec_f <;> intro hq <;> (try (exfalso; omega))) | (apply gd_beq_t <;> intro hq <;> (try (exfalso; omega))) | (apply gd_beq_f <;> intro hq <;> (try (exfalso; omega))) | (apply gd_bne_t <;> intro hq <;> (try (exfalso; omega))) | (apply gd_bne_f <;> intro hq <;> (try (exfalso; omega))) | (apply gd_not_t <;> intro hq) | (apply gd_not_f <;> intro hq) | (apply gd_raw_t <;> intro hq) | (apply gd_raw_f <;> intro hq)) | (refine sot_next rfl ?_) | (refine so_done (by decide +kernel) ?_) | (refine sot_all (by kernel_rfl) ?_)) | (apply g_soa; first | (refine soa_end rfl) | (refine soa_no (by decide +kernel) ?_) | (refine soa_yes rfl ?_ ?_)) | (apply g_sy; (first | (apply ky_move; refine sy_val (y_move rfl rfl) ?_) | (apply ky_bin; refine sy_bin rfl rfl ?_; first | first | (refine sy_val (y_slice0 rfl rfl rfl (by omega) (by omega)) ?_) | (refine sy_val (y_sliceAt rfl rfl rfl rfl (by omega) (by omega) (by omega) (by omega)) ?_) | (first | (apply kb_add; first | refine bb_add ⟨by omega, by omega⟩ ?_ | refine bb_of rfl ?_) | refine bb_of rfl ?_)) | (apply ky_asgn; refine sy_val (y_assign rfl rfl) ?_) | (apply ky_pick; refine sy_pick rfl ?_; first | (apply kp_t; refine pk_t rfl ?_) | (apply kp_f; refine pk_f rfl ?_) | refine pk_s rfl rfl ?_) | (apply ky_extr; refine sy_val (y_extract rfl rfl rfl) ?_) | (apply ky_conv; first | first | (refine sy_val (y_slice0 rfl rfl rfl (by omega) (by omega)) ?_) | (refine sy_val (y_sliceAt rfl rfl rfl rfl (by omega) (by omega) (by omega) (by omega)) ?_) | refine sy_val (c_conv (k := .i64) rfl rfl ⟨by omega, by omega⟩) ?_ | refine sy_val (c_conv (k := .u8) rfl rfl ⟨by omega, by omega⟩) ?_ | refine sy_val (c_conv (k := .u64) rfl rfl ⟨by omega, by omega⟩) ?_ | refine sy_val (c_convw rfl rfl) ?_) | (apply ky_bi; first | first | (refine sy_val (y_slice0 rfl rfl rfl (by omega) (by omega)) ?_) | (refine sy_val (y_sliceAt rfl rfl rfl rfl (by omega) (by omega) (by omega) (by omega)) ?_) | refine sy_val (c_len rfl rfl) ?_ | refine sy_val (c_len_str rfl rfl) ?_) | (apply ky_slice; first | first | (refine sy_val (y_slice0 rfl rfl rfl (by omega) (by omega)) ?_) | (refine sy_val (y_sliceAt rfl rfl rfl rfl (by omega) (by omega) (by omega) (by omega)) ?_) | refine sy_val (c_sliceStr rfl rfl rfl rfl (by omega) (by omega) (by omega)) ?_) | first | (refine sy_val (y_slice0 rfl rfl rfl (by omega) (by omega)) ?_) | (refine sy_val (y_sliceAt rfl rfl rfl rfl (by omega) (by omega) (by omega) (by omega)) ?_))) | (apply sw_seq) | (apply at_srd) | (apply sw_skip) | (apply sw_ret) | (apply sw_exit) | (apply sw_block) | (apply sw_region) | (refine sw_cd rfl ?_; first | (apply gd_t) | (apply gd_ft) | (apply gd_tf) | (apply gd_dec_t <;> intro hq <;> (try (exfalso; omega))) | (apply gd_dec_f <;> intro hq <;> (try (exfalso; omega))) | (apply gd_beq_t <;> intro hq <;> (try (exfalso; omega))) | (apply gd_beq_f <;> intro hq <;> (try (exfalso; omega))) | (apply gd_bne_t <;> intro hq <;> (try (exfalso; omega))) | (apply gd_bne_f <;> intro hq <;> (try (exfalso; omega))) | (apply gd_not_t <;> intro hq) | (apply gd_not_f <;> intro hq) | (apply gd_raw_t <;> intro hq) | (apply gd_raw_f <;> intro hq)) | (apply at_thn) | (apply at_thn_ret) | (apply at_thn_exit) | (apply at_inb) | (apply at_inb_ret) | (apply at_inb_exit) | refine at_inb_pass rfl ?_ | ((first | (refine g_reg (id := 9) ?_; refine c_drawno (H) (fun _ hw => hw.subs (by repeat (first | refine Subs.cons (by repeat constructor) ?_ | exact Subs.sub (by repeat (first | exact List.Sublist.refl _ | exact List.nil_sublist _ | refine List.Sublist.cons _ ?_))))) ?_))) | refine c_drawn (by kernel_rfl) ?_)
    rw [show ((m : Int)).toNat * 4 = m * 4 from rfl, hst]
    refine at_meet (m + min m (K - m)) ⟨⟨by omega, fun h => by omega⟩, by omega⟩ (by repeat (first | exact Le.nil _ | refine Le.cons (by first | rfl | (exact congrArg some (congrArg (Value.int _) (by omega)))) ?_)) (fun _ hw => hw.subs (by repeat (first | refine Subs.cons (by repeat constructor) ?_ | exact Subs.sub (by repeat (first | exact List.Sublist.refl _ | exact List.nil_sublist _ | refine List.Sublist.cons _ ?_)))))
  · obtain rfl : m = K := by omega
    repeat' (first | (apply g_sl; first | (apply ks_nil; refine sl_nil ?_) | (apply ks_move; refine s_move rfl rfl ?_) | (apply ks_bin; refine s_bin rfl rfl rfl ?_; first | fail | (first | (apply kb_add; first | refine bb_add ⟨by omega, by omega⟩ ?_ | refine bb_of rfl ?_) | refine bb_of rfl ?_)) | (apply ks_asgn; refine s_asgn rfl rfl ?_) | (apply ks_pick; refine s_pick rfl rfl ?_; first | (apply kp_t; refine pk_t rfl ?_) | (apply kp_f; refine pk_f rfl ?_) | refine pk_s rfl rfl ?_) | (apply ks_extr; refine s_extr (y_extract rfl rfl rfl) rfl ?_) | (apply ks_conv; first | fail | refine s_conv (c_conv (k := .i64) rfl rfl ⟨by omega, by omega⟩) rfl ?_ | refine s_conv (c_conv (k := .u8) rfl rfl ⟨by omega, by omega⟩) rfl ?_ | refine s_conv (c_conv (k := .u64) rfl rfl ⟨by omega, by omega⟩) rfl ?_ | refine s_conv (c_convw rfl rfl) rfl ?_) | (apply ks_fn; first | fail) | (apply ks_bi; first | fail | refine s_call (c_len rfl rfl) rfl ?_ | refine s_call (c_len_str rfl rfl) rfl ?_ | refine s_call (c_bi rfl rfl rfl rfl) rfl ?_ | refine c_append rfl rfl rfl rfl (by first | rfl | simp [ints]) (by first | rfl | exact ints_one _ | exact octs_one _ | exact strs_one _) (by omega) rfl rfl (fun _ _ => ?_) | refine c_append_nil rfl rfl rfl rfl (by first | rfl | simp [ints]) (by first | rfl | exact ints_one _ | exact octs_one _ | exact strs_one _) (by omega) rfl rfl (fun _ _ => ?_)) | (apply ks_slice; first | fail | refine s_slice (c_sliceStr rfl rfl rfl rfl (by omega) (by omega) (by omega)) rfl ?_) | (apply ks_make; refine c_make rfl rfl rfl rfl (by omega) (by omega) rfl rfl (fun _ => ?_)) | (apply ks_guard; first | (refine sl_gd rfl rfl rfl rfl ?_; first | (apply gd_t) | (apply gd_ft) | (apply gd_tf) | (apply gd_dec_t <;> intro hq <;> (try (exfalso; omega))) | (apply gd_dec_f <;> intro hq <;> (try (exfalso; omega))) | (apply gd_beq_t <;> intro hq <;> (try (exfalso; omega))) | (apply gd_beq_f <;> intro hq <;> (try (exfalso; omega))) | (apply gd_bne_t <;> intro hq <;> (try (exfalso; omega))) | (apply gd_bne_f <;> intro hq <;> (try (exfalso; omega))) | (apply gd_not_t <;> intro hq) | (apply gd_not_f <;> intro hq) | (apply gd_raw_t <;> intro hq) | (apply gd_raw_f <;> intro hq)) | refine sl_skip_u rfl rfl rfl rfl rfl rfl ?_) | fail) | (apply sw_seq) | (apply at_srd) | (apply sw_skip) | (apply sw_ret) | (apply sw_exit) | (apply sw_block) | (apply sw_region) | (refine sw_cd rfl ?_; first | (apply gd_t) | (apply gd_ft) | (apply gd_tf) | (apply gd_dec_t <;> intro hq <;> (try (exfalso; omega))) | (apply gd_dec_f <;> intro hq <;> (try (exfalso; omega))) | (apply gd_beq_t <;> intro hq <;> (try (exfalso; omega))) | (apply gd_beq_f <;> intro hq <;> (try (exfalso; omega))) | (apply gd_bne_t <;> intro hq <;> (try (exfalso; omega))) | (apply gd_bne_f <;> intro hq <;> (try (exfalso; omega))) | (apply gd_not_t <;> intro hq) | (apply gd_not_f <;> intro hq) | (apply gd_raw_t <;> intro hq) | (apply gd_raw_f <;> intro hq)) | (apply at_thn) | (apply at_thn_ret) | (apply at_thn_exit) | (apply at_inb) | (apply at_inb_ret) | (apply at_inb_exit) | refine at_inb_pass rfl ?_ | refine c_drawn (by kernel_rfl) ?_)
    rw [rowP_all]
    refine e_sc _ (.inr rfl) rfl (List.Sublist.refl _) ?_
    exact ⟨_, rfl, rfl⟩
theorem refBlank_sv (G : Ctx) (H : List Ent) (x y z : Int) : SV Tryd.prog G 156 [penV x y z] H (.agg (qd (32, x, y, z)).toArray) := by
  refine sv_enter1 Tryd.func156 rfl rfl rfl rfl rfl ?_
  repeat' (first | (apply g_sl; first | (apply ks_nil; refine sl_nil ?_) | (apply ks_load; first | (refine s_load rfl rfl ?_; first | refine ld_cell rfl ?_ | refine ld_whole rfl ?_ | refine ld_elem rfl ?_ | refine ld_part rfl rfl ?_) | fail) | (apply ks_build; first | refine s_build (c_build rfl rfl rfl) rfl ?_ | fail) | (apply ks_store; first | first | refine c_store rfl rfl rfl rfl rfl rfl rfl ?_ | refine c_storew rfl rfl rfl rfl rfl rfl rfl rfl ?_ | refine c_storee rfl rfl rfl rfl rfl (by omega) rfl ?_ | fail) | (apply ks_box; refine c_box rfl rfl rfl rfl rfl rfl (fun _ => ?_)) | (apply ks_alloc; refine c_alloc rfl rfl rfl rfl (fun _ => ?_)) | fail) | (apply sw_seq) | (apply at_srd) | (apply sw_skip) | (apply sw_ret) | (apply sw_exit) | (apply sw_block) | (apply sw_region) | (refine sw_cd rfl ?_; first | (apply gd_t) | (apply gd_ft) | (apply gd_tf) | (apply gd_dec_t <;> intro hq <;> (try (exfalso; omega))) | (apply gd_dec_f <;> intro hq <;> (try (exfalso; omega))) | (apply gd_beq_t <;> intro hq <;> (try (exfalso; omega))) | (apply gd_beq_f <;> intro hq <;> (try (exfalso; omega))) | (apply gd_bne_t <;> intro hq <;> (try (exfalso; omega))) | (apply gd_bne_f <;> intro hq <;> (try (exfalso; omega))) | (apply gd_not_t <;> intro hq) | (apply gd_not_f <;> intro hq) | (apply gd_raw_t <;> intro hq) | (apply gd_raw_f <;> intro hq)) | (apply at_thn) | (apply at_thn_ret) | (apply at_thn_exit) | (apply at_inb) | (apply at_inb_ret) | (apply at_inb_exit) | refine at_inb_pass rfl ?_ | refine c_drawn (by kernel_rfl) ?_)
  all_goals (refine e_scc H (by first | exact .inl rfl | exact .inr rfl) rfl rfl rfl (fun _ hw => hw.subs (by repeat (first | refine Subs.cons (by repeat constructor) ?_ | exact Subs.sub (by repeat (first | exact List.Sublist.refl _ | exact List.nil_sublist _ | refine List.Sublist.cons _ ?_))))) ?_; exact ⟨rfl, rfl⟩)
theorem rowP_next (q : Qd) {K m : Nat} (h : m < K) : over (qds (rowP q K m)) (m * 4) (qd q) = qds (rowP q K (m + 1)) := by
  rw [qds_over q (by rw [rowP_len q (Nat.le_of_lt h)]; exact h)]
  congr 1
  unfold rowP
  rw [List.set_append_right _ _ (by simp), List.length_replicate, Nat.sub_self, show K - m = (K - (m + 1)) + 1 from by omega, List.replicate_succ, List.set_cons_zero, List.replicate_succ', List.append_assoc]
  rfl
theorem blanks_sc (G : Ctx) (H : List Ent) (k : Nat) (x y z : Int) (hk : k ≤ 1000000) : SC Tryd.prog G 114 [.int .i64 k, penV x y z] H fun v H' => ∃ b, v = .slice (some ⟨b, 0, none⟩) k k ∧ H' = .own 170 4 (some ⟨b, 0, none⟩) k k (qds (List.replicate k (32, x, y, z))) :: H := by
  have cB := fun H => refBlank_sv G H x y z
  refine sc_enter2 Tryd.func114 rfl rfl rfl rfl rfl ?_
  repeat' (first | (apply g_sl; first | (apply ks_nil; refine sl_nil ?_) | (apply ks_move; refine s_move rfl rfl ?_) | (apply ks_bin; refine s_bin rfl rfl rfl ?_; first | first | (refine c_makes rfl rfl rfl rfl (by omega) (by omega) (by omega) rfl rfl (fun _ => ?_)) | (first | (apply kb_add; first | refine bb_add ⟨by omega, by omega⟩ ?_ | refine bb_of rfl ?_) | refine bb_of rfl ?_)) | (apply ks_load; first | (refine s_load rfl rfl ?_; first | refine ld_cell rfl ?_ | refine ld_whole rfl ?_ | refine ld_elem rfl ?_ | refine ld_part rfl rfl ?_) | first | (refine c_makes rfl rfl rfl rfl (by omega) (by omega) (by omega) rfl rfl (fun _ => ?_))) | (apply ks_asgn; refine s_asgn rfl rfl ?_) | (apply ks_indexA; first | refine s_indexA (c_indexAddr rfl rfl rfl rfl (by omega) (by omega)) rfl ?_ | first | (refine c_makes rfl rfl rfl rfl (by omega) (by omega) (by omega) rfl rfl (fun _ => ?_))) | (apply ks_fn; first | fail) | (apply ks_bi; first | first | (refine c_makes rfl rfl rfl rfl (by omega) (by omega) (by omega) rfl rfl (fun _ => ?_)) | refine s_call (c_len rfl rfl) rfl ?_ | refine s_call (c_len_str rfl rfl) rfl ?_ | refine s_call (c_bi rfl rfl rfl rfl) rfl ?_ | refine c_append rfl rfl rfl rfl (by first | rfl | simp [ints]) (by first | rfl | exact ints_one _ | exact octs_one _ | exact strs_one _) (by omega) rfl rfl (fun _ _ => ?_) | refine c_append_nil rfl rfl rfl rfl (by first | rfl | simp [ints]) (by first | rfl | exact ints_one _ | exact octs_one _ | exact strs_one _) (by omega) rfl rfl (fun _ _ => ?_)) | (apply ks_store; first | first | refine c_store rfl rfl rfl rfl rfl rfl rfl ?_ | refine c_storew rfl rfl rfl rfl rfl rfl rfl rfl ?_ | refine c_storee rfl rfl rfl rfl rfl (by omega) rfl ?_ | first | (refine c_makes rfl rfl rfl rfl (by omega) (by omega) (by omega) rfl rfl (fun _ => ?_))) | (apply ks_box; refine c_box rfl rfl rfl rfl rfl rfl (fun _ => ?_)) | (apply ks_make; refine c_make rfl rfl rfl rfl (by omega) (by omega) rfl rfl (fun _ => ?_)) | first | (refine c_makes rfl rfl rfl rfl (by omega) (by omega) (by omega) rfl rfl (fun _ => ?_))) | (apply sw_seq) | (apply at_srd) | (apply sw_skip) | (apply sw_ret) | (apply sw_exit) | (apply sw_block) | (apply sw_region) | (refine sw_cd rfl ?_; first | (apply gd_t) | (apply gd_ft) | (apply gd_tf) | (apply gd_dec_t <;> intro hq <;> (try (exfalso; omega))) | (apply gd_dec_f <;> intro hq <;> (try (exfalso; omega))) | (apply gd_beq_t <;> intro hq <;> (try (exfalso; omega))) | (apply gd_beq_f <;> intro hq <;> (try (exfalso; omega))) | (apply gd_bne_t <;> intro hq <;> (try (exfalso; omega))) | (apply gd_bne_f <;> intro hq <;> (try (exfalso; omega))) | (apply gd_not_t <;> intro hq) | (apply gd_not_f <;> intro hq) | (apply gd_raw_t <;> intro hq) | (apply gd_raw_f <;> intro hq)) | (apply at_thn) | (apply at_thn_ret) | (apply at_thn_exit) | (apply at_inb) | (apply at_inb_ret) | (apply at_inb_exit) | refine at_inb_pass rfl ?_ | refine c_drawn (by kernel_rfl) ?_)
  rename_i b3 b
  rw [Int.toNat_natCast, made_qds]
  refine sw_loopg (α := Nat) (fun m => [(3, .pointer (some ⟨b3, 0, none⟩)), (5, .slice (some ⟨b, 0, none⟩) k k), (9, .slice (some ⟨b, 0, none⟩) k k), (10, .int .i64 k), (11, .int .i64 m)]) (fun m => .own 170 4 (some ⟨b, 0, none⟩) k k (qds (rowP (32, x, y, z) k m)) :: .blk b3 61 [.int .i64 x, .int .i64 y, .int .i64 z] :: H)
    (fun m => m ≤ k) (fun m => k - m) 0 (Nat.zero_le _) (by repeat (first | exact Le.nil _ | refine Le.cons (by first | rfl | (exact congrArg some (congrArg (Value.int _) (by omega)))) ?_)) ?_ ?_
  · rw [show rowP (32, x, y, z) k 0 = List.replicate k qz from by simp [rowP]]
    exact (fun _ hw => hw.subs (by repeat (first | refine Subs.cons (by repeat constructor) ?_ | exact Subs.sub (by repeat (first | exact List.Sublist.refl _ | exact List.nil_sublist _ | refine List.Sublist.cons _ ?_)))))
  intro m hm
  have hrl := rowP_len (32, x, y, z) hm
  have hql : (qds (rowP (32, x, y, z) k m)).length = k * 4 := by rw [qds_len, hrl]
  by_cases hlt : (m : Int) < k
  · have hst := rowP_next (32, x, y, z) (K := k) (m := m) (by omega)
    have hl1 : ((m : Int)).toNat * 4 + 4 ≤ (qds (rowP (32, x, y, z) k m)).length := by rw [hql]; omega
    repeat' (first | (apply g_sl; first | (apply ks_nil; refine sl_nil ?_) | (apply ks_move; refine s_move rfl rfl ?_) | (apply ks_bin; refine s_bin rfl rfl rfl ?_; first | first | (refine s_indexA (c_indexAddr rfl rfl rfl hql (by omega) (by omega)) rfl ?_) | (refine c_storees rfl rfl rfl rfl rfl rfl (Nat.zero_lt_succ 3) hl1 rfl ?_) | (first | (apply kb_add; first | refine bb_add ⟨by omega, by omega⟩ ?_ | refine bb_of rfl ?_) | refine bb_of rfl ?_)) | (apply ks_load; first | (refine s_load rfl rfl ?_; first | refine ld_cell rfl ?_ | refine ld_whole rfl ?_ | refine ld_elem rfl ?_ | refine ld_part rfl rfl ?_) | first | (refine s_indexA (c_indexAddr rfl rfl rfl hql (by omega) (by omega)) rfl ?_) | (refine c_storees rfl rfl rfl rfl rfl rfl (Nat.zero_lt_succ 3) hl1 rfl ?_)) | (apply ks_asgn; refine s_asgn rfl rfl ?_) | (apply ks_indexA; first | refine s_indexA (c_indexAddr rfl rfl rfl rfl (by omega) (by omega)) rfl ?_ | first | (refine s_indexA (c_indexAddr rfl rfl rfl hql (by omega) (by omega)) rfl ?_) | (refine c_storees rfl rfl rfl rfl rfl rfl (Nat.zero_lt_succ 3) hl1 rfl ?_)) | (apply ks_fn; first | refine c_callv rfl rfl rfl (cB _) rfl rfl ?_) | (apply ks_bi; first | first | (refine s_indexA (c_indexAddr rfl rfl rfl hql (by omega) (by omega)) rfl ?_) | (refine c_storees rfl rfl rfl rfl rfl rfl (Nat.zero_lt_succ 3) hl1 rfl ?_) | refine s_call (c_len rfl rfl) rfl ?_ | refine s_call (c_len_str rfl rfl) rfl ?_ | refine s_call (c_bi rfl rfl rfl rfl) rfl ?_ | refine c_append rfl rfl rfl rfl (by first | rfl | simp [ints]) (by first | rfl | exact ints_one _ | exact octs_one _ | exact strs_one _) (by omega) rfl rfl (fun _ _ => ?_) | refine c_append_nil rfl rfl rfl rfl (by first | rfl | simp [ints]) (by first | rfl | exact ints_one _ | exact octs_one _ | exact strs_one _) (by omega) rfl rfl (fun _ _ => ?_)) | (apply ks_store; first | first | refine c_store rfl rfl rfl rfl rfl rfl rfl ?_ | refine c_storew rfl rfl rfl rfl rfl rfl rfl rfl ?_ | refine c_storee rfl rfl rfl rfl rfl (by omega) rfl ?_ | first | (refine s_indexA (c_indexAddr rfl rfl rfl hql (by omega) (by omega)) rfl ?_) | (refine c_storees rfl rfl rfl rfl rfl rfl (Nat.zero_lt_succ 3) hl1 rfl ?_)) | (apply ks_box; refine c_box rfl rfl rfl rfl rfl rfl (fun _ => ?_)) | (apply ks_make; refine c_make rfl rfl rfl rfl (by omega) (by omega) rfl rfl (fun _ => ?_)) | first | (refine s_indexA (c_indexAddr rfl rfl rfl hql (by omega) (by omega)) rfl ?_) | (refine c_storees rfl rfl rfl rfl rfl rfl (Nat.zero_lt_succ 3) hl1 rfl ?_)) | (apply sw_seq) | (apply at_srd) | (apply sw_skip) | (apply sw_ret) | (apply sw_exit) | (apply sw_block) | (apply sw_region) | (refine sw_cd rfl ?_; first | (apply gd_t) | (apply gd_ft) | (apply gd_tf) | (apply gd_dec_t <;> intro hq <;> (try (exfalso; omega))) | (apply gd_dec_f <;> intro hq <;> (try (exfalso; omega))) | (apply gd_beq_t <;> intro hq <;> (try (exfalso; omega))) | (apply gd_beq_f <;> intro hq <;> (try (exfalso; omega))) | (apply gd_bne_t <;> intro hq <;> (try (exfalso; omega))) | (apply gd_bne_f <;> intro hq <;> (try (exfalso; omega))) | (apply gd_not_t <;> intro hq) | (apply gd_not_f <;> intro hq) | (apply gd_raw_t <;> intro hq) | (apply gd_raw_f <;> intro hq)) | (apply at_thn) | (apply at_thn_ret) | (apply at_thn_exit) | (apply at_inb) | (apply at_inb_ret) | (apply at_inb_exit) | refine at_inb_pass rfl ?_ | refine c_drawn (by kernel_rfl) ?_)
    rw [show ((m : Int)).toNat * 4 = m * 4 from rfl, hst]
    exact at_meet (m + 1) ⟨by omega, by omega⟩ (by repeat (first | exact Le.nil _ | refine Le.cons (by first | rfl | (exact congrArg some (congrArg (Value.int _) (by omega)))) ?_)) (fun _ hw => hw.subs (by repeat (first | refine Subs.cons (by repeat constructor) ?_ | exact Subs.sub (by repeat (first | exact List.Sublist.refl _ | exact List.nil_sublist _ | refine List.Sublist.cons _ ?_)))))
  · obtain rfl : m = k := by omega
    repeat' (first | (apply g_sl; first | (apply ks_nil; refine sl_nil ?_) | (apply ks_move; refine s_move rfl rfl ?_) | (apply ks_bin; refine s_bin rfl rfl rfl ?_; first | fail | (first | (apply kb_add; first | refine bb_add ⟨by omega, by omega⟩ ?_ | refine bb_of rfl ?_) | refine bb_of rfl ?_)) | (apply ks_load; first | (refine s_load rfl rfl ?_; first | refine ld_cell rfl ?_ | refine ld_whole rfl ?_ | refine ld_elem rfl ?_ | refine ld_part rfl rfl ?_) | fail) | (apply ks_asgn; refine s_asgn rfl rfl ?_) | (apply ks_indexA; first | refine s_indexA (c_indexAddr rfl rfl rfl rfl (by omega) (by omega)) rfl ?_ | fail) | (apply ks_fn; first | fail) | (apply ks_bi; first | fail | refine s_call (c_len rfl rfl) rfl ?_ | refine s_call (c_len_str rfl rfl) rfl ?_ | refine s_call (c_bi rfl rfl rfl rfl) rfl ?_ | refine c_append rfl rfl rfl rfl (by first | rfl | simp [ints]) (by first | rfl | exact ints_one _ | exact octs_one _ | exact strs_one _) (by omega) rfl rfl (fun _ _ => ?_) | refine c_append_nil rfl rfl rfl rfl (by first | rfl | simp [ints]) (by first | rfl | exact ints_one _ | exact octs_one _ | exact strs_one _) (by omega) rfl rfl (fun _ _ => ?_)) | (apply ks_store; first | first | refine c_store rfl rfl rfl rfl rfl rfl rfl ?_ | refine c_storew rfl rfl rfl rfl rfl rfl rfl rfl ?_ | refine c_storee rfl rfl rfl rfl rfl (by omega) rfl ?_ | fail) | (apply ks_box; refine c_box rfl rfl rfl rfl rfl rfl (fun _ => ?_)) | (apply ks_make; refine c_make rfl rfl rfl rfl (by omega) (by omega) rfl rfl (fun _ => ?_)) | fail) | (apply sw_seq) | (apply at_srd) | (apply sw_skip) | (apply sw_ret) | (apply sw_exit) | (apply sw_block) | (apply sw_region) | (refine sw_cd rfl ?_; first | (apply gd_t) | (apply gd_ft) | (apply gd_tf) | (apply gd_dec_t <;> intro hq <;> (try (exfalso; omega))) | (apply gd_dec_f <;> intro hq <;> (try (exfalso; omega))) | (apply gd_beq_t <;> intro hq <;> (try (exfalso; omega))) | (apply gd_beq_f <;> intro hq <;> (try (exfalso; omega))) | (apply gd_bne_t <;> intro hq <;> (try (exfalso; omega))) | (apply gd_bne_f <;> intro hq <;> (try (exfalso; omega))) | (apply gd_not_t <;> intro hq) | (apply gd_not_f <;> intro hq) | (apply gd_raw_t <;> intro hq) | (apply gd_raw_f <;> intro hq)) | (apply at_thn) | (apply at_thn_ret) | (apply at_thn_exit) | (apply at_inb) | (apply at_inb_ret) | (apply at_inb_exit) | refine at_inb_pass rfl ?_ | refine c_drawn (by kernel_rfl) ?_)
    rw [rowP_all]
    refine e_sc (.own 170 4 (some ⟨b, 0, none⟩) m m (qds (List.replicate m (32, x, y, z))) :: H) (.inr rfl) rfl (List.Sublist.cons_cons _ (List.Sublist.cons _ (List.Sublist.refl _))) ?_
    exact ⟨_, rfl, rfl⟩
theorem gblanks_sc (G : Ctx) (H : List Ent) (w h : Nat) (x y z : Int) (hw : 1 ≤ w ∧ w ≤ 160) (hh : 1 ≤ h ∧ h ≤ 60) : SC Tryd.prog G 154 [.int .i64 w, .int .i64 h, penV x y z] H fun v H' => ∃ b, v = gridV w h (some ⟨b, 0, none⟩) (w * h) (w * h) ∧ H' = .own 170 4 (some ⟨b, 0, none⟩) (w * h) (w * h) (qds (List.replicate (w * h) (32, x, y, z))) :: H := by
  have cB := fun H => blank_sv G H x y z
  have hb : w * h ≤ 160 * 60 := Nat.mul_le_mul (by omega) (by omega)
  have e1 : (w : Int) * (h : Int) = ((w * h : Nat) : Int) := by simp
  have cR := fun (H : List Ent) (a : Option Addr) {vs : List Value} [RdC G H a vs] (hv : vs = qd (32, x, y, z)) => repQ_sc G H (32, x, y, z) a 1 ((w : Int) * (h : Int)) (by rw [e1]; omega) hv
  rw [e1, Int.toNat_natCast] at cR
  generalize hp : w * h = p at *
  refine sc_enter3 Tryd.func154 rfl rfl rfl rfl rfl ?_
  repeat' (first | (apply g_sl; first | (apply ks_nil; refine sl_nil ?_) | (apply ks_move; refine s_move rfl rfl ?_) | (apply ks_bin; refine s_bin rfl rfl rfl ?_; first | first | refine c_bsA rfl rfl rfl rfl rfl rfl rfl rfl rfl (fun _ => ?_) | (refine bb_mul ⟨by omega, by omega⟩ ?_; rw [e1]) | (first | (apply kb_mul; first | refine bb_mul ⟨by omega, by omega⟩ ?_ | refine bb_of rfl ?_) | refine bb_of rfl ?_)) | (apply ks_load; first | (refine s_load rfl rfl ?_; first | refine ld_cell rfl ?_ | refine ld_whole rfl ?_ | refine ld_elem rfl ?_ | refine ld_part rfl rfl ?_) | first | refine c_bsA rfl rfl rfl rfl rfl rfl rfl rfl rfl (fun _ => ?_) | (refine bb_mul ⟨by omega, by omega⟩ ?_; rw [e1])) | (apply ks_build; first | refine s_build (c_build rfl rfl rfl) rfl ?_ | first | refine c_bsA rfl rfl rfl rfl rfl rfl rfl rfl rfl (fun _ => ?_) | (refine bb_mul ⟨by omega, by omega⟩ ?_; rw [e1])) | (apply ks_fn; first | first | refine c_callv rfl rfl rfl (cB _) rfl rfl ?_ | (refine c_call rfl rfl rfl (cR _ _ rfl) rfl rfl ?_; rintro _ _ ⟨b, rfl, rfl⟩)) | (apply ks_store; first | first | refine c_store rfl rfl rfl rfl rfl rfl rfl ?_ | refine c_storew rfl rfl rfl rfl rfl rfl rfl rfl ?_ | refine c_storee rfl rfl rfl rfl rfl (by omega) rfl ?_ | first | refine c_bsA rfl rfl rfl rfl rfl rfl rfl rfl rfl (fun _ => ?_) | (refine bb_mul ⟨by omega, by omega⟩ ?_; rw [e1])) | (apply ks_box; refine c_box rfl rfl rfl rfl rfl rfl (fun _ => ?_)) | (apply ks_alloc; refine c_alloc rfl rfl rfl rfl (fun _ => ?_)) | (apply ks_bs; first | refine c_buildSlice rfl rfl rfl rfl rfl rfl rfl rfl rfl rfl (fun _ => ?_) | first | refine c_bsA rfl rfl rfl rfl rfl rfl rfl rfl rfl (fun _ => ?_) | (refine bb_mul ⟨by omega, by omega⟩ ?_; rw [e1])) | first | refine c_bsA rfl rfl rfl rfl rfl rfl rfl rfl rfl (fun _ => ?_) | (refine bb_mul ⟨by omega, by omega⟩ ?_; rw [e1])) | (apply sw_seq) | (apply at_srd) | (apply sw_skip) | (apply sw_ret) | (apply sw_exit) | (apply sw_block) | (apply sw_region) | (refine sw_cd rfl ?_; first | (apply gd_t) | (apply gd_ft) | (apply gd_tf) | (apply gd_dec_t <;> intro hq <;> (try (exfalso; omega))) | (apply gd_dec_f <;> intro hq <;> (try (exfalso; omega))) | (apply gd_beq_t <;> intro hq <;> (try (exfalso; omega))) | (apply gd_beq_f <;> intro hq <;> (try (exfalso; omega))) | (apply gd_bne_t <;> intro hq <;> (try (exfalso; omega))) | (apply gd_bne_f <;> intro hq <;> (try (exfalso; omega))) | (apply gd_not_t <;> intro hq) | (apply gd_not_f <;> intro hq) | (apply gd_raw_t <;> intro hq) | (apply gd_raw_f <;> intro hq)) | (apply at_thn) | (apply at_thn_ret) | (apply at_thn_exit) | (apply at_inb) | (apply at_inb_ret) | (apply at_inb_exit) | refine at_inb_pass rfl ?_ | refine c_drawn (by kernel_rfl) ?_)
  rename_i b1 b2 b3
  refine e_scc (.own 170 4 (some ⟨b, 0, none⟩) p p (qds (List.replicate p (32, x, y, z))) :: H) (by first | exact .inl rfl | exact .inr rfl) rfl rfl rfl (fun _ hw => hw.subs (by repeat (first | refine Subs.cons (by repeat constructor) ?_ | exact Subs.sub (by repeat (first | exact List.Sublist.refl _ | exact List.nil_sublist _ | refine List.Sublist.cons _ ?_))))) ?_
  exact ⟨b, rfl, rfl⟩
theorem new_e (G : Ctx) (H : List Ent) (w h : Int) (x y z e : Int) (he : (sizeE w h = 1 ∧ e = 1) ∨ (sizeE w h = 0 ∧ penB x y z = false ∧ e = 4)) : SV Tryd.prog G 108 [.int .i64 w, .int .i64 h, penV x y z] H (.tuple #[gridZ, .int .i64 e]) := by
  have cS := fun H => gridSize_sv G H w h
  have cP := fun H => penCheck_sv G H x y z
  rcases he with ⟨h1, rfl⟩ | ⟨h1, h2, rfl⟩
  · rw [h1] at cS
    refine sv_enter3 Tryd.func108 rfl rfl rfl rfl rfl ?_
    repeat' (first | (apply g_sl; first | (apply ks_nil; refine sl_nil ?_) | (apply ks_move; refine s_move rfl rfl ?_) | (apply ks_bin; refine s_bin rfl rfl rfl ?_; first | fail | (first | refine bb_of rfl ?_)) | (apply ks_load; first | (refine s_load rfl rfl ?_; first | refine ld_cell rfl ?_ | refine ld_whole rfl ?_ | refine ld_elem rfl ?_ | refine ld_part rfl rfl ?_) | fail) | (apply ks_asgn; refine s_asgn rfl rfl ?_) | (apply ks_build; first | refine s_build (c_build rfl rfl rfl) rfl ?_ | fail) | (apply ks_fn; first | first | refine c_callv rfl rfl rfl (cS _) rfl rfl ?_ | refine c_callv rfl rfl rfl (cP _) rfl rfl ?_) | (apply ks_store; first | first | refine c_store rfl rfl rfl rfl rfl rfl rfl ?_ | refine c_storew rfl rfl rfl rfl rfl rfl rfl rfl ?_ | refine c_storee rfl rfl rfl rfl rfl (by omega) rfl ?_ | fail) | (apply ks_box; refine c_box rfl rfl rfl rfl rfl rfl (fun _ => ?_)) | (apply ks_alloc; refine c_alloc rfl rfl rfl rfl (fun _ => ?_)) | fail) | (apply sw_seq) | (apply at_srd) | (apply sw_skip) | (apply sw_ret) | (apply sw_exit) | (apply sw_block) | (apply sw_region) | (refine sw_cd rfl ?_; first | (apply gd_t) | (apply gd_ft) | (apply gd_tf) | (apply gd_dec_t <;> intro hq <;> (try (exfalso; omega))) | (apply gd_dec_f <;> intro hq <;> (try (exfalso; omega))) | (apply gd_beq_t <;> intro hq <;> (try (exfalso; omega))) | (apply gd_beq_f <;> intro hq <;> (try (exfalso; omega))) | (apply gd_bne_t <;> intro hq <;> (try (exfalso; omega))) | (apply gd_bne_f <;> intro hq <;> (try (exfalso; omega))) | (apply gd_not_t <;> intro hq) | (apply gd_not_f <;> intro hq) | (apply gd_raw_t <;> intro hq) | (apply gd_raw_f <;> intro hq)) | (apply at_thn) | (apply at_thn_ret) | (apply at_thn_exit) | (apply at_inb) | (apply at_inb_ret) | (apply at_inb_exit) | refine at_inb_pass rfl ?_ | refine c_drawn (by kernel_rfl) ?_)
    all_goals first | (exfalso; omega) | (refine e_scc H (by first | exact .inl rfl | exact .inr rfl) rfl rfl rfl (fun _ hw => hw.subs (by repeat (first | refine Subs.cons (by repeat constructor) ?_ | exact Subs.sub (by repeat (first | exact List.Sublist.refl _ | exact List.nil_sublist _ | refine List.Sublist.cons _ ?_))))) ?_; exact ⟨rfl, rfl⟩)
  · rw [h1] at cS
    rw [h2] at cP
    refine sv_enter3 Tryd.func108 rfl rfl rfl rfl rfl ?_
    repeat' (first | (apply g_sl; first | (apply ks_nil; refine sl_nil ?_) | (apply ks_move; refine s_move rfl rfl ?_) | (apply ks_bin; refine s_bin rfl rfl rfl ?_; first | fail | (first | refine bb_of rfl ?_)) | (apply ks_load; first | (refine s_load rfl rfl ?_; first | refine ld_cell rfl ?_ | refine ld_whole rfl ?_ | refine ld_elem rfl ?_ | refine ld_part rfl rfl ?_) | fail) | (apply ks_asgn; refine s_asgn rfl rfl ?_) | (apply ks_build; first | refine s_build (c_build rfl rfl rfl) rfl ?_ | fail) | (apply ks_fn; first | first | refine c_callv rfl rfl rfl (cS _) rfl rfl ?_ | refine c_callv rfl rfl rfl (cP _) rfl rfl ?_) | (apply ks_store; first | first | refine c_store rfl rfl rfl rfl rfl rfl rfl ?_ | refine c_storew rfl rfl rfl rfl rfl rfl rfl rfl ?_ | refine c_storee rfl rfl rfl rfl rfl (by omega) rfl ?_ | fail) | (apply ks_box; refine c_box rfl rfl rfl rfl rfl rfl (fun _ => ?_)) | (apply ks_alloc; refine c_alloc rfl rfl rfl rfl (fun _ => ?_)) | fail) | (apply sw_seq) | (apply at_srd) | (apply sw_skip) | (apply sw_ret) | (apply sw_exit) | (apply sw_block) | (apply sw_region) | (refine sw_cd rfl ?_; first | (apply gd_t) | (apply gd_ft) | (apply gd_tf) | (apply gd_dec_t <;> intro hq <;> (try (exfalso; omega))) | (apply gd_dec_f <;> intro hq <;> (try (exfalso; omega))) | (apply gd_beq_t <;> intro hq <;> (try (exfalso; omega))) | (apply gd_beq_f <;> intro hq <;> (try (exfalso; omega))) | (apply gd_bne_t <;> intro hq <;> (try (exfalso; omega))) | (apply gd_bne_f <;> intro hq <;> (try (exfalso; omega))) | (apply gd_not_t <;> intro hq) | (apply gd_not_f <;> intro hq) | (apply gd_raw_t <;> intro hq) | (apply gd_raw_f <;> intro hq)) | (apply at_thn) | (apply at_thn_ret) | (apply at_thn_exit) | (apply at_inb) | (apply at_inb_ret) | (apply at_inb_exit) | refine at_inb_pass rfl ?_ | refine c_drawn (by kernel_rfl) ?_)
    all_goals first | (exfalso; omega) | (refine e_scc H (by first | exact .inl rfl | exact .inr rfl) rfl rfl rfl (fun _ hw => hw.subs (by repeat (first | refine Subs.cons (by repeat constructor) ?_ | exact Subs.sub (by repeat (first | exact List.Sublist.refl _ | exact List.nil_sublist _ | refine List.Sublist.cons _ ?_))))) ?_; exact ⟨rfl, rfl⟩)
theorem new_sc (G : Ctx) (H : List Ent) (w h : Nat) (x y z : Int) (hw : 1 ≤ w ∧ w ≤ 160) (hh : 1 ≤ h ∧ h ≤ 60) (hp : penB x y z = true) : SC Tryd.prog G 108 [.int .i64 w, .int .i64 h, penV x y z] H fun v H' => ∃ b, v = .tuple #[gridV w h (some ⟨b, 0, none⟩) (w * h) (w * h), .int .i64 0] ∧ H' = .own 170 4 (some ⟨b, 0, none⟩) (w * h) (w * h) (qds (List.replicate (w * h) (32, x, y, z))) :: H := by
  have cS := fun H => gridSize_sv G H w h
  have cP := fun H => penCheck_sv G H x y z
  have cB := fun H => gblanks_sc G H w h x y z hw hh
  have h1 : sizeE w h = 0 := by rcases sizeE_01 (w : Int) (h : Int) with ⟨h1, _⟩ | ⟨_, h1⟩; exact h1; omega
  rw [h1] at cS
  rw [hp] at cP
  generalize w * h = p at *
  refine sc_enter3 Tryd.func108 rfl rfl rfl rfl rfl ?_
  repeat' (first | (apply g_sl; first | (apply ks_nil; refine sl_nil ?_) | (apply ks_move; refine s_move rfl rfl ?_) | (apply ks_bin; refine s_bin rfl rfl rfl ?_; first | fail | (first | refine bb_of rfl ?_)) | (apply ks_load; first | (refine s_load rfl rfl ?_; first | refine ld_cell rfl ?_ | refine ld_whole rfl ?_ | refine ld_elem rfl ?_ | refine ld_part rfl rfl ?_) | fail) | (apply ks_asgn; refine s_asgn rfl rfl ?_) | (apply ks_build; first | refine s_build (c_build rfl rfl rfl) rfl ?_ | fail) | (apply ks_fn; first | first | refine c_callv rfl rfl rfl (cS _) rfl rfl ?_ | refine c_callv rfl rfl rfl (cP _) rfl rfl ?_ | (refine c_call rfl rfl rfl (cB _) rfl rfl ?_; rintro _ _ ⟨b, rfl, rfl⟩)) | (apply ks_store; first | first | refine c_store rfl rfl rfl rfl rfl rfl rfl ?_ | refine c_storew rfl rfl rfl rfl rfl rfl rfl rfl ?_ | refine c_storee rfl rfl rfl rfl rfl (by omega) rfl ?_ | fail) | (apply ks_box; refine c_box rfl rfl rfl rfl rfl rfl (fun _ => ?_)) | (apply ks_alloc; refine c_alloc rfl rfl rfl rfl (fun _ => ?_)) | fail) | (apply sw_seq) | (apply at_srd) | (apply sw_skip) | (apply sw_ret) | (apply sw_exit) | (apply sw_block) | (apply sw_region) | (refine sw_cd rfl ?_; first | (apply gd_t) | (apply gd_ft) | (apply gd_tf) | (apply gd_dec_t <;> intro hq <;> (try (exfalso; omega))) | (apply gd_dec_f <;> intro hq <;> (try (exfalso; omega))) | (apply gd_beq_t <;> intro hq <;> (try (exfalso; omega))) | (apply gd_beq_f <;> intro hq <;> (try (exfalso; omega))) | (apply gd_bne_t <;> intro hq <;> (try (exfalso; omega))) | (apply gd_bne_f <;> intro hq <;> (try (exfalso; omega))) | (apply gd_not_t <;> intro hq) | (apply gd_not_f <;> intro hq) | (apply gd_raw_t <;> intro hq) | (apply gd_raw_f <;> intro hq)) | (apply at_thn) | (apply at_thn_ret) | (apply at_thn_exit) | (apply at_inb) | (apply at_inb_ret) | (apply at_inb_exit) | refine at_inb_pass rfl ?_ | refine c_drawn (by kernel_rfl) ?_)
  refine e_scc (.own 170 4 (some ⟨b, 0, none⟩) p p (qds (List.replicate p (32, x, y, z))) :: H) (by first | exact .inl rfl | exact .inr rfl) rfl rfl rfl (fun _ hw => hw.subs (by repeat (first | refine Subs.cons (by repeat constructor) ?_ | exact Subs.sub (by repeat (first | exact List.Sublist.refl _ | exact List.nil_sublist _ | refine List.Sublist.cons _ ?_))))) ?_
  exact ⟨b, rfl, rfl⟩
end Go.Proofs.YtflmckoolagikaaDoor
end
section
namespace Go.Proofs.YtflmckoolagikaaDoor
open Go Go.RowKit Go.Fw Go.Sx
set_option maxRecDepth 100000
set_option maxHeartbeats 1000000
/-- What a screen holds. -/
structure Scr where
  w : Nat
  h : Nat
  row : Int
  col : Int
  late : Bool
  top : Int
  bot : Int
  pf : Int
  pr : Int
  pb : Int
  modes : Int
  st : Nat → Nat
  p0 : Int
  p1 : Int
  sh : Int
  sr : Int
  sc : Int
  spf : Int
  spr : Int
  spb : Int
  so : Bool
  sp0 : Int
  sp1 : Int
  ssh : Int
  ti : ByteArray
  C : List Qd
  D : List Qd
  past : List (List Qd)
/-- Its cells in memory: where its rows lie. -/
def scrC (s : Scr) (ga : Option Addr) (gn gc : Nat) (oa : Option Addr) (on oc : Nat) (pa : Option Addr) (pn pc : Nat) : List Value :=
  (.int .i64 s.w :: .int .i64 s.h :: .slice ga gn gc :: .int .i64 s.row :: .int .i64 s.col :: .bool s.late :: .int .i64 s.top :: .int .i64 s.bot :: .int .i64 s.pf :: .int .i64 s.pr :: .int .i64 s.pb :: .int .i64 s.modes :: .int .u64 (s.st 0) :: .int .u64 (s.st 1) :: .int .u64 (s.st 2) :: .int .u64 (s.st 3) :: .int .i64 s.p0 :: .int .i64 s.p1 :: .int .i64 s.sh :: .int .i64 s.sr :: .int .i64 s.sc :: .int .i64 s.spf :: .int .i64 s.spr :: .int .i64 s.spb :: .bool s.so :: .int .i64 s.sp0 :: .int .i64 s.sp1 :: .int .i64 s.ssh :: .int .i64 s.w :: .int .i64 s.h :: .slice oa on oc :: .string s.ti :: .slice pa pn pc :: [])
def newS (w h : Nat) : Scr := ⟨w, h, 0, 0, false, 0, h, 0, 0, 0, 12, usF 31, 1, 1, 0, 0, 0, 0, 0, 0, false, 1, 1, 0, ⟨#[]⟩, List.replicate (w * h) (32, 0, 0, 0), List.replicate (w * h) (32, 0, 0, 0), []⟩
def scrZ : List Value := (.int .i64 0 :: .int .i64 0 :: .slice none 0 0 :: .int .i64 0 :: .int .i64 0 :: .bool false :: .int .i64 0 :: .int .i64 0 :: .int .i64 0 :: .int .i64 0 :: .int .i64 0 :: .int .i64 0 :: .int .u64 0 :: .int .u64 0 :: .int .u64 0 :: .int .u64 0 :: .int .i64 0 :: .int .i64 0 :: .int .i64 0 :: .int .i64 0 :: .int .i64 0 :: .int .i64 0 :: .int .i64 0 :: .int .i64 0 :: .bool false :: .int .i64 0 :: .int .i64 0 :: .int .i64 0 :: .int .i64 0 :: .int .i64 0 :: .slice none 0 0 :: .string .empty :: .slice none 0 0 :: [])
theorem us_z : wordsL (usF 0) = [.int .u64 0, .int .u64 0, .int .u64 0, .int .u64 0] := rfl
attribute [local irreducible] SW SL SQ AtQ SV SC BB LD PK Yields SO SOT SOA SY usF
theorem scrNew_e (G : Ctx) (H : List Ent) (w h : Int) (hs : sizeE w h = 1) : SV Tryd.prog G 59 [.int .i64 w, .int .i64 h] H (.tuple #[.agg scrZ.toArray, .int .i64 1]) := by
  have cN := fun H => new_e G H w h 0 0 0 1 (.inl ⟨hs, rfl⟩)
  refine sv_enter2 Tryd.func59 rfl rfl rfl rfl rfl ?_
  repeat' (first | (apply g_sl; first | (apply ks_nil; refine sl_nil ?_) | (apply ks_move; refine s_move rfl rfl ?_) | (apply ks_bin; refine s_bin rfl rfl rfl ?_; first | fail | (first | refine bb_of rfl ?_)) | (apply ks_load; first | (refine s_load rfl rfl ?_; first | refine ld_cell rfl ?_ | refine ld_whole rfl ?_ | refine ld_elem rfl ?_ | refine ld_part rfl rfl ?_) | fail) | (apply ks_asgn; refine s_asgn rfl rfl ?_) | (apply ks_extr; refine s_extr (y_extract rfl rfl rfl) rfl ?_) | (apply ks_build; first | refine s_build (c_build rfl rfl rfl) rfl ?_ | fail) | (apply ks_fn; first | refine c_callv rfl rfl rfl (cN _) rfl rfl ?_) | (apply ks_store; first | first | refine c_store rfl rfl rfl rfl rfl rfl rfl ?_ | refine c_storew rfl rfl rfl rfl rfl rfl rfl rfl ?_ | refine c_storee rfl rfl rfl rfl rfl (by omega) rfl ?_ | fail) | (apply ks_alloc; refine c_alloc rfl rfl rfl rfl (fun _ => ?_)) | fail) | (apply sw_seq) | (apply at_srd) | (apply sw_skip) | (apply sw_ret) | (apply sw_exit) | (apply sw_block) | (apply sw_region) | (refine sw_cd rfl ?_; first | (apply gd_t) | (apply gd_ft) | (apply gd_tf) | (apply gd_dec_t <;> intro hq <;> (try (exfalso; omega))) | (apply gd_dec_f <;> intro hq <;> (try (exfalso; omega))) | (apply gd_beq_t <;> intro hq <;> (try (exfalso; omega))) | (apply gd_beq_f <;> intro hq <;> (try (exfalso; omega))) | (apply gd_bne_t <;> intro hq <;> (try (exfalso; omega))) | (apply gd_bne_f <;> intro hq <;> (try (exfalso; omega))) | (apply gd_not_t <;> intro hq) | (apply gd_not_f <;> intro hq) | (apply gd_raw_t <;> intro hq) | (apply gd_raw_f <;> intro hq)) | (apply at_thn) | (apply at_thn_ret) | (apply at_thn_exit) | (apply at_inb) | (apply at_inb_ret) | (apply at_inb_exit) | refine at_inb_pass rfl ?_ | refine c_drawn (by kernel_rfl) ?_)
  all_goals first | (exfalso; omega) | (refine e_scc (H) (by first | exact .inl rfl | exact .inr rfl) rfl (by first | rfl | simp) rfl (fun _ hw => hw.subs (by repeat (first | refine Subs.cons (by repeat constructor) ?_ | exact Subs.sub (by repeat (first | exact List.Sublist.refl _ | exact List.nil_sublist _ | refine List.Sublist.cons _ ?_))))) ?_; exact ⟨rfl, rfl⟩)
theorem scrNew_sc (G : Ctx) (H : List Ent) (w h : Nat) (hw : 1 ≤ w ∧ w ≤ 160) (hh : 1 ≤ h ∧ h ≤ 60) : SC Tryd.prog G 59 [.int .i64 w, .int .i64 h] H fun v H' => ∃ ga oa c, v = .tuple #[.agg (scrC (newS w h) ga (w * h) (w * h) oa (w * h) c none 0 0).toArray, .int .i64 0] ∧ H' = .own 170 4 oa (w * h) c (qds (newS w h).D) :: .own 170 4 ga (w * h) (w * h) (qds (newS w h).C) :: H := by
  have hp : w * h ≤ 100000 := Nat.le_trans (Nat.mul_le_mul hw.2 hh.2) (by decide)
  have cN := fun H => new_sc G H w h 0 0 0 hw hh (by decide +kernel)
  have cC := fun (H : List Ent) {vs : List Value} (a : Option Addr) [RdC G H a vs] (hv : vs = qds (List.replicate (w * h) (32, 0, 0, 0))) => gridClone_sc G H (List.replicate (w * h) (32, 0, 0, 0)) (w : Int) (h : Int) a (w * h) (w * h) hv (by simp) hp
  have cU := fun H => usual_sv G H
  have hC : (newS w h).C = List.replicate (w * h) (32, 0, 0, 0) := rfl
  have hD : (newS w h).D = List.replicate (w * h) (32, 0, 0, 0) := rfl
  rw [hC, hD]
  have hscr : ∀ ga oa c p, p = w * h → scrC (newS w h) ga p p oa p c none 0 0 = (.int .i64 w :: .int .i64 h :: .slice ga p p :: .int .i64 0 :: .int .i64 0 :: .bool false :: .int .i64 0 :: .int .i64 h :: .int .i64 0 :: .int .i64 0 :: .int .i64 0 :: .int .i64 12 :: .int .u64 (usF 31 0) :: .int .u64 (usF 31 1) :: .int .u64 (usF 31 2) :: .int .u64 (usF 31 3) :: .int .i64 1 :: .int .i64 1 :: .int .i64 0 :: .int .i64 0 :: .int .i64 0 :: .int .i64 0 :: .int .i64 0 :: .int .i64 0 :: .bool false :: .int .i64 1 :: .int .i64 1 :: .int .i64 0 :: .int .i64 w :: .int .i64 h :: .slice oa p c :: .string ⟨#[]⟩ :: .slice none 0 0 :: []) := fun _ _ _ _ _ => rfl
  generalize hP : w * h = p at *
  generalize List.replicate p ((32, 0, 0, 0) : Qd) = L at *
  refine sc_enter2 Tryd.func59 rfl rfl rfl rfl rfl ?_
  repeat' (first | (apply g_sl; first | (apply ks_nil; refine sl_nil ?_) | (apply ks_move; refine s_move rfl rfl ?_) | (apply ks_bin; refine s_bin rfl rfl rfl ?_; first | fail | (first | refine bb_of rfl ?_)) | (apply ks_load; first | (refine s_load rfl rfl ?_; first | refine ld_cell rfl ?_ | refine ld_whole rfl ?_ | refine ld_elem rfl ?_ | refine ld_part rfl rfl ?_) | fail) | (apply ks_asgn; refine s_asgn rfl rfl ?_) | (apply ks_extr; refine s_extr (y_extract rfl rfl rfl) rfl ?_) | (apply ks_build; first | refine s_build (c_build rfl rfl rfl) rfl ?_ | fail) | (apply ks_fn; first | first | (refine c_call rfl rfl rfl (cN _) rfl rfl ?_; rintro _ _ ⟨b, rfl, rfl⟩)) | (apply ks_store; first | first | refine c_store rfl rfl rfl rfl rfl rfl rfl ?_ | refine c_storew rfl rfl rfl rfl rfl rfl rfl rfl ?_ | refine c_storee rfl rfl rfl rfl rfl (by omega) rfl ?_ | fail) | (apply ks_alloc; refine c_alloc rfl rfl rfl rfl (fun _ => ?_)) | fail) | (apply sw_seq) | (apply at_srd) | (apply sw_skip) | (apply sw_ret) | (apply sw_exit) | (apply sw_block) | ((fail_if_success (refine g_reg (id := 5) ?_)); apply sw_region) | (refine sw_cd rfl ?_; first | (apply gd_t) | (apply gd_ft) | (apply gd_tf) | (apply gd_dec_t <;> intro hq <;> (try (exfalso; omega))) | (apply gd_dec_f <;> intro hq <;> (try (exfalso; omega))) | (apply gd_beq_t <;> intro hq <;> (try (exfalso; omega))) | (apply gd_beq_f <;> intro hq <;> (try (exfalso; omega))) | (apply gd_bne_t <;> intro hq <;> (try (exfalso; omega))) | (apply gd_bne_f <;> intro hq <;> (try (exfalso; omega))) | (apply gd_not_t <;> intro hq) | (apply gd_not_f <;> intro hq) | (apply gd_raw_t <;> intro hq) | (apply gd_raw_f <;> intro hq)) | (apply at_thn) | (apply at_thn_ret) | (apply at_thn_exit) | (apply at_inb) | (apply at_inb_ret) | (apply at_inb_exit) | refine at_inb_pass rfl ?_ | ((fail_if_success (refine g_reg (id := 5) ?_)); refine c_drawn (by kernel_rfl) ?_))
  all_goals first | (exfalso; omega) | skip
  rename_i b1 b2 b3
  repeat' (first | (apply g_sl; first | (apply ks_nil; refine sl_nil ?_) | (apply ks_move; refine s_move rfl rfl ?_) | (apply ks_bin; refine s_bin rfl rfl rfl ?_; first | fail | (first | refine bb_of rfl ?_)) | (apply ks_load; first | (refine s_load rfl rfl ?_; first | refine ld_cell rfl ?_ | refine ld_whole rfl ?_ | refine ld_elem rfl ?_ | refine ld_part rfl rfl ?_) | fail) | (apply ks_asgn; refine s_asgn rfl rfl ?_) | (apply ks_extr; refine s_extr (y_extract rfl rfl rfl) rfl ?_) | (apply ks_build; first | refine s_build (c_build rfl rfl rfl) rfl ?_ | fail) | (apply ks_fn; first | first | refine c_callv rfl rfl rfl (cU _) rfl rfl ?_ | (refine c_call rfl rfl rfl (cC _ _ rfl) rfl rfl ?_; rintro _ _ ⟨oa, c, rfl, rfl⟩)) | (apply ks_store; first | first | refine c_store rfl rfl rfl rfl rfl rfl rfl ?_ | refine c_storew rfl rfl rfl rfl rfl rfl rfl rfl ?_ | refine c_storee rfl rfl rfl rfl rfl (by omega) rfl ?_ | fail) | (apply ks_alloc; refine c_alloc rfl rfl rfl rfl (fun _ => ?_)) | fail) | (apply g_sq; first | (apply kq_nil; refine sq_nil ?_) | (apply kq_move; refine q_move rfl rfl ?_) | (apply kq_bin; refine q_bin rfl rfl rfl ?_; first | fail | (first | refine bb_of rfl ?_)) | (apply kq_load; first | (refine q_load rfl rfl ?_; first | refine ld_cell rfl ?_ | refine ld_whole rfl ?_ | refine ld_elem rfl ?_ | refine ld_part rfl rfl ?_) | fail) | (apply kq_asgn; refine q_asgn rfl rfl ?_) | (apply kq_extr; refine q_extr (y_extract rfl rfl rfl) rfl ?_) | (apply kq_build; first | refine q_build (c_build rfl rfl rfl) rfl ?_ | fail) | (apply kq_fn; first | fail) | fail) | (apply g_atso; refine so_back (k := 0) (fun _ hw => hw.subs (by repeat (first | refine Subs.cons (by repeat constructor) ?_ | exact Subs.sub (by repeat (first | exact List.Sublist.refl _ | exact List.nil_sublist _ | refine List.Sublist.cons _ ?_))))) ?_) | (apply g_sot; first | (refine sot_skip rfl ?_) | (refine sot_take rfl rfl rfl rfl (by kernel_rfl) (by decide +kernel) (by decide +kernel) ?_; (first | (apply ky_move; refine sy_val (y_move rfl rfl) ?_) | (apply ky_bin; refine sy_bin rfl rfl ?_; first | fail | (first | refine bb_of rfl ?_)) | (apply ky_load; first | (refine sy_load rfl ?_; first | refine ld_cell rfl ?_ | refine ld_whole rfl ?_ | refine ld_elem rfl ?_ | refine ld_part rfl rfl ?_) | fail) | (apply ky_asgn; refine sy_val (y_assign rfl rfl) ?_) | (apply ky_extr; refine sy_val (y_extract rfl rfl rfl) ?_) | (apply ky_build; first | refine sy_val (c_build rfl rfl rfl) ?_ | fail) | fail)) | (refine sot_takeg rfl rfl rfl rfl rfl (by kernel_rfl) (by decide +kernel) (by decide +kernel) ?_; first | (apply gd_t) | (apply gd_ft) | (apply gd_tf) | (apply gd_dec_t <;> intro hq <;> (try (exfalso; omega))) | (apply gd_dec_f <;> intro hq <;> (try (exfalso; omega))) | (apply gd_beq_t <;> intro hq <;> (try (exfalso; omega))) | (apply gd_beq_f <;> intro hq <;> (try (exfalso; omega))) | (apply gd_bne_t <;> intro hq <;> (try (exfalso; omega))) | (apply gd_bne_f <;> intro hq <;> (try (exfalso; omega))) | (apply gd_not_t <;> intro hq) | (apply gd_not_f <;> intro hq) | (apply gd_raw_t <;> intro hq) | (apply gd_raw_f <;> intro hq)) | (refine sot_next rfl ?_) | (refine so_done (by decide +kernel) ?_) | (refine sot_all (by kernel_rfl) ?_)) | (apply g_soa; first | (refine soa_end rfl) | (refine soa_no (by decide +kernel) ?_) | (refine soa_yes rfl ?_ ?_)) | (apply g_sy; (first | (apply ky_move; refine sy_val (y_move rfl rfl) ?_) | (apply ky_bin; refine sy_bin rfl rfl ?_; first | fail | (first | refine bb_of rfl ?_)) | (apply ky_load; first | (refine sy_load rfl ?_; first | refine ld_cell rfl ?_ | refine ld_whole rfl ?_ | refine ld_elem rfl ?_ | refine ld_part rfl rfl ?_) | fail) | (apply ky_asgn; refine sy_val (y_assign rfl rfl) ?_) | (apply ky_extr; refine sy_val (y_extract rfl rfl rfl) ?_) | (apply ky_build; first | refine sy_val (c_build rfl rfl rfl) ?_ | fail) | fail)) | (apply sw_seq) | (apply at_srd) | (apply sw_skip) | (apply sw_ret) | (apply sw_exit) | (apply sw_block) | (apply sw_region) | (refine sw_cd rfl ?_; first | (apply gd_t) | (apply gd_ft) | (apply gd_tf) | (apply gd_dec_t <;> intro hq <;> (try (exfalso; omega))) | (apply gd_dec_f <;> intro hq <;> (try (exfalso; omega))) | (apply gd_beq_t <;> intro hq <;> (try (exfalso; omega))) | (apply gd_beq_f <;> intro hq <;> (try (exfalso; omega))) | (apply gd_bne_t <;> intro hq <;> (try (exfalso; omega))) | (apply gd_bne_f <;> intro hq <;> (try (exfalso; omega))) | (apply gd_not_t <;> intro hq) | (apply gd_not_f <;> intro hq) | (apply gd_raw_t <;> intro hq) | (apply gd_raw_f <;> intro hq)) | (apply at_thn) | (apply at_thn_ret) | (apply at_thn_exit) | (apply at_inb) | (apply at_inb_ret) | (apply at_inb_exit) | refine at_inb_pass rfl ?_ | ((first | (refine g_reg (id := 5) ?_; refine c_drawno (.blk b3 64 [.int .i64 1, .int .i64 1] :: .blk b2 59 [.int .i64 w, .int .i64 h, .slice (some ⟨b, 0, none⟩) p p] :: .own 170 4 (some ⟨b, 0, none⟩) p p (qds L) :: H) (fun _ hw => hw.subs (by repeat (first | refine Subs.cons (by repeat constructor) ?_ | exact Subs.sub (by repeat (first | exact List.Sublist.refl _ | exact List.nil_sublist _ | refine List.Sublist.cons _ ?_))))) ?_))) | refine c_drawn (by kernel_rfl) ?_)
  refine e_scc (.own 170 4 oa p c (qds L) :: .own 170 4 (some ⟨b, 0, none⟩) p p (qds L) :: H) (by first | exact .inl rfl | exact .inr rfl) rfl (by first | rfl | simp) rfl (fun _ hw => hw.subs (by repeat (first | refine Subs.cons (by repeat constructor) ?_ | exact Subs.sub (by repeat (first | exact List.Sublist.refl _ | exact List.nil_sublist _ | refine List.Sublist.cons _ ?_))))) ?_
  exact ⟨some ⟨b, 0, none⟩, oa, c, by rw [hscr _ _ _ _ rfl]; rfl, rfl⟩
theorem us_add : ∀ k, k < 31 → ∀ j, j < 4 → j = (8 * (k + 1)) / 64 → usF k j + 2 ^ ((8 * (k + 1)) % 64) = usF (k + 1) j := by decide +kernel
theorem nscrNew_e (G : Ctx) (H : List Ent) (w h : Int) (hs : sizeE w h = 1) : SV Tryd.prog G 63 [.int .i64 w, .int .i64 h] H (.tuple #[.agg scrZ.toArray, .int .i64 1]) := by
  have cN := fun H => sizeRight_sv G H w h
  rw [show decide (sizeE w h = 0) = false from by rw [hs]; rfl] at cN
  refine sv_enter2 Tryd.func63 rfl rfl rfl rfl rfl ?_
  repeat' (first | (apply g_sl; first | (apply ks_nil; refine sl_nil ?_) | (apply ks_move; refine s_move rfl rfl ?_) | (apply ks_bin; refine s_bin rfl rfl rfl ?_; first | fail | (first | (apply kb_add; first | refine bb_add ⟨by omega, by omega⟩ ?_ | refine bb_of rfl ?_) | (apply kb_mul; first | refine bb_mul ⟨by omega, by omega⟩ ?_ | refine bb_of rfl ?_) | (apply kb_quo; refine bb_quo ⟨by omega, by omega⟩ (by omega) (by omega) ?_) | (apply kb_rem; refine bb_rem (by omega) (by omega) ?_) | refine bb_of rfl ?_)) | (apply ks_load; first | (refine s_load rfl rfl ?_; first | refine ld_cell rfl ?_ | refine ld_whole rfl ?_ | refine ld_elem rfl ?_ | refine ld_part rfl rfl ?_) | fail) | (apply ks_asgn; refine s_asgn rfl rfl ?_) | (apply ks_field; first | refine s_field (c_field0 rfl rfl) rfl ?_ | refine s_field (c_field rfl rfl) rfl ?_) | (apply ks_un; refine s_un (y_un rfl rfl rfl) rfl ?_) | (apply ks_build; first | refine s_build (c_build rfl rfl rfl) rfl ?_ | fail) | (apply ks_indexA; first | refine s_indexA (c_indexAddr rfl rfl rfl rfl (by omega) (by omega)) rfl ?_ | fail) | (apply ks_fn; first | refine c_callv rfl rfl rfl (cN _) rfl rfl ?_) | (apply ks_store; first | first | refine c_store rfl rfl rfl rfl rfl rfl rfl ?_ | refine c_storew rfl rfl rfl rfl rfl rfl rfl rfl ?_ | refine c_storee rfl rfl rfl rfl rfl (by omega) rfl ?_ | fail) | (apply ks_alloc; refine c_alloc rfl rfl rfl rfl (fun _ => ?_)) | fail) | (apply sw_seq) | (apply at_srd) | (apply sw_skip) | (apply sw_ret) | (apply sw_exit) | (apply sw_block) | (apply sw_region) | (refine sw_cd rfl ?_; first | (apply gd_t) | (apply gd_ft) | (apply gd_tf) | (apply gd_dec_t <;> intro hq <;> (try (exfalso; omega))) | (apply gd_dec_f <;> intro hq <;> (try (exfalso; omega))) | (apply gd_beq_t <;> intro hq <;> (try (exfalso; omega))) | (apply gd_beq_f <;> intro hq <;> (try (exfalso; omega))) | (apply gd_bne_t <;> intro hq <;> (try (exfalso; omega))) | (apply gd_bne_f <;> intro hq <;> (try (exfalso; omega))) | (apply gd_not_t <;> intro hq) | (apply gd_not_f <;> intro hq) | (apply gd_raw_t <;> intro hq) | (apply gd_raw_f <;> intro hq)) | (apply at_thn) | (apply at_thn_ret) | (apply at_thn_exit) | (apply at_inb) | (apply at_inb_ret) | (apply at_inb_exit) | refine at_inb_pass rfl ?_ | refine c_drawn (by kernel_rfl) ?_)
  all_goals first | (exfalso; omega) | (refine e_scc (H) (by first | exact .inl rfl | exact .inr rfl) rfl (by first | rfl | simp) rfl (fun _ hw => hw.subs (by repeat (first | refine Subs.cons (by repeat constructor) ?_ | exact Subs.sub (by repeat (first | exact List.Sublist.refl _ | exact List.nil_sublist _ | refine List.Sublist.cons _ ?_))))) ?_; exact ⟨rfl, rfl⟩)
theorem nscrNew_sc (G : Ctx) (H : List Ent) (w h : Nat) (hw : 1 ≤ w ∧ w ≤ 160) (hh : 1 ≤ h ∧ h ≤ 60) : SC Tryd.prog G 63 [.int .i64 w, .int .i64 h] H fun v H' => ∃ ga, v = .tuple #[.agg (scrC (newS w h) ga (w * h) (w * h) ga (w * h) (w * h) none 0 0).toArray, .int .i64 0] ∧ H' = .own 170 4 ga (w * h) (w * h) (qds (newS w h).C) :: H := by
  have hp : w * h ≤ 100000 := Nat.le_trans (Nat.mul_le_mul hw.2 hh.2) (by decide)
  have cN := fun H => sizeRight_sv G H w h
  have hs : sizeE w h = 0 := by rcases sizeE_01 (w : Int) (h : Int) with ⟨h1, _⟩ | ⟨_, h1⟩; exact h1; omega
  rw [decide_eq_true hs] at cN
  have hC : (newS w h).C = List.replicate (w * h) (32, 0, 0, 0) := rfl
  rw [hC]
  have cB := fun H => blanks_sc G H (w * h) 0 0 0 (by omega)
  have hscr : ∀ ga p, p = w * h → scrC (newS w h) ga p p ga p p none 0 0 = big (.int .i64 w :: .int .i64 h :: .slice ga p p :: .int .i64 0 :: .int .i64 0 :: .bool false :: .int .i64 0 :: .int .i64 h :: .int .i64 0 :: .int .i64 0 :: .int .i64 0 :: .int .i64 12 :: [])
    (wordsL (usF 31)) (.int .i64 1 :: .int .i64 1 :: .int .i64 0 :: .int .i64 0 :: .int .i64 0 :: .int .i64 0 :: .int .i64 0 :: .int .i64 0 :: .bool false :: .int .i64 1 :: .int .i64 1 :: .int .i64 0 ::
   .int .i64 w :: .int .i64 h :: .slice ga p p :: .string ⟨#[]⟩ :: .slice none 0 0 :: []) := fun _ _ _ => rfl
  have e1 : (w : Int) * (h : Int) = ((w * h : Nat) : Int) := by simp
  generalize hP : w * h = p at *
  generalize List.replicate p ((32, 0, 0, 0) : Qd) = L at *
  refine sc_enter2 Tryd.func63 rfl rfl rfl rfl rfl ?_
  repeat' (first | (apply g_sl; first | (apply ks_nil; refine sl_nil ?_) | (apply ks_move; refine s_move rfl rfl ?_) | (apply ks_bin; refine s_bin rfl rfl rfl ?_; first | first | (refine bb_mul ⟨by omega, by omega⟩ ?_; rw [e1]) | refine c_storepL rfl rfl rfl rfl rfl rfl rfl rfl rfl ?_ | (first | (apply kb_add; first | refine bb_add ⟨by omega, by omega⟩ ?_ | refine bb_of rfl ?_) | (apply kb_mul; first | refine bb_mul ⟨by omega, by omega⟩ ?_ | refine bb_of rfl ?_) | (apply kb_quo; refine bb_quo ⟨by omega, by omega⟩ (by omega) (by omega) ?_) | (apply kb_rem; refine bb_rem (by omega) (by omega) ?_) | refine bb_of rfl ?_)) | (apply ks_load; first | (refine s_load rfl rfl ?_; first | refine ld_cell rfl ?_ | refine ld_whole rfl ?_ | refine ld_elem rfl ?_ | refine ld_part rfl rfl ?_) | first | (refine bb_mul ⟨by omega, by omega⟩ ?_; rw [e1]) | refine c_storepL rfl rfl rfl rfl rfl rfl rfl rfl rfl ?_) | (apply ks_asgn; refine s_asgn rfl rfl ?_) | (apply ks_field; first | refine s_field (c_field0 rfl rfl) rfl ?_ | refine s_field (c_field rfl rfl) rfl ?_) | (apply ks_un; refine s_un (y_un rfl rfl rfl) rfl ?_) | (apply ks_build; first | refine s_build (c_build rfl rfl rfl) rfl ?_ | first | (refine bb_mul ⟨by omega, by omega⟩ ?_; rw [e1]) | refine c_storepL rfl rfl rfl rfl rfl rfl rfl rfl rfl ?_) | (apply ks_indexA; first | refine s_indexA (c_indexAddr rfl rfl rfl rfl (by omega) (by omega)) rfl ?_ | first | (refine bb_mul ⟨by omega, by omega⟩ ?_; rw [e1]) | refine c_storepL rfl rfl rfl rfl rfl rfl rfl rfl rfl ?_) | (apply ks_fn; first | first | refine c_callv rfl rfl rfl (cN _) rfl rfl ?_ | (refine c_call rfl rfl rfl (cB _) rfl rfl ?_; rintro _ _ ⟨b, rfl, rfl⟩)) | (apply ks_store; first | first | refine c_store rfl rfl rfl rfl rfl rfl rfl ?_ | refine c_storew rfl rfl rfl rfl rfl rfl rfl rfl ?_ | refine c_storee rfl rfl rfl rfl rfl (by omega) rfl ?_ | first | (refine bb_mul ⟨by omega, by omega⟩ ?_; rw [e1]) | refine c_storepL rfl rfl rfl rfl rfl rfl rfl rfl rfl ?_) | (apply ks_alloc; refine c_alloc rfl rfl rfl rfl (fun _ => ?_)) | first | (refine bb_mul ⟨by omega, by omega⟩ ?_; rw [e1]) | refine c_storepL rfl rfl rfl rfl rfl rfl rfl rfl rfl ?_) | (apply sw_seq) | (apply at_srd) | (apply sw_skip) | (apply sw_ret) | (apply sw_exit) | (apply sw_block) | ((fail_if_success (refine g_reg (id := 7) ?_)); apply sw_region) | (refine sw_cd rfl ?_; first | (apply gd_t) | (apply gd_ft) | (apply gd_tf) | (apply gd_dec_t <;> intro hq <;> (try (exfalso; omega))) | (apply gd_dec_f <;> intro hq <;> (try (exfalso; omega))) | (apply gd_beq_t <;> intro hq <;> (try (exfalso; omega))) | (apply gd_beq_f <;> intro hq <;> (try (exfalso; omega))) | (apply gd_bne_t <;> intro hq <;> (try (exfalso; omega))) | (apply gd_bne_f <;> intro hq <;> (try (exfalso; omega))) | (apply gd_not_t <;> intro hq) | (apply gd_not_f <;> intro hq) | (apply gd_raw_t <;> intro hq) | (apply gd_raw_f <;> intro hq)) | (apply at_thn) | (apply at_thn_ret) | (apply at_thn_exit) | (apply at_inb) | (apply at_inb_ret) | (apply at_inb_exit) | refine at_inb_pass rfl ?_ | ((fail_if_success (refine g_reg (id := 7) ?_)); refine c_drawn (by kernel_rfl) ?_))
  all_goals first | (exfalso; omega) | skip
  rename_i b1 b2 b3
  clear e1 cN cB hs
  refine sw_loopg (α := Nat) (fun k => [(4, .pointer (some ⟨b1, 0, none⟩)), (7, .pointer (some ⟨b3, 0, none⟩)), (8, .int .i64 (8 * ((k : Int) + 1)))]) (fun k => .blk b3 69 (big (.int .i64 w :: .int .i64 h :: .slice (some ⟨b, 0, none⟩) p p :: .int .i64 0 :: .int .i64 0 :: .bool false :: .int .i64 0 :: .int .i64 h :: .int .i64 0 :: .int .i64 0 :: .int .i64 0 :: .int .i64 12 :: []) (wordsL (usF k)) (.int .i64 1 :: .int .i64 1 :: .int .i64 0 :: .int .i64 0 :: .int .i64 0 :: .int .i64 0 :: .int .i64 0 :: .int .i64 0 :: .bool false :: .int .i64 1 :: .int .i64 1 :: .int .i64 0 :: .int .i64 w :: .int .i64 h :: .slice (some ⟨b, 0, none⟩) p p :: .string ⟨#[]⟩ :: .slice none 0 0 :: [])) :: .own 170 4 (some ⟨b, 0, none⟩) p p (qds L) :: .blk b1 69 scrZ :: H)
    (fun k => k ≤ 31) (fun k => 31 - k) 0 (by decide) (by repeat (first | exact Le.nil _ | refine Le.cons (by first | rfl | (exact congrArg some (congrArg (Value.int _) (by omega)))) ?_)) (fun _ hw => by rw [us_z]; simp only [big, scrZ, List.cons_append, List.nil_append]; exact hw.subs (by repeat (first | refine Subs.cons (by repeat constructor) ?_ | exact Subs.sub (by repeat (first | exact List.Sublist.refl _ | exact List.nil_sublist _ | refine List.Sublist.cons _ ?_))))) ?_
  intro k hk
  by_cases hlt : k < 31
  · have hx0 := wordsL_at (usF k) (8 * (k + 1) / 64) (by omega)
    have hset0 := wordsL_set (usF k) (setF (usF k) (8 * (k + 1))) (8 * (k + 1) / 64) (by omega) (fun i hi => if_neg hi)
    have hF : setF (usF k) (8 * (k + 1)) = usF (k + 1) := by with_unfolding_all rfl
    rw [hF] at hset0
    have hsum : ((usF k (8 * (k + 1) / 64) : Nat) : Int) + pw (8 * (k + 1) % 64) = usF (k + 1) (8 * (k + 1) / 64) := by
      rw [(pw_nat _ (Nat.mod_lt _ (by decide))).1, ← us_add k hlt _ (by omega) rfl]; simp
    have hfit : usF (k + 1) (8 * (k + 1) / 64) < 18446744073709551616 := usF_ok (k + 1) (by omega) _ (by omega)
    have hD : pw ((8 * ((k : Int) + 1)) % 64).toNat = pw (8 * (k + 1) % 64) := by rw [show ((8 * ((k : Int) + 1)) % 64).toNat = 8 * (k + 1) % 64 from by omega]
    have hi0 : 12 + 0 + ((8 * ((k : Int) + 1)) / 64).toNat * 1 = 12 + 8 * (k + 1) / 64 := by omega
    have hL : (wordsL (usF k)).length = 4 := rfl
    generalize hA : (Value.int .i64 w :: .int .i64 h :: .slice (some ⟨b, 0, none⟩) p p :: .int .i64 0 :: .int .i64 0 :: .bool false :: .int .i64 0 :: .int .i64 h :: .int .i64 0 :: .int .i64 0 :: .int .i64 0 :: .int .i64 12 :: []) = A
    generalize hZ : (Value.int .i64 1 :: .int .i64 1 :: .int .i64 0 :: .int .i64 0 :: .int .i64 0 :: .int .i64 0 :: .int .i64 0 :: .int .i64 0 :: .bool false :: .int .i64 1 :: .int .i64 1 :: .int .i64 0 :: .int .i64 w :: .int .i64 h :: .slice (some ⟨b, 0, none⟩) p p :: .string ⟨#[]⟩ :: .slice none 0 0 :: []) = Z
    have hAl : A.length = 12 := by rw [← hA]; rfl
    clear hA hZ
    have hx : (big A (wordsL (usF k)) Z)[12 + 0 + (8 * ((k : Int) + 1) / 64).toNat * 1]? = some (.int .u64 (usF k (8 * (k + 1) / 64))) := by
      rw [hi0]; exact big_mid (by omega) (by rw [hAl, Nat.add_sub_cancel_left]; exact hx0)
    have hset : (big A (wordsL (usF k)) Z).set (12 + 0 + (8 * ((k : Int) + 1) / 64).toNat * 1) (.int .u64 (usF (k + 1) (8 * (k + 1) / 64))) = big A (wordsL (usF (k + 1))) Z := by
      rw [hi0, set_mid (by omega) (by rw [hL]; omega), hAl, Nat.add_sub_cancel_left, hset0]
    have hl1 : 12 + 0 + (8 * ((k : Int) + 1) / 64).toNat * 1 < (big A (wordsL (usF k)) Z).length := by rw [hi0]; simp only [big, List.length_append, hAl, hL]; omega
    have hnx : 8 * ((k : Int) + 1) + 8 = 8 * (((k + 1 : Nat) : Int) + 1) := by omega
    generalize pw (8 * (k + 1) % 64) = D at *
    have hf : Fits .u64 ((usF (k + 1) (8 * (k + 1) / 64) : Nat) : Int) := ⟨by omega, by omega⟩
    clear hi0 hF hx0 hset0 hAl hL hfit
    repeat' (first | (apply g_sl; first | (apply ks_nil; refine sl_nil ?_) | (apply ks_move; refine s_move rfl rfl ?_) | (apply ks_bin; refine s_bin rfl rfl rfl ?_; first | first | (refine s_indexA (c_indexP rfl rfl rfl (by omega) (by omega)) rfl ?_) | (refine s_load rfl rfl ?_; refine ld_cell hx ?_) | (refine bb_shl1V hD (by omega) (by omega) ?_) | (refine bb_addV hsum hf ?_) | (refine c_storekV rfl rfl rfl rfl rfl hset hl1 rfl ?_) | (first | (apply kb_add; first | refine bb_add ⟨by omega, by omega⟩ ?_ | refine bb_of rfl ?_) | (apply kb_mul; first | refine bb_mul ⟨by omega, by omega⟩ ?_ | refine bb_of rfl ?_) | (apply kb_quo; refine bb_quo ⟨by omega, by omega⟩ (by omega) (by omega) ?_) | (apply kb_rem; refine bb_rem (by omega) (by omega) ?_) | refine bb_of rfl ?_)) | (apply ks_load; first | (refine s_load rfl rfl ?_; first | refine ld_cell rfl ?_ | refine ld_whole rfl ?_ | refine ld_elem rfl ?_ | refine ld_part rfl rfl ?_) | first | (refine s_indexA (c_indexP rfl rfl rfl (by omega) (by omega)) rfl ?_) | (refine s_load rfl rfl ?_; refine ld_cell hx ?_) | (refine bb_shl1V hD (by omega) (by omega) ?_) | (refine bb_addV hsum hf ?_) | (refine c_storekV rfl rfl rfl rfl rfl hset hl1 rfl ?_)) | (apply ks_asgn; refine s_asgn rfl rfl ?_) | (apply ks_field; first | refine s_field (c_field0 rfl rfl) rfl ?_ | refine s_field (c_field rfl rfl) rfl ?_) | (apply ks_un; refine s_un (y_un rfl rfl rfl) rfl ?_) | (apply ks_build; first | refine s_build (c_build rfl rfl rfl) rfl ?_ | first | (refine s_indexA (c_indexP rfl rfl rfl (by omega) (by omega)) rfl ?_) | (refine s_load rfl rfl ?_; refine ld_cell hx ?_) | (refine bb_shl1V hD (by omega) (by omega) ?_) | (refine bb_addV hsum hf ?_) | (refine c_storekV rfl rfl rfl rfl rfl hset hl1 rfl ?_)) | (apply ks_indexA; first | refine s_indexA (c_indexAddr rfl rfl rfl rfl (by omega) (by omega)) rfl ?_ | first | (refine s_indexA (c_indexP rfl rfl rfl (by omega) (by omega)) rfl ?_) | (refine s_load rfl rfl ?_; refine ld_cell hx ?_) | (refine bb_shl1V hD (by omega) (by omega) ?_) | (refine bb_addV hsum hf ?_) | (refine c_storekV rfl rfl rfl rfl rfl hset hl1 rfl ?_)) | (apply ks_fn; first | fail) | (apply ks_store; first | first | refine c_store rfl rfl rfl rfl rfl rfl rfl ?_ | refine c_storew rfl rfl rfl rfl rfl rfl rfl rfl ?_ | refine c_storee rfl rfl rfl rfl rfl (by omega) rfl ?_ | first | (refine s_indexA (c_indexP rfl rfl rfl (by omega) (by omega)) rfl ?_) | (refine s_load rfl rfl ?_; refine ld_cell hx ?_) | (refine bb_shl1V hD (by omega) (by omega) ?_) | (refine bb_addV hsum hf ?_) | (refine c_storekV rfl rfl rfl rfl rfl hset hl1 rfl ?_)) | (apply ks_alloc; refine c_alloc rfl rfl rfl rfl (fun _ => ?_)) | first | (refine s_indexA (c_indexP rfl rfl rfl (by omega) (by omega)) rfl ?_) | (refine s_load rfl rfl ?_; refine ld_cell hx ?_) | (refine bb_shl1V hD (by omega) (by omega) ?_) | (refine bb_addV hsum hf ?_) | (refine c_storekV rfl rfl rfl rfl rfl hset hl1 rfl ?_)) | (apply g_sq; first | (apply kq_nil; refine sq_nil ?_) | (apply kq_move; refine q_move rfl rfl ?_) | (apply kq_bin; refine q_bin rfl rfl rfl ?_; first | fail | (first | (apply kb_add; first | refine bb_add ⟨by omega, by omega⟩ ?_ | refine bb_of rfl ?_) | (apply kb_mul; first | refine bb_mul ⟨by omega, by omega⟩ ?_ | refine bb_of rfl ?_) | (apply kb_quo; refine bb_quo ⟨by omega, by omega⟩ (by omega) (by omega) ?_) | (apply kb_rem; refine bb_rem (by omega) (by omega) ?_) | refine bb_of rfl ?_)) | (apply kq_load; first | (refine q_load rfl rfl ?_; first | refine ld_cell rfl ?_ | refine ld_whole rfl ?_ | refine ld_elem rfl ?_ | refine ld_part rfl rfl ?_) | fail) | (apply kq_asgn; refine q_asgn rfl rfl ?_) | (apply kq_field; first | refine q_field (c_field0 rfl rfl) rfl ?_ | refine q_field (c_field rfl rfl) rfl ?_) | (apply kq_un; refine q_un (y_un rfl rfl rfl) rfl ?_) | (apply kq_build; first | refine q_build (c_build rfl rfl rfl) rfl ?_ | fail) | (apply kq_indexA; first | refine q_indexA (c_indexAddr rfl rfl rfl rfl (by omega) (by omega)) rfl ?_ | fail) | (apply kq_fn; first | fail) | fail) | (apply g_atso; refine so_back (k := 0) (fun _ hw => hw.subs (by repeat (first | refine Subs.cons (by repeat constructor) ?_ | exact Subs.sub (by repeat (first | exact List.Sublist.refl _ | exact List.nil_sublist _ | refine List.Sublist.cons _ ?_))))) ?_) | (apply g_sot; first | (refine sot_skip rfl ?_) | (refine sot_take rfl rfl rfl rfl (by kernel_rfl) (by decide +kernel) (by decide +kernel) ?_; (first | (apply ky_move; refine sy_val (y_move rfl rfl) ?_) | (apply ky_bin; refine sy_bin rfl rfl ?_; first | first | (refine sy_val (c_indexP rfl rfl rfl (by omega) (by omega)) ?_) | (refine bb_shl1V hD (by omega) (by omega) ?_) | (refine bb_addV hsum hf ?_) | (refine sy_load rfl ?_; refine ld_cell hx ?_) | (first | (apply kb_add; first | refine bb_add ⟨by omega, by omega⟩ ?_ | refine bb_of rfl ?_) | (apply kb_mul; first | refine bb_mul ⟨by omega, by omega⟩ ?_ | refine bb_of rfl ?_) | (apply kb_quo; refine bb_quo ⟨by omega, by omega⟩ (by omega) (by omega) ?_) | (apply kb_rem; refine bb_rem (by omega) (by omega) ?_) | refine bb_of rfl ?_)) | (apply ky_load; first | (refine sy_load rfl ?_; first | refine ld_cell rfl ?_ | refine ld_whole rfl ?_ | refine ld_elem rfl ?_ | refine ld_part rfl rfl ?_) | first | (refine sy_val (c_indexP rfl rfl rfl (by omega) (by omega)) ?_) | (refine bb_shl1V hD (by omega) (by omega) ?_) | (refine bb_addV hsum hf ?_) | (refine sy_load rfl ?_; refine ld_cell hx ?_)) | (apply ky_asgn; refine sy_val (y_assign rfl rfl) ?_) | (apply ky_field; first | refine sy_val (c_field0 rfl rfl) ?_ | refine sy_val (c_field rfl rfl) ?_) | (apply ky_un; refine sy_val (y_un rfl rfl rfl) ?_) | (apply ky_build; first | refine sy_val (c_build rfl rfl rfl) ?_ | first | (refine sy_val (c_indexP rfl rfl rfl (by omega) (by omega)) ?_) | (refine bb_shl1V hD (by omega) (by omega) ?_) | (refine bb_addV hsum hf ?_) | (refine sy_load rfl ?_; refine ld_cell hx ?_)) | (apply ky_indexA; first | refine sy_val (c_indexAddr rfl rfl rfl rfl (by omega) (by omega)) ?_ | first | (refine sy_val (c_indexP rfl rfl rfl (by omega) (by omega)) ?_) | (refine bb_shl1V hD (by omega) (by omega) ?_) | (refine bb_addV hsum hf ?_) | (refine sy_load rfl ?_; refine ld_cell hx ?_)) | first | (refine sy_val (c_indexP rfl rfl rfl (by omega) (by omega)) ?_) | (refine bb_shl1V hD (by omega) (by omega) ?_) | (refine bb_addV hsum hf ?_) | (refine sy_load rfl ?_; refine ld_cell hx ?_))) | (refine sot_takeg rfl rfl rfl rfl rfl (by kernel_rfl) (by decide +kernel) (by decide +kernel) ?_; first | (apply gd_t) | (apply gd_ft) | (apply gd_tf) | (apply gd_dec_t <;> intro hq <;> (try (exfalso; omega))) | (apply gd_dec_f <;> intro hq <;> (try (exfalso; omega))) | (apply gd_beq_t <;> intro hq <;> (try (exfalso; omega))) | (apply gd_beq_f <;> intro hq <;> (try (exfalso; omega))) | (apply gd_bne_t <;> intro hq <;> (try (exfalso; omega))) | (apply gd_bne_f <;> intro hq <;> (try (exfalso; omega))) | (apply gd_not_t <;> intro hq) | (apply gd_not_f <;> intro hq) | (apply gd_raw_t <;> intro hq) | (apply gd_raw_f <;> intro hq)) | (refine sot_next rfl ?_) | (refine so_done (by decide +kernel) ?_) | (refine sot_all (by kernel_rfl) ?_)) | (apply g_soa; first | (refine soa_end rfl) | (refine soa_no (by decide +kernel) ?_) | (refine soa_yes rfl ?_ ?_)) | (apply g_sy; (first | (apply ky_move; refine sy_val (y_move rfl rfl) ?_) | (apply ky_bin; refine sy_bin rfl rfl ?_; first | first | (refine sy_val (c_indexP rfl rfl rfl (by omega) (by omega)) ?_) | (refine bb_shl1V hD (by omega) (by omega) ?_) | (refine bb_addV hsum hf ?_) | (refine sy_load rfl ?_; refine ld_cell hx ?_) | (first | (apply kb_add; first | refine bb_add ⟨by omega, by omega⟩ ?_ | refine bb_of rfl ?_) | (apply kb_mul; first | refine bb_mul ⟨by omega, by omega⟩ ?_ | refine bb_of rfl ?_) | (apply kb_quo; refine bb_quo ⟨by omega, by omega⟩ (by omega) (by omega) ?_) | (apply kb_rem; refine bb_rem (by omega) (by omega) ?_) | refine bb_of rfl ?_)) | (apply ky_load; first | (refine sy_load rfl ?_; first | refine ld_cell rfl ?_ | refine ld_whole rfl ?_ | refine ld_elem rfl ?_ | refine ld_part rfl rfl ?_) | first | (refine sy_val (c_indexP rfl rfl rfl (by omega) (by omega)) ?_) | (refine bb_shl1V hD (by omega) (by omega) ?_) | (refine bb_addV hsum hf ?_) | (refine sy_load rfl ?_; refine ld_cell hx ?_)) | (apply ky_asgn; refine sy_val (y_assign rfl rfl) ?_) | (apply ky_field; first | refine sy_val (c_field0 rfl rfl) ?_ | refine sy_val (c_field rfl rfl) ?_) | (apply ky_un; refine sy_val (y_un rfl rfl rfl) ?_) | (apply ky_build; first | refine sy_val (c_build rfl rfl rfl) ?_ | first | (refine sy_val (c_indexP rfl rfl rfl (by omega) (by omega)) ?_) | (refine bb_shl1V hD (by omega) (by omega) ?_) | (refine bb_addV hsum hf ?_) | (refine sy_load rfl ?_; refine ld_cell hx ?_)) | (apply ky_indexA; first | refine sy_val (c_indexAddr rfl rfl rfl rfl (by omega) (by omega)) ?_ | first | (refine sy_val (c_indexP rfl rfl rfl (by omega) (by omega)) ?_) | (refine bb_shl1V hD (by omega) (by omega) ?_) | (refine bb_addV hsum hf ?_) | (refine sy_load rfl ?_; refine ld_cell hx ?_)) | first | (refine sy_val (c_indexP rfl rfl rfl (by omega) (by omega)) ?_) | (refine bb_shl1V hD (by omega) (by omega) ?_) | (refine bb_addV hsum hf ?_) | (refine sy_load rfl ?_; refine ld_cell hx ?_))) | (apply sw_seq) | (apply at_srd) | (apply sw_skip) | (apply sw_ret) | (apply sw_exit) | (apply sw_block) | (apply sw_region) | (refine sw_cd rfl ?_; first | (apply gd_t) | (apply gd_ft) | (apply gd_tf) | (apply gd_dec_t <;> intro hq <;> (try (exfalso; omega))) | (apply gd_dec_f <;> intro hq <;> (try (exfalso; omega))) | (apply gd_beq_t <;> intro hq <;> (try (exfalso; omega))) | (apply gd_beq_f <;> intro hq <;> (try (exfalso; omega))) | (apply gd_bne_t <;> intro hq <;> (try (exfalso; omega))) | (apply gd_bne_f <;> intro hq <;> (try (exfalso; omega))) | (apply gd_not_t <;> intro hq) | (apply gd_not_f <;> intro hq) | (apply gd_raw_t <;> intro hq) | (apply gd_raw_f <;> intro hq)) | (apply at_thn) | (apply at_thn_ret) | (apply at_thn_exit) | (apply at_inb) | (apply at_inb_ret) | (apply at_inb_exit) | refine at_inb_pass rfl ?_ | ((refine g_reg (id := 9) ?_; refine c_drawno (.own 170 4 (some ⟨b, 0, none⟩) p p (qds L) :: .blk b1 69 scrZ :: H) (fun _ hw => hw.subs (by repeat (first | refine Subs.cons (by repeat constructor) ?_ | exact Subs.sub (by repeat (first | exact List.Sublist.refl _ | exact List.nil_sublist _ | refine List.Sublist.cons _ ?_))))) ?_)) | refine c_drawn (by kernel_rfl) ?_)
    refine at_meet (k + 1) ⟨by omega, by omega⟩ ?_ (fun _ hw => hw.subs (by repeat (first | refine Subs.cons (by repeat constructor) ?_ | exact Subs.sub (by repeat (first | exact List.Sublist.refl _ | exact List.nil_sublist _ | refine List.Sublist.cons _ ?_)))))
    rw [← hnx]; exact (by repeat (first | exact Le.nil _ | refine Le.cons (by first | rfl | (exact congrArg some (congrArg (Value.int _) (by omega)))) ?_))
  · obtain rfl : k = 31 := by omega
    repeat' (first | (apply g_sl; first | (apply ks_nil; refine sl_nil ?_) | (apply ks_move; refine s_move rfl rfl ?_) | (apply ks_bin; refine s_bin rfl rfl rfl ?_; first | first | refine c_storepL rfl rfl rfl rfl rfl rfl rfl rfl rfl ?_ | (first | (apply kb_add; first | refine bb_add ⟨by omega, by omega⟩ ?_ | refine bb_of rfl ?_) | (apply kb_mul; first | refine bb_mul ⟨by omega, by omega⟩ ?_ | refine bb_of rfl ?_) | (apply kb_quo; refine bb_quo ⟨by omega, by omega⟩ (by omega) (by omega) ?_) | (apply kb_rem; refine bb_rem (by omega) (by omega) ?_) | refine bb_of rfl ?_)) | (apply ks_load; first | (refine s_load rfl rfl ?_; first | refine ld_cell rfl ?_ | refine ld_whole rfl ?_ | refine ld_elem rfl ?_ | refine ld_part rfl rfl ?_) | first | refine c_storepL rfl rfl rfl rfl rfl rfl rfl rfl rfl ?_) | (apply ks_asgn; refine s_asgn rfl rfl ?_) | (apply ks_field; first | refine s_field (c_field0 rfl rfl) rfl ?_ | refine s_field (c_field rfl rfl) rfl ?_) | (apply ks_un; refine s_un (y_un rfl rfl rfl) rfl ?_) | (apply ks_build; first | refine s_build (c_build rfl rfl rfl) rfl ?_ | first | refine c_storepL rfl rfl rfl rfl rfl rfl rfl rfl rfl ?_) | (apply ks_indexA; first | refine s_indexA (c_indexAddr rfl rfl rfl rfl (by omega) (by omega)) rfl ?_ | first | refine c_storepL rfl rfl rfl rfl rfl rfl rfl rfl rfl ?_) | (apply ks_fn; first | fail) | (apply ks_store; first | first | refine c_store rfl rfl rfl rfl rfl rfl rfl ?_ | refine c_storew rfl rfl rfl rfl rfl rfl rfl rfl ?_ | refine c_storee rfl rfl rfl rfl rfl (by omega) rfl ?_ | first | refine c_storepL rfl rfl rfl rfl rfl rfl rfl rfl rfl ?_) | (apply ks_alloc; refine c_alloc rfl rfl rfl rfl (fun _ => ?_)) | first | refine c_storepL rfl rfl rfl rfl rfl rfl rfl rfl rfl ?_) | (apply sw_seq) | (apply at_srd) | (apply sw_skip) | (apply sw_ret) | (apply sw_exit) | (apply sw_block) | (apply sw_region) | (refine sw_cd rfl ?_; first | (apply gd_t) | (apply gd_ft) | (apply gd_tf) | (apply gd_dec_t <;> intro hq <;> (try (exfalso; omega))) | (apply gd_dec_f <;> intro hq <;> (try (exfalso; omega))) | (apply gd_beq_t <;> intro hq <;> (try (exfalso; omega))) | (apply gd_beq_f <;> intro hq <;> (try (exfalso; omega))) | (apply gd_bne_t <;> intro hq <;> (try (exfalso; omega))) | (apply gd_bne_f <;> intro hq <;> (try (exfalso; omega))) | (apply gd_not_t <;> intro hq) | (apply gd_not_f <;> intro hq) | (apply gd_raw_t <;> intro hq) | (apply gd_raw_f <;> intro hq)) | (apply at_thn) | (apply at_thn_ret) | (apply at_thn_exit) | (apply at_inb) | (apply at_inb_ret) | (apply at_inb_exit) | refine at_inb_pass rfl ?_ | refine c_drawn (by kernel_rfl) ?_)
    refine e_scc (.own 170 4 (some ⟨b, 0, none⟩) p p (qds L) :: H) (by first | exact .inl rfl | exact .inr rfl) rfl (by first | rfl | simp) rfl (fun _ hw => hw.subs (by repeat (first | refine Subs.cons (by repeat constructor) ?_ | exact Subs.sub (by repeat (first | exact List.Sublist.refl _ | exact List.nil_sublist _ | refine List.Sublist.cons _ ?_))))) ?_
    exact ⟨some ⟨b, 0, none⟩, by rw [hscr _ _ rfl]; rfl, rfl⟩
end Go.Proofs.YtflmckoolagikaaDoor
end
section
namespace Go.Fw
open Go Go.RowKit Go.Sx
def kCh (L : List Int) (f : Nat) : Int := L.getD (19 + f) 0
def kSet (L : List Int) (f : Nat) (x y : Int) : List Int := (L.set f x).set (19 + f) y
theorem kSet_len (L : List Int) (f : Nat) (x y : Int) : (kSet L f x y).length = L.length := by simp [kSet]
/-- Numbers of bytes. -/
def Oct (x : Int) : Prop := 0 ≤ x ∧ x ≤ 255
theorem octs_set (L : List Int) (k : Nat) (v : Int) : (octs L).set k (.int .u8 v) = octs (L.set k v) := by simp [octs, List.map_set]
theorem octs_at (L : List Int) (k : Nat) (h : k < L.length) : (octs L)[k]? = some (.int .u8 (L.getD k 0)) := by
  simp [octs, List.getD, List.getElem?_eq_getElem h]
theorem octs_len (L : List Int) : (octs L).length = L.length := by simp [octs]
end Go.Fw
end
section
namespace Go.Proofs.YtflmckoolagikaaDoor
open Go Go.RowKit Go.Fw Go.Sx
set_option maxRecDepth 100000
set_option maxHeartbeats 1000000
attribute [local irreducible] SW SL SQ AtQ SV SC BB LD PK Yields SO SOT SOA SY
abbrev keysV (L : List Int) : Value := .agg (octs L).toArray
end Go.Proofs.YtflmckoolagikaaDoor
end
section
namespace Go.Proofs.YtflmckoolagikaaDoor
open Go Go.RowKit Go.Fw Go.Sx
set_option maxRecDepth 100000
set_option maxHeartbeats 2000000
attribute [local irreducible] SW SL SQ AtQ SV SC BB LD PK Yields SO SOT SOA SY
theorem bytes_sv (G : Ctx) (H : List Ent) (xs : List Int) {vs : List Value} (a : Option Addr) (n c : Nat) [h1 : RdC G H a vs] (hv : vs = ints xs) (hn : n = xs.length) (hl : xs.length ≤ 100000) (ho : ∀ x ∈ xs, Oct x) : SV Tryd.prog G 47 [.slice a n c] H (.string (strOfNums xs)) := by
  subst hv
  have e : bytesOf xs = strOfNums xs := by
    have : xs.map (· % 256) = xs := by
      refine (List.map_congr_left fun x hx => ?_).trans (List.map_id _)
      have := ho x hx
      show x % 256 = x
      exact Int.emod_eq_of_lt this.1 (by have := this.2; omega)
    first | (unfold bytesOf; rw [this]) | skip
  rw [← e]
  exact sv_of_calls (callee_of Tryd.func47 rfl rfl) fun w hw => bytes_any xs a n c w hn hl (h1.here w hw)
end Go.Proofs.YtflmckoolagikaaDoor
end
section
namespace Go.Fw
open Go Go.RowKit Go.Sx
def wds (X : List Int) : List Value := X.map (Value.int .u64)
/-- 512 states, and what may be on: 8 words. -/
def negC (W X : List Int) : List Value := octs W ++ wds X
abbrev negV (W X : List Int) : Value := .agg (negC W X).toArray
theorem negC_len {W X : List Int} (hW : W.length = 512) (hX : X.length = 8) : (negC W X).length = 520 := by simp [negC, octs, wds, hW, hX]
end Go.Fw
namespace Go.Proofs.YtflmckoolagikaaDoor
open Go Go.RowKit Go.Fw Go.Sx
set_option maxRecDepth 100000
set_option maxHeartbeats 1000000
attribute [local irreducible] SW SL SQ AtQ SV SC BB LD PK Yields SO SOT SOA SY
attribute [local irreducible] negC
end Go.Proofs.YtflmckoolagikaaDoor
end
section
namespace Go.Proofs.YtflmckoolagikaaDoor
open Go Go.RowKit Go.Fw Go.Sx
set_option maxRecDepth 100000
set_option maxHeartbeats 1000000
theorem over_app {p q S : List Value} (h : q.length = S.length) : over (p ++ q) p.length S = p ++ S := by
  unfold over
  rw [List.take_left, List.drop_eq_nil_of_le (by simp; omega), List.append_nil]
theorem over_preV {a N c vs : List Value} {off : Nat} (h : off + vs.length ≤ a.length) : over (big a N c) off vs = big (over a off vs) N c := by
  unfold over big
  rw [List.take_append_of_le_length (by omega), List.drop_append_of_le_length (by omega)]
  simp only [List.append_assoc]
theorem over_postV {a N c vs : List Value} {m off : Nat} [hN : Len N m] (h2 : Nat.ble (a.length + m) off = true) : over (big a N c) off vs = big a N (over c (off - (a.length + m)) vs) := by
  have h2 := Nat.le_of_ble_eq_true h2
  have hN := hN.here
  have e3 : (a ++ N).length = a.length + m := by rw [List.length_append, hN]
  unfold over big
  rw [← List.append_assoc, List.take_append, List.take_of_length_le (by omega), List.drop_append, show (a ++ N).drop (off + vs.length) = [] from List.drop_eq_nil_of_le (by omega), e3, List.nil_append]
  simp only [List.append_assoc]
  congr 5
  omega
theorem fill_o {offs : List (Nat × Nat)} {l cs l' : List Value} {i off sz : Nat} {r : List (Nat × List Value)} (h1 : offs[i]? = some (off, sz)) (h2 : cs.length = sz) (h3 : 0 < sz) (h4 : off + sz ≤ l.length) (h5 : over l off cs = l') : fillL? offs l ((i, cs) :: r) = fillL? offs l' r := by
  rw [fill_c h1 h2 h3 h4, ← h5]
  unfold over
  rw [h2, List.append_assoc]
/-- Five, one, one, five cells: nothing under way. -/
def cli0 : List Value := .int .i64 0 :: .int .i64 0 :: .int .i64 0 :: .string .empty :: .bool false :: .bool false :: .string .empty :: .int .i64 0 :: .int .i64 0 :: .string .empty :: .string .empty :: .string .empty :: []
def negZ : List Value := List.replicate 512 (Value.int .u8 0) ++ List.replicate 8 (Value.int .u64 0)
def keyZ : List Value := List.replicate 38 (Value.int .u8 0)
def cliE : List Value := [.int .u64 0, .int .u64 0, .int .u64 0, .int .u64 0, .string .empty, .bool false, .bool false]
def cliZ : List Value := big (cli0 ++ scrZ) negZ (big [.slice none 0 0, .int .i64 0, .slice none 0 0] keyZ cliE)
def cliOffs : List (Nat × Nat) := [(0, 5), (5, 1), (6, 1), (7, 5), (12, 33), (45, 520), (565, 2), (567, 1), (568, 38), (606, 4), (610, 2), (612, 1)]
instance lenNegZ : Len negZ 520 := ⟨by simp [negZ]⟩
instance lenKeyZ : Len keyZ 38 := ⟨by simp [keyZ]⟩
theorem cliOff : OffsT Tryd.prog 82 cliOffs cliZ := ⟨(cliOffs.toArray[·]?), fun _ => by kernel_rfl, fun i p h => by simpa using h⟩
instance cliZero : ZeroT Tryd.prog 82 cliZ := ⟨_, show still Tryd.prog (zeroValue 82) = some (.agg cliZ.toArray) by kernel_rfl, .agg _⟩
theorem negOff : OffsT Tryd.prog 72 [(0, 256), (256, 256), (512, 4), (516, 4)] negZ := ⟨(([(0, 256), (256, 256), (512, 4), (516, 4)] : List (Nat × Nat)).toArray[·]?), fun _ => by kernel_rfl, fun i p h => by simpa using h⟩
def cliP (na : Option Addr) (nn nc : Nat) (at' : Int) (va : Option Addr) (vn vc : Nat) : List Value := [.slice na nn nc, .int .i64 at', .slice va vn vc]
theorem cliFill (S N : List Value) (hS : S.length = 33) (hN : N.length = 520) (na : Option Addr) (nn nc : Nat) (va : Option Addr) (vn vc : Nat) :
    fillL? cliOffs cliZ [(4, S), (6, [.slice na nn nc, .int .i64 0]), (7, [.slice va vn vc]), (5, N)] = some (big (cli0 ++ S) N (big (cliP na nn nc 0 va vn vc) keyZ cliE)) := by
  have hc : cliZ.length = 613 := by unfold cliZ; exact big_len (m := 520) (by rw [show (big [Value.slice none 0 0, .int .i64 0, .slice none 0 0] keyZ cliE).length = 48 from big_len (m := 38) rfl]; rfl)
  have h1 : over cliZ 12 S = big (cli0 ++ S) negZ (big [.slice none 0 0, .int .i64 0, .slice none 0 0] keyZ cliE) := by
    unfold cliZ
    rw [over_preV (by rw [hS]; exact Nat.le_of_ble_eq_true rfl)]
    rw [show (12 : Nat) = cli0.length from rfl, over_app (by rw [hS]; rfl)]
  have hA : (cli0 ++ S).length = 45 := by rw [List.length_append, hS]; rfl
  have h2 : over (big (cli0 ++ S) negZ (big [.slice none 0 0, .int .i64 0, .slice none 0 0] keyZ cliE)) 565 [.slice na nn nc, .int .i64 0] = big (cli0 ++ S) negZ (big [.slice na nn nc, .int .i64 0, .slice none 0 0] keyZ cliE) := by
    rw [over_postV (m := 520) (by rw [hA]; rfl), hA, show 565 - (45 + 520) = 0 from rfl, over_preV (Nat.le_of_ble_eq_true rfl)]
    rfl
  have h3 : over (big (cli0 ++ S) negZ (big [.slice na nn nc, .int .i64 0, .slice none 0 0] keyZ cliE)) 567 [.slice va vn vc] = big (cli0 ++ S) negZ (big (cliP na nn nc 0 va vn vc) keyZ cliE) := by
    rw [over_postV (m := 520) (by rw [hA]; rfl), hA, show 567 - (45 + 520) = 2 from rfl, over_preV (Nat.le_of_ble_eq_true rfl)]
    rfl
  have h4 : over (big (cli0 ++ S) negZ (big (cliP na nn nc 0 va vn vc) keyZ cliE)) 45 N = big (cli0 ++ S) N (big (cliP na nn nc 0 va vn vc) keyZ cliE) := over_mid (m := 520) hA hN
  have hb : ∀ (P : List Value), P.length = 3 → (big (cli0 ++ S) negZ (big P keyZ cliE)).length = 613 := fun P hP => by
    rw [big_len (m := 520) (k := 613) (by rw [show (big P keyZ cliE).length = 48 from big_len (m := 38) (by rw [hP]; rfl), hA]; rfl)]
  rw [fill_o (off := 12) (sz := 33) rfl hS (by decide) (by rw [hc]; decide) h1, fill_o (off := 565) (sz := 2) rfl rfl (by decide) (by rw [hb _ rfl]; decide) h2, fill_o (off := 567) (sz := 1) rfl rfl (by decide) (by rw [hb _ rfl]; decide) h3, fill_o (off := 45) (sz := 520) rfl hN (by decide) (by rw [hb _ rfl]; decide) h4]
  rfl
theorem cliFill2 (S : List Value) (hS : S.length = 33) (va : Option Addr) (vn vc : Nat) :
    fillL? cliOffs cliZ [(4, S), (7, [.slice va vn vc])] = some (big (cli0 ++ S) negZ (big (cliP none 0 0 0 va vn vc) keyZ cliE)) := by
  have hc : cliZ.length = 613 := by unfold cliZ; exact big_len (m := 520) (by rw [show (big [Value.slice none 0 0, .int .i64 0, .slice none 0 0] keyZ cliE).length = 48 from big_len (m := 38) rfl]; rfl)
  have h1 : over cliZ 12 S = big (cli0 ++ S) negZ (big [.slice none 0 0, .int .i64 0, .slice none 0 0] keyZ cliE) := by
    unfold cliZ
    rw [over_preV (by rw [hS]; exact Nat.le_of_ble_eq_true rfl)]
    rw [show (12 : Nat) = cli0.length from rfl, over_app (by rw [hS]; rfl)]
  have hA : (cli0 ++ S).length = 45 := by rw [List.length_append, hS]; rfl
  have h3 : over (big (cli0 ++ S) negZ (big [.slice none 0 0, .int .i64 0, .slice none 0 0] keyZ cliE)) 567 [.slice va vn vc] = big (cli0 ++ S) negZ (big (cliP none 0 0 0 va vn vc) keyZ cliE) := by
    rw [over_postV (m := 520) (by rw [hA]; rfl), hA, show 567 - (45 + 520) = 2 from rfl, over_preV (Nat.le_of_ble_eq_true rfl)]
    rfl
  have hb : ∀ (P : List Value), P.length = 3 → (big (cli0 ++ S) negZ (big P keyZ cliE)).length = 613 := fun P hP => by
    rw [big_len (m := 520) (k := 613) (by rw [show (big P keyZ cliE).length = 48 from big_len (m := 38) (by rw [hP]; rfl), hA]; rfl)]
  rw [fill_o (off := 12) (sz := 33) rfl hS (by decide) (by rw [hc]; decide) h1, fill_o (off := 567) (sz := 1) rfl rfl (by decide) (by rw [hb _ rfl]; decide) h3]
  rfl
theorem big_name {A N K E : List Value} {v0 v : Value} {r : List Value} (hA : A.length = 45) (hN : N.length = 520) : (big A N (big (v0 :: r) K E)).set 565 v = big A N (big (v :: r) K E) := by
  unfold big
  rw [List.set_append_right _ _ (by omega), List.set_append_right _ _ (by omega), hA, hN]
  rfl
theorem neg_o12 (x0 x1 x2 x3 x4 x5 x6 x7 : Int) : over (over negZ 512 [.int .u64 x0, .int .u64 x1, .int .u64 x2, .int .u64 x3]) 516 [.int .u64 x4, .int .u64 x5, .int .u64 x6, .int .u64 x7] = negC (List.replicate 512 0) [x0, x1, x2, x3, x4, x5, x6, x7] := by
  unfold over negZ negC octs wds
  simp
theorem neg_o21 (x0 x1 x2 x3 x4 x5 x6 x7 : Int) : over (over negZ 516 [.int .u64 x4, .int .u64 x5, .int .u64 x6, .int .u64 x7]) 512 [.int .u64 x0, .int .u64 x1, .int .u64 x2, .int .u64 x3] = negC (List.replicate 512 0) [x0, x1, x2, x3, x4, x5, x6, x7] := by
  unfold over negZ negC octs wds
  simp
theorem over_sub' {a N c vs : List Value} {off k : Nat} (hk : off = a.length + k) (h2 : k + vs.length ≤ N.length) : over (big a N c) off vs = big a (over N k vs) c := by
  subst hk
  rw [over_sub (by omega) (by omega), Nat.add_sub_cancel_left]
theorem negFill (x : List Value) (y : List Value) (hx : x.length = 4) (hy : y.length = 4) : fillL? [(0, 256), (256, 256), (512, 4), (516, 4)] negZ [(2, x), (3, y)] = some (List.replicate 512 (Value.int .u8 0) ++ (x ++ y)) := by
  have hz : negZ.length = 520 := by simp [negZ]
  have h1 : over negZ 512 x = List.replicate 512 (Value.int .u8 0) ++ (x ++ List.replicate 4 (.int .u64 0)) := by
    unfold over negZ
    rw [hx, List.take_append_of_le_length (by simp), List.take_of_length_le (by simp), List.drop_append, List.drop_eq_nil_of_le (by simp)]
    simp
  have h2 : over (List.replicate 512 (Value.int .u8 0) ++ (x ++ List.replicate 4 (.int .u64 0))) 516 y = List.replicate 512 (Value.int .u8 0) ++ (x ++ y) := by
    unfold over
    rw [hy, ← List.append_assoc, List.take_append, List.take_of_length_le (by simp; omega), List.drop_eq_nil_of_le (by simp; omega)]
    simp [hx]
  rw [fill_o (off := 512) (sz := 4) rfl hx (by decide) (by rw [hz]; decide) h1, fill_o (off := 516) (sz := 4) rfl hy (by decide) (by simp [hx]) h2]
  rfl
theorem negFillC (x0 x1 x2 x3 x4 x5 x6 x7 : Int) : fillL? [(0, 256), (256, 256), (512, 4), (516, 4)] negZ [(2, [.int .u64 x0, .int .u64 x1, .int .u64 x2, .int .u64 x3]), (3, [.int .u64 x4, .int .u64 x5, .int .u64 x6, .int .u64 x7])] = some (negC (List.replicate 512 0) [x0, x1, x2, x3, x4, x5, x6, x7]) := by
  rw [negFill _ _ rfl rfl]
  unfold negC octs wds
  rw [List.map_replicate]
  rfl
theorem big_all {a N c : List Value} (h1 : a.all (·.oneCell') = true) (h2 : N.all (·.oneCell') = true) (h3 : c.all (·.oneCell') = true) : (big a N c).all (·.oneCell') = true := by
  unfold big; rw [List.all_append, List.all_append, h1, h2, h3]; rfl
theorem negC_all (W X : List Int) : (negC W X).all (·.oneCell') = true := by
  unfold negC wds octs
  simp [List.all_append, Value.oneCell']
theorem octs_all (K : List Int) : (octs K).all (·.oneCell') = true := octs_one K
/-- The keys of a new client, those set whose numbers are in the list. -/
def kCh : List Int := [127, 21, 23, 18, 22]
def kSet (p : Nat → Bool) : List Int := (List.range 38).map fun j => if 10 ≤ j ∧ j ≤ 14 ∧ p (j - 10) = true then 2 else if 29 ≤ j ∧ j ≤ 33 ∧ p (j - 29) = true then kCh.getD (j - 29) 0 else 0
theorem kSet_len (p : Nat → Bool) : (kSet p).length = 38 := by simp [kSet]
theorem kSet_at (p : Nat → Bool) (j : Nat) (hj : j < 38) : (kSet p)[j]? = some (if 10 ≤ j ∧ j ≤ 14 ∧ p (j - 10) = true then 2 else if 29 ≤ j ∧ j ≤ 33 ∧ p (j - 29) = true then kCh.getD (j - 29) 0 else 0) := by
  unfold kSet
  rw [List.getElem?_map, List.getElem?_range hj]; rfl
theorem kSet_none : octs (kSet fun _ => false) = keyZ := by
  rw [show kSet (fun _ => false) = List.replicate 38 0 from by decide +kernel]; simp [octs, keyZ]
theorem kSet_step (p : Nat → Bool) (i : Nat) (hi : i < 5) : ((kSet p).set (10 + i) 2).set (29 + i) (kCh.getD i 0) = kSet fun j => p j || j == i := by
  apply List.ext_getElem?
  intro j
  by_cases hj : j < 38
  · rw [kSet_at _ j hj, List.getElem?_set, List.getElem?_set, kSet_at _ j hj]
    simp only [List.length_set, kSet_len]
    by_cases h1 : 29 + i = j
    · subst h1
      have : ¬ (29 + i ≤ 14) := by omega
      simp [hj, this, show 29 + i ≤ 33 from by omega]
    · rw [if_neg h1]
      by_cases h2 : 10 + i = j
      · subst h2
        simp [hj, show 10 + i ≤ 14 from by omega]
      · rw [if_neg h2]
        congr 1
        have e1 : (10 ≤ j ∧ j ≤ 14 ∧ p (j - 10) = true) ↔ (10 ≤ j ∧ j ≤ 14 ∧ (p (j - 10) || j - 10 == i) = true) := by
          constructor
          · rintro ⟨a, b, c⟩; exact ⟨a, b, by rw [c]; rfl⟩
          · rintro ⟨a, b, c⟩
            refine ⟨a, b, ?_⟩
            rw [Bool.or_eq_true, beq_iff_eq] at c
            rcases c with c | c
            · exact c
            · omega
        have e2 : (29 ≤ j ∧ j ≤ 33 ∧ p (j - 29) = true) ↔ (29 ≤ j ∧ j ≤ 33 ∧ (p (j - 29) || j - 29 == i) = true) := by
          constructor
          · rintro ⟨a, b, c⟩; exact ⟨a, b, by rw [c]; rfl⟩
          · rintro ⟨a, b, c⟩
            refine ⟨a, b, ?_⟩
            rw [Bool.or_eq_true, beq_iff_eq] at c
            rcases c with c | c
            · exact c
            · omega
        simp only [e1, e2]
  · rw [List.getElem?_eq_none (by simp [kSet_len]; omega), List.getElem?_eq_none (by simp [kSet_len]; omega)]
theorem kSet_congr {p q : Nat → Bool} (h : ∀ i, i < 5 → p i = q i) : kSet p = kSet q := by
  unfold kSet
  refine List.map_congr_left fun j hj => ?_
  by_cases h1 : 10 ≤ j ∧ j ≤ 14
  · rw [h (j - 10) (by omega), if_neg (by omega : ¬ (29 ≤ j ∧ _)), if_neg (by omega : ¬ (29 ≤ j ∧ _))]
  · rw [if_neg (by omega : ¬ (10 ≤ j ∧ _)), if_neg (by omega : ¬ (10 ≤ j ∧ _))]
    by_cases h2 : 29 ≤ j ∧ j ≤ 33
    · rw [h (j - 29) (by omega)]
    · rw [if_neg (by omega : ¬ (29 ≤ j ∧ _)), if_neg (by omega : ¬ (29 ≤ j ∧ _))]
theorem cli_key {A N P E : List Value} {K : List Int} (hA : A.length = 45) (hN : N.length = 520) (hP : P.length = 3) (hK : K.length = 38) (j k : Nat) (v : Int) (hj : j < 38) (hk : k = 568 + j) : (big A N (big P (octs K) E)).set k (.int .u8 v) = big A N (big P (octs (K.set j v)) E) := by
  subst hk
  unfold big
  rw [List.set_append_right _ _ (by omega), List.set_append_right _ _ (by omega), List.set_append_right _ _ (by omega), List.set_append_left _ _ (by rw [octs_len]; omega), octs_set, hA, hN, hP, show 568 + j - 45 - 520 - 3 = j from by omega]
theorem cli_len {A N P E K : List Value} (hA : A.length = 45) (hN : N.length = 520) (hP : P.length = 3) (hK : K.length = 38) (hE : E.length = 7) : (big A N (big P K E)).length = 613 := by
  unfold big
  simp only [List.length_append, hA, hN, hP, hK, hE]
/-- The map's five entries. -/
def kE (i : Nat) : MapEntry := ⟨.int .i64 (10 + i : Nat), .int .u8 (kCh.getD i 0), i⟩
def kEs : Array MapEntry := #[kE 0, kE 1, kE 2, kE 3, kE 4]
theorem kEs_mem {y : MapEntry} (h : y ∈ kEs.toList) : ∃ i, i < 5 ∧ y = kE i := by
  simp only [kEs, List.mem_cons, List.not_mem_nil, or_false] at h
  rcases h with rfl | rfl | rfl | rfl | rfl
  · exact ⟨0, by decide, rfl⟩
  · exact ⟨1, by decide, rfl⟩
  · exact ⟨2, by decide, rfl⟩
  · exact ⟨3, by decide, rfl⟩
  · exact ⟨4, by decide, rfl⟩
theorem kOld : ∀ y ∈ kEs.toList, y.born < 5 := fun y h => by obtain ⟨i, hi, rfl⟩ := kEs_mem h; exact hi
theorem kNodup : (kEs.toList.map (·.born)).Nodup := by decide
theorem kE_in (i : Nat) (h : i < 5) : kE i ∈ kEs.toList := by
  rcases (show i = 0 ∨ i = 1 ∨ i = 2 ∨ i = 3 ∨ i = 4 by omega) with rfl | rfl | rfl | rfl | rfl <;> simp [kEs]
theorem kLeft {seen : Array Nat} {y : MapEntry} (h : y ∈ (leftOf kEs seen).toList) : ∃ i, i < 5 ∧ y = kE i ∧ seen.contains i = false := by
  unfold leftOf at h
  rw [Array.toList_filter, List.mem_filter] at h
  obtain ⟨i, hi, rfl⟩ := kEs_mem h.1
  exact ⟨i, hi, rfl, by simpa [kE] using h.2⟩
theorem kLeft0 {seen : Array Nat} (h : (leftOf kEs seen).size = 0) (i : Nat) (hi : i < 5) : seen.contains i = true := by
  cases hc : seen.contains i with
  | true => rfl
  | false =>
    have hm : kE i ∈ (leftOf kEs seen).toList := by
      unfold leftOf
      rw [Array.toList_filter, List.mem_filter]
      exact ⟨kE_in i hi, by simpa [kE] using hc⟩
    rw [Array.eq_empty_of_size_eq_zero h] at hm
    cases hm
def m5 (a b c d e : Bool) : Nat := (!a).toNat + (!b).toNat + (!c).toNat + (!d).toNat + (!e).toNat
def kMu (seen : Array Nat) : Nat := m5 (seen.contains 0) (seen.contains 1) (seen.contains 2) (seen.contains 3) (seen.contains 4)
theorem kMu_lt {seen : Array Nat} {i : Nat} (hi : i < 5) (h : seen.contains i = false) : kMu (seen.push i) < kMu seen := by
  unfold kMu
  simp only [Array.contains_push]
  have key0 : ∀ b c d e : Bool, m5 (false || true) (b || false) (c || false) (d || false) (e || false) < m5 false b c d e := by decide
  have key1 : ∀ b c d e : Bool, m5 (b || false) (false || true) (c || false) (d || false) (e || false) < m5 b false c d e := by decide
  have key2 : ∀ b c d e : Bool, m5 (b || false) (c || false) (false || true) (d || false) (e || false) < m5 b c false d e := by decide
  have key3 : ∀ b c d e : Bool, m5 (b || false) (c || false) (d || false) (false || true) (e || false) < m5 b c d false e := by decide
  have key4 : ∀ b c d e : Bool, m5 (b || false) (c || false) (d || false) (e || false) (false || true) < m5 b c d e false := by decide
  rcases (show i = 0 ∨ i = 1 ∨ i = 2 ∨ i = 3 ∨ i = 4 by omega) with rfl | rfl | rfl | rfl | rfl <;> rw [h]
  · exact key0 _ _ _ _
  · exact key1 _ _ _ _
  · exact key2 _ _ _ _
  · exact key3 _ _ _ _
  · exact key4 _ _ _ _
end Go.Proofs.YtflmckoolagikaaDoor
end
section
namespace Go.Proofs.YtflmckoolagikaaDoor
open Go Go.RowKit Go.Fw Go.Sx
/-- A byte that a name may have. -/
def nameByte (x : Int) : Bool := decide (33 ≤ x ∧ x ≤ 126)
/-- A text that is a name. -/
def nameB (s : ByteArray) : Bool := decide (1 ≤ s.size ∧ s.size ≤ 40) && (nums s).all nameByte
/-- Name i is one, and stands nowhere ahead. -/
def okAt (l : List ByteArray) (i : Nat) : Bool := nameB (l.getD i ByteArray.empty) && decide (idxStrsAt l (l.getD i ByteArray.empty) = i)
def okAll (l : List ByteArray) (k : Nat) : Bool := (List.range k).all (okAt l)
theorem okAll_zero (l : List ByteArray) : okAll l 0 = true := rfl
theorem okAll_succ (l : List ByteArray) (k : Nat) : okAll l (k + 1) = (okAll l k && okAt l k) := by
  unfold okAll
  rw [List.range_succ, List.all_append]
  simp
theorem okAll_bad {l : List ByteArray} {k m : Nat} (h : okAt l k = false) (hk : k < m) : okAll l m = false := by
  unfold okAll
  rw [List.all_eq_false]
  exact ⟨k, List.mem_range.2 hk, by rw [h]; simp⟩
/-- What is wrong with names of which the n-th said last. -/
def sortsE (l : List ByteArray) (at_ : Int) : Int := if ¬ (1 ≤ l.length ∧ l.length ≤ 8) then 1 else if okAll l l.length = false then 4 else if ¬ (0 ≤ at_ ∧ at_ ≤ l.length) then 1 else 0
theorem sortsE_len {l : List ByteArray} {t : Int} (h : ¬ (1 ≤ l.length ∧ l.length ≤ 8)) : sortsE l t = 1 := if_pos h
theorem sortsE_bad {l : List ByteArray} {t : Int} (h : 1 ≤ l.length ∧ l.length ≤ 8) (h2 : okAll l l.length = false) : sortsE l t = 4 := by
  unfold sortsE; rw [if_neg (fun e => e h), if_pos h2]
theorem sortsE_at {l : List ByteArray} {t : Int} (h : 1 ≤ l.length ∧ l.length ≤ 8) (h2 : okAll l l.length = true) (h3 : ¬ (0 ≤ t ∧ t ≤ l.length)) : sortsE l t = 1 := by
  unfold sortsE; rw [if_neg (fun e => e h), if_neg (by rw [h2]; simp), if_pos h3]
theorem sortsE_ok {l : List ByteArray} {t : Int} (h : 1 ≤ l.length ∧ l.length ≤ 8) (h2 : okAll l l.length = true) (h3 : 0 ≤ t ∧ t ≤ l.length) : sortsE l t = 0 := by
  unfold sortsE; rw [if_neg (fun e => e h), if_neg (by rw [h2]; simp), if_neg (fun e => e h3)]
/-- A name stands first at its own place just where it stands nowhere ahead. -/
theorem idx_self (l : List ByteArray) (i : Nat) (hi : i < l.length) : idxStrsAt l (l.getD i ByteArray.empty) = i ↔ idxStrsIn (l.take i) (l.getD i ByteArray.empty) = false := by
  have hget : ∀ j, j < i → (l.take i).getD j ByteArray.empty = l.getD j ByteArray.empty := fun j hj => by
    simp only [List.getD_eq_getElem?_getD, List.getElem?_take_of_lt hj]
  have hlen : (l.take i).length = i := by rw [List.length_take]; omega
  constructor
  · intro e
    rw [Bool.eq_false_iff]
    intro hm
    obtain ⟨j, hj, ej⟩ := List.getElem_of_mem ((idxStrsIn_iff _ _).1 hm)
    have hji : j < i := by omega
    have e2 : (l.take i).getD j ByteArray.empty = (l.take i)[j] := by simp [List.getD, List.getElem?_eq_getElem hj]
    have e3 : l.getD i ByteArray.empty = l.getD j ByteArray.empty := by rw [← hget j hji, e2, ej]
    have hle : idxStrsAt l (l.getD i ByteArray.empty) ≤ j := by
      unfold idxStrsAt
      split
      · have : l.findIdx (fun x => decide (x = l.getD i ByteArray.empty)) ≤ j := by
          refine Nat.le_of_not_lt fun hlt => ?_
          have h1 := List.not_of_lt_findIdx hlt
          have h2 : l.getD j ByteArray.empty = l[j]'(by omega) := by simp [List.getD, List.getElem?_eq_getElem (show j < l.length by omega)]
          exact absurd (h2.symm.trans e3.symm) (of_decide_eq_false h1)
        omega
      · omega
    omega
  · intro hm
    refine idxStrsAt_yes l _ i (fun j hj e => ?_) rfl hi
    rw [Bool.eq_false_iff] at hm
    refine hm ((idxStrsIn_iff _ _).2 ?_)
    rw [e, ← hget j hj]
    have hj' : j < (l.take i).length := by omega
    have e2 : (l.take i).getD j ByteArray.empty = (l.take i)[j] := by simp [List.getD, List.getElem?_eq_getElem hj']
    rw [e2]
    exact List.getElem_mem hj'
theorem okAt_iff (l : List ByteArray) (i : Nat) (hi : i < l.length) : okAt l i = (nameB (l.getD i ByteArray.empty) && !idxStrsIn (l.take i) (l.getD i ByteArray.empty)) := by
  unfold okAt
  congr 1
  have := idx_self l i hi
  cases h : idxStrsIn (l.take i) (l.getD i ByteArray.empty)
  · simpa using this.2 h
  · have h2 : ¬ idxStrsAt l (l.getD i ByteArray.empty) = i := fun e => by rw [this.1 e] at h; cases h
    simpa using h2
attribute [irreducible] nameB okAt okAll sortsE
end Go.Proofs.YtflmckoolagikaaDoor
end
section
namespace Go.Proofs.YtflmckoolagikaaDoor
open Go Go.RowKit Go.Fw Go.Sx
theorem size_nil {s : ByteArray} (h : s.size = 0) : s = ⟨#[]⟩ := by
  obtain ⟨d⟩ := s
  congr 1
  exact Array.eq_empty_of_size_eq_zero h
end Go.Proofs.YtflmckoolagikaaDoor
end
section
namespace Go.Proofs.YtflmckoolagikaaDoor
open Go Go.RowKit Go.Fw Go.Sx
set_option maxRecDepth 100000
set_option maxHeartbeats 1000000
attribute [local irreducible] SW SL SQ AtQ SV SC BB LD PK Yields SO SOT SOA SY
theorem name_bad {s : ByteArray} {i : Nat} (hi : i < s.size) (h : ¬ (33 ≤ (nums s).getD i 0 ∧ (nums s).getD i 0 ≤ 126)) : nameB s = false := by
  unfold nameB
  rw [Bool.and_eq_false_iff]
  right
  rw [List.all_eq_false]
  have hl : i < (nums s).length := by rw [nums_length]; exact hi
  refine ⟨(nums s)[i], List.getElem_mem hl, ?_⟩
  have e : (nums s).getD i 0 = (nums s)[i] := by simp [List.getD, List.getElem?_eq_getElem hl]
  rw [e] at h
  simp [nameByte]
  omega
theorem name_ok {s : ByteArray} (h : ∀ i, i < s.size → 33 ≤ (nums s).getD i 0 ∧ (nums s).getD i 0 ≤ 126) : nameB s = decide (1 ≤ s.size ∧ s.size ≤ 40) := by
  unfold nameB
  have : (nums s).all nameByte = true := by
    rw [List.all_eq_true]
    intro x hx
    obtain ⟨i, hi, rfl⟩ := List.getElem_of_mem hx
    have := h i (by rw [← nums_length]; exact hi)
    have e : (nums s).getD i 0 = (nums s)[i] := by simp [List.getD, List.getElem?_eq_getElem hi]
    rw [e] at this
    simpa [nameByte] using this
  rw [this, Bool.and_true]
theorem name_sv (G : Ctx) (H : List Ent) (s : ByteArray) (hz : s.size ≤ maxLen) : SV Tryd.prog G 111 [.string s] H (.bool (nameB s)) := by
  have hz' : s.size ≤ 9223372036854775807 := hz
  clear hz
  refine sv_enter1 Tryd.func111 rfl rfl rfl rfl rfl ?_
  repeat' (first | (apply g_sl; first | (apply ks_nil; refine sl_nil ?_) | (apply ks_move; refine s_move rfl rfl ?_) | (apply ks_bin; refine s_bin rfl rfl rfl ?_; first | fail | (first | (apply kb_add; first | refine bb_add ⟨by omega, by omega⟩ ?_ | refine bb_of rfl ?_) | refine bb_of rfl ?_)) | (apply ks_asgn; refine s_asgn rfl rfl ?_) | (apply ks_pick; refine s_pick rfl rfl ?_; first | (apply kp_t; refine pk_t rfl ?_) | (apply kp_f; refine pk_f rfl ?_) | refine pk_s rfl rfl ?_) | (apply ks_index; first | fail | refine s_index (c_indexArr rfl rfl rfl (by omega) (by omega) rfl) rfl ?_ | refine s_index (c_indexArrA rfl rfl rfl (by omega) (by omega) rfl) rfl ?_ | refine s_index (c_indexStr rfl rfl rfl (by omega) rfl) rfl ?_) | (apply ks_bi; first | fail | refine s_call (c_len rfl rfl) rfl ?_ | refine s_call (c_len_str rfl rfl) rfl ?_ | refine s_call (c_bi rfl rfl rfl rfl) rfl ?_ | refine c_append rfl rfl rfl rfl (by first | rfl | simp [ints]) (by first | rfl | exact ints_one _ | exact octs_one _ | exact strs_one _) (by omega) rfl rfl (fun _ _ => ?_) | refine c_append_nil rfl rfl rfl rfl (by first | rfl | simp [ints]) (by first | rfl | exact ints_one _ | exact octs_one _ | exact strs_one _) (by omega) rfl rfl (fun _ _ => ?_)) | (apply ks_guard; first | (refine sl_gd rfl rfl rfl rfl ?_; first | (apply gd_t) | (apply gd_ft) | (apply gd_tf) | (apply gd_dec_t <;> intro hq <;> (try (exfalso; omega))) | (apply gd_dec_f <;> intro hq <;> (try (exfalso; omega))) | (apply gd_beq_t <;> intro hq <;> (try (exfalso; omega))) | (apply gd_beq_f <;> intro hq <;> (try (exfalso; omega))) | (apply gd_bne_t <;> intro hq <;> (try (exfalso; omega))) | (apply gd_bne_f <;> intro hq <;> (try (exfalso; omega))) | (apply gd_not_t <;> intro hq) | (apply gd_not_f <;> intro hq) | (apply gd_raw_t <;> intro hq) | (apply gd_raw_f <;> intro hq)) | refine sl_skip_u rfl rfl rfl rfl rfl rfl ?_) | fail) | (apply sw_seq) | (apply at_srd) | (apply sw_skip) | (apply sw_ret) | (apply sw_exit) | (apply sw_block) | (apply sw_region) | (refine sw_cd rfl ?_; first | (apply gd_t) | (apply gd_ft) | (apply gd_tf) | (apply gd_dec_t <;> intro hq <;> (try (exfalso; omega))) | (apply gd_dec_f <;> intro hq <;> (try (exfalso; omega))) | (apply gd_beq_t <;> intro hq <;> (try (exfalso; omega))) | (apply gd_beq_f <;> intro hq <;> (try (exfalso; omega))) | (apply gd_bne_t <;> intro hq <;> (try (exfalso; omega))) | (apply gd_bne_f <;> intro hq <;> (try (exfalso; omega))) | (apply gd_not_t <;> intro hq) | (apply gd_not_f <;> intro hq) | (apply gd_raw_t <;> intro hq) | (apply gd_raw_f <;> intro hq)) | (apply at_thn) | (apply at_thn_ret) | (apply at_thn_exit) | (apply at_inb) | (apply at_inb_ret) | (apply at_inb_exit) | refine at_inb_pass rfl ?_ | refine c_drawn (by kernel_rfl) ?_)
  refine sw_loopg (α := Nat) (fun i => [(0, .string s), (5, .int .i64 s.size), (6, .int .i64 i)]) (fun _ => H)
    (fun i => i ≤ s.size ∧ ∀ j, j < i → 33 ≤ (nums s).getD j 0 ∧ (nums s).getD j 0 ≤ 126) (fun i => s.size - i) 0 ⟨Nat.zero_le _, fun j hj => absurd hj (Nat.not_lt_zero _)⟩ (by repeat (first | exact Le.nil _ | refine Le.cons (by first | rfl | (exact congrArg some (congrArg (Value.int _) (by omega)))) ?_)) (fun _ hw => hw.subs (by repeat (first | refine Subs.cons (by repeat constructor) ?_ | exact Subs.sub (by repeat (first | exact List.Sublist.refl _ | exact List.nil_sublist _ | refine List.Sublist.cons _ ?_))))) ?_
  rintro i ⟨hi, hs⟩
  have Hs := Lib.hid hs
  clear hs
  repeat' (first | (apply g_sl; first | (apply ks_nil; refine sl_nil ?_) | (apply ks_move; refine s_move rfl rfl ?_) | (apply ks_bin; refine s_bin rfl rfl rfl ?_; first | first | (refine s_index (c_indexNum rfl rfl rfl (by omega) (by omega)) rfl ?_) | (refine bb_sne ?_) | (first | (apply kb_add; first | refine bb_add ⟨by omega, by omega⟩ ?_ | refine bb_of rfl ?_) | refine bb_of rfl ?_)) | (apply ks_asgn; refine s_asgn rfl rfl ?_) | (apply ks_pick; refine s_pick rfl rfl ?_; first | (apply kp_t; refine pk_t rfl ?_) | (apply kp_f; refine pk_f rfl ?_) | refine pk_s rfl rfl ?_) | (apply ks_index; first | first | (refine s_index (c_indexNum rfl rfl rfl (by omega) (by omega)) rfl ?_) | (refine bb_sne ?_) | refine s_index (c_indexArr rfl rfl rfl (by omega) (by omega) rfl) rfl ?_ | refine s_index (c_indexArrA rfl rfl rfl (by omega) (by omega) rfl) rfl ?_ | refine s_index (c_indexStr rfl rfl rfl (by omega) rfl) rfl ?_) | (apply ks_bi; first | first | (refine s_index (c_indexNum rfl rfl rfl (by omega) (by omega)) rfl ?_) | (refine bb_sne ?_) | refine s_call (c_len rfl rfl) rfl ?_ | refine s_call (c_len_str rfl rfl) rfl ?_ | refine s_call (c_bi rfl rfl rfl rfl) rfl ?_ | refine c_append rfl rfl rfl rfl (by first | rfl | simp [ints]) (by first | rfl | exact ints_one _ | exact octs_one _ | exact strs_one _) (by omega) rfl rfl (fun _ _ => ?_) | refine c_append_nil rfl rfl rfl rfl (by first | rfl | simp [ints]) (by first | rfl | exact ints_one _ | exact octs_one _ | exact strs_one _) (by omega) rfl rfl (fun _ _ => ?_)) | (apply ks_guard; first | (refine sl_gd rfl rfl rfl rfl ?_; first | (apply gd_t) | (apply gd_ft) | (apply gd_tf) | (apply gd_dec_t <;> intro hq <;> (try (exfalso; omega))) | (apply gd_dec_f <;> intro hq <;> (try (exfalso; omega))) | (apply gd_beq_t <;> intro hq <;> (try (exfalso; omega))) | (apply gd_beq_f <;> intro hq <;> (try (exfalso; omega))) | (apply gd_bne_t <;> intro hq <;> (try (exfalso; omega))) | (apply gd_bne_f <;> intro hq <;> (try (exfalso; omega))) | (apply gd_not_t <;> intro hq) | (apply gd_not_f <;> intro hq) | (apply gd_raw_t <;> intro hq) | (apply gd_raw_f <;> intro hq)) | refine sl_skip_u rfl rfl rfl rfl rfl rfl ?_) | first | (refine s_index (c_indexNum rfl rfl rfl (by omega) (by omega)) rfl ?_) | (refine bb_sne ?_)) | (apply sw_seq) | (apply at_srd) | (apply sw_skip) | (apply sw_ret) | (apply sw_exit) | (apply sw_block) | (apply sw_region) | (refine sw_cd rfl ?_; first | (apply gd_t) | (apply gd_ft) | (apply gd_tf) | (apply gd_dec_t <;> intro hq <;> (try (exfalso; omega))) | (apply gd_dec_f <;> intro hq <;> (try (exfalso; omega))) | (apply gd_beq_t <;> intro hq <;> (try (exfalso; omega))) | (apply gd_beq_f <;> intro hq <;> (try (exfalso; omega))) | (apply gd_bne_t <;> intro hq <;> (try (exfalso; omega))) | (apply gd_bne_f <;> intro hq <;> (try (exfalso; omega))) | (apply gd_not_t <;> intro hq) | (apply gd_not_f <;> intro hq) | (apply gd_raw_t <;> intro hq) | (apply gd_raw_f <;> intro hq)) | (apply at_thn) | (apply at_thn_ret) | (apply at_thn_exit) | (apply at_inb) | (apply at_inb_ret) | (apply at_inb_exit) | refine at_inb_pass rfl ?_ | refine c_drawn (by kernel_rfl) ?_)
  · refine e_sv (by first | exact .inl rfl | exact .inr rfl) rfl (by repeat (first | exact List.Sublist.refl _ | exact List.nil_sublist _ | refine List.Sublist.cons _ ?_)) ?_
    rw [name_bad (i := i) (by omega) (by rw [Int.toNat_natCast] at hq; omega)]; rfl
  · refine at_meet (i + 1) ⟨⟨by omega, fun j hj => ?_⟩, by omega⟩ (by repeat (first | exact Le.nil _ | refine Le.cons (by first | rfl | (exact congrArg some (congrArg (Value.int _) (by omega)))) ?_)) (fun _ hw => hw.subs (by repeat (first | refine Subs.cons (by repeat constructor) ?_ | exact Subs.sub (by repeat (first | exact List.Sublist.refl _ | exact List.nil_sublist _ | refine List.Sublist.cons _ ?_)))))
    rcases Nat.lt_or_ge j i with h | h
    · exact Hs.out j h
    · obtain rfl : j = i := by omega
      rw [Int.toNat_natCast] at *
      omega
  · refine e_sv (by first | exact .inl rfl | exact .inr rfl) rfl (by repeat (first | exact List.Sublist.refl _ | exact List.nil_sublist _ | refine List.Sublist.cons _ ?_)) ?_
    rw [name_bad (i := i) (by omega) (by rw [Int.toNat_natCast] at hq; omega)]; rfl
  · obtain rfl : i = s.size := by omega
    refine e_sv (by first | exact .inl rfl | exact .inr rfl) rfl (by repeat (first | exact List.Sublist.refl _ | exact List.nil_sublist _ | refine List.Sublist.cons _ ?_)) ?_
    rw [name_ok Hs.out]
    refine congrArg Value.bool ?_
    have h1 : 1 ≤ s.size := Nat.pos_of_ne_zero fun h0 => of_decide_eq_false (by assumption) (size_nil h0)
    rw [decide_eq_decide]
    omega
  · obtain rfl : i = s.size := by omega
    refine e_sv (by first | exact .inl rfl | exact .inr rfl) rfl (by repeat (first | exact List.Sublist.refl _ | exact List.nil_sublist _ | refine List.Sublist.cons _ ?_)) ?_
    rw [name_ok Hs.out]
    have h1 : s = ⟨#[]⟩ := of_decide_eq_true (by assumption)
    rw [h1]
    rfl
theorem strs_at (xs : List ByteArray) (k : Nat) (h : k < xs.length) : (strs xs)[(k : Int).toNat * 1]? = some (.string (xs.getD k ByteArray.empty)) := by
  simp [strs, List.getD, List.getElem?_eq_getElem h]
theorem piece_strs (ts : List ByteArray) (q m : Nat) (l h : Int) (hl : l = q) (hh : h = q + m) : ((strs ts).drop (l.toNat * 1)).take ((h.toNat - l.toNat) * 1) = strs ((ts.drop q).take m) := by
  rw [show l.toNat * 1 = q from by omega, show (h.toNat - l.toNat) * 1 = m from by omega]
  simp [strs, List.map_take, List.map_drop]
/-- Sorts as they lie. -/
abbrev sortsV (a : Option Addr) (n c : Nat) (t : Int) : Value := .agg #[.slice a n c, .int .i64 t]
theorem hasStr_sv (G : Ctx) (H : List Ent) (xs : List ByteArray) (y : ByteArray) {vs : List Value} (a : Option Addr) (n c : Nat) [h1 : RdC G H a vs] (hv : vs = strs xs) (hn : n = xs.length) (hm : xs.length ≤ maxLen) : SV Tryd.prog G 112 [.slice a n c, .string y] H (.bool (idxStrsIn xs y)) := by
  subst hv
  exact sv_of_calls (callee_of Tryd.func112 rfl rfl) fun w hw => hasStr_any xs y a n c w hn hm (h1.here w hw)
theorem idxStr_sv (G : Ctx) (H : List Ent) (xs : List ByteArray) (y : ByteArray) {vs : List Value} (a : Option Addr) (n c : Nat) [h1 : RdC G H a vs] (hv : vs = strs xs) (hn : n = xs.length) (hm : xs.length ≤ maxLen) : SV Tryd.prog G 115 [.slice a n c, .string y] H (.int .i64 (idxStrsAt xs y)) := by
  subst hv
  exact sv_of_calls (callee_of Tryd.func115 rfl rfl) fun w hw => idxStrs_any xs y a n c w hn hm (h1.here w hw)
theorem sortsCheck_sv (G : Ctx) (H : List Ent) (l : List ByteArray) (a : Option Addr) (n c : Nat) (t : Int) (hn : n = l.length) (hz : ∀ x ∈ l, x.size ≤ maxLen) (hm : n ≤ maxLen) [RdC G H a (strs l)] [hC : CapC G H a n c] : SV Tryd.prog G 62 [sortsV a n c t] H (.int .i64 (sortsE l t)) := by
  refine sv_here (callee_of Tryd.func62 rfl rfl) fun w0 hw0 => ?_
  have hnc := hC.here w0 hw0
  clear hw0 hC
  have hm' : n ≤ 9223372036854775807 := hm
  have hx : ∀ k, k < n → (strs l)[(k : Int).toNat * 1]? = some (.string (l.getD k ByteArray.empty)) := fun k hk => strs_at l k (by rw [← hn]; exact hk)
  have hlx : (strs l).length = n * 1 := by simp [strs, hn]
  have htk := fun m (h : m ≤ n) => (show m = ((l.drop 0).take m).length from by simp [← hn]; omega)
  have hzk : ∀ k, k < n → (l.getD k ByteArray.empty).size ≤ maxLen := fun k hk => by
    have hk' : k < l.length := by rw [← hn]; exact hk
    have e : l.getD k ByteArray.empty = l[k] := by simp [List.getD, List.getElem?_eq_getElem hk']
    rw [e]; exact hz _ (List.getElem_mem hk')
  have hok : ∀ k, k < n → okAt l k = (nameB (l.getD k ByteArray.empty) && !idxStrsIn (l.take k) (l.getD k ByteArray.empty)) := fun k hk => okAt_iff l k (by rw [← hn]; exact hk)
  have Hn := Lib.hid hn
  have Hx := Lib.hid hx
  have Htk := Lib.hid htk
  have Hzk := Lib.hid hzk
  have Hok := Lib.hid hok
  have Hm := Lib.hid hm
  clear hn hx htk hzk hok hm hz
  refine sv_enter1 Tryd.func62 rfl rfl rfl rfl rfl ?_
  repeat' (first | (apply g_sl; first | (apply ks_nil; refine sl_nil ?_) | (apply ks_move; refine s_move rfl rfl ?_) | (apply ks_bin; refine s_bin rfl rfl rfl ?_; first | fail | (first | (apply kb_add; first | refine bb_add ⟨by omega, by omega⟩ ?_ | refine bb_of rfl ?_) | refine bb_of rfl ?_)) | (apply ks_load; first | (refine s_load rfl rfl ?_; first | refine ld_cell rfl ?_ | refine ld_whole rfl ?_ | refine ld_elem rfl ?_ | refine ld_part rfl rfl ?_) | fail) | (apply ks_asgn; refine s_asgn rfl rfl ?_) | (apply ks_pick; refine s_pick rfl rfl ?_; first | (apply kp_t; refine pk_t rfl ?_) | (apply kp_f; refine pk_f rfl ?_) | refine pk_s rfl rfl ?_) | (apply ks_field; first | refine s_field (c_field0 rfl rfl) rfl ?_ | refine s_field (c_field rfl rfl) rfl ?_) | (apply ks_un; refine s_un (y_un rfl rfl rfl) rfl ?_) | (apply ks_indexA; first | refine s_indexA (c_indexAddr rfl rfl rfl rfl (by omega) (by omega)) rfl ?_ | fail) | (apply ks_fn; first | fail) | (apply ks_bi; first | fail | refine s_call (c_len rfl rfl) rfl ?_ | refine s_call (c_len_str rfl rfl) rfl ?_ | refine s_call (c_bi rfl rfl rfl rfl) rfl ?_ | refine c_append rfl rfl rfl rfl (by first | rfl | simp [ints]) (by first | rfl | exact ints_one _ | exact octs_one _ | exact strs_one _) (by omega) rfl rfl (fun _ _ => ?_) | refine c_append_nil rfl rfl rfl rfl (by first | rfl | simp [ints]) (by first | rfl | exact ints_one _ | exact octs_one _ | exact strs_one _) (by omega) rfl rfl (fun _ _ => ?_)) | (apply ks_box; refine c_box rfl rfl rfl rfl rfl rfl (fun _ => ?_)) | (apply ks_slice; first | fail | refine s_slice (c_sliceStr rfl rfl rfl rfl (by omega) (by omega) (by omega)) rfl ?_) | (apply ks_guard; first | (refine sl_gd rfl rfl rfl rfl ?_; first | (apply gd_t) | (apply gd_ft) | (apply gd_tf) | (apply gd_dec_t <;> intro hq <;> (try (exfalso; omega))) | (apply gd_dec_f <;> intro hq <;> (try (exfalso; omega))) | (apply gd_beq_t <;> intro hq <;> (try (exfalso; omega))) | (apply gd_beq_f <;> intro hq <;> (try (exfalso; omega))) | (apply gd_bne_t <;> intro hq <;> (try (exfalso; omega))) | (apply gd_bne_f <;> intro hq <;> (try (exfalso; omega))) | (apply gd_not_t <;> intro hq) | (apply gd_not_f <;> intro hq) | (apply gd_raw_t <;> intro hq) | (apply gd_raw_f <;> intro hq)) | refine sl_skip_u rfl rfl rfl rfl rfl rfl ?_) | fail) | (apply sw_seq) | (apply at_srd) | (apply sw_skip) | (apply sw_ret) | (apply sw_exit) | (apply sw_block) | (apply sw_region) | (refine sw_cd rfl ?_; first | (apply gd_t) | (apply gd_ft) | (apply gd_tf) | (apply gd_dec_t <;> intro hq <;> (try (exfalso; omega))) | (apply gd_dec_f <;> intro hq <;> (try (exfalso; omega))) | (apply gd_beq_t <;> intro hq <;> (try (exfalso; omega))) | (apply gd_beq_f <;> intro hq <;> (try (exfalso; omega))) | (apply gd_bne_t <;> intro hq <;> (try (exfalso; omega))) | (apply gd_bne_f <;> intro hq <;> (try (exfalso; omega))) | (apply gd_not_t <;> intro hq) | (apply gd_not_f <;> intro hq) | (apply gd_raw_t <;> intro hq) | (apply gd_raw_f <;> intro hq)) | (apply at_thn) | (apply at_thn_ret) | (apply at_thn_exit) | (apply at_inb) | (apply at_inb_ret) | (apply at_inb_exit) | refine at_inb_pass rfl ?_ | refine c_drawn (by kernel_rfl) ?_)
  · refine e_sv (by first | exact .inl rfl | exact .inr rfl) rfl (by repeat (first | exact List.Sublist.refl _ | exact List.nil_sublist _ | refine List.Sublist.cons _ ?_)) ?_
    rw [sortsE_len (by rw [← Hn.out]; omega)]; rfl
  · rename_i b h1
    refine sw_loopg (α := Nat) (fun i => [(1, .pointer (some ⟨b, 0, none⟩)), (16, .slice a n c), (17, .int .i64 n), (18, .int .i64 i)]) (fun _ => .blk b 74 [.slice a n c, .int .i64 t] :: H)
      (fun i => i ≤ n ∧ okAll l i = true) (fun i => n - i) 0 ⟨Nat.zero_le _, okAll_zero l⟩ (by repeat (first | exact Le.nil _ | refine Le.cons (by first | rfl | (exact congrArg some (congrArg (Value.int _) (by omega)))) ?_)) (fun _ hw => hw.subs (by repeat (first | refine Subs.cons (by repeat constructor) ?_ | exact Subs.sub (by repeat (first | exact List.Sublist.refl _ | exact List.nil_sublist _ | refine List.Sublist.cons _ ?_))))) ?_
    rintro i ⟨hi, ho⟩
    by_cases hlt : (i : Int) < n
    · have hx := Hx.out i (by omega)
      have hok := Hok.out i (by omega)
      have Hok1 := Lib.hid hok
      clear hok
      repeat' (first | (apply g_sl; first | (apply ks_nil; refine sl_nil ?_) | (apply ks_move; refine s_move rfl rfl ?_) | (apply ks_bin; refine s_bin rfl rfl rfl ?_; first | first | (refine s_indexA (c_indexAddr rfl rfl rfl hlx (by omega) (by omega)) rfl ?_) | (refine s_load rfl rfl ?_; refine ld_elem hx ?_) | refine c_sliceSl (Hr := H) rfl rfl rfl rfl rfl RdC.here hlx (by omega) (by omega) (by omega) (by omega) rfl rfl (fun _ _ => ?_) | (first | (apply kb_add; first | refine bb_add ⟨by omega, by omega⟩ ?_ | refine bb_of rfl ?_) | refine bb_of rfl ?_)) | (apply ks_load; first | (refine s_load rfl rfl ?_; first | refine ld_cell rfl ?_ | refine ld_whole rfl ?_ | refine ld_elem rfl ?_ | refine ld_part rfl rfl ?_) | first | (refine s_indexA (c_indexAddr rfl rfl rfl hlx (by omega) (by omega)) rfl ?_) | (refine s_load rfl rfl ?_; refine ld_elem hx ?_) | refine c_sliceSl (Hr := H) rfl rfl rfl rfl rfl RdC.here hlx (by omega) (by omega) (by omega) (by omega) rfl rfl (fun _ _ => ?_)) | (apply ks_asgn; refine s_asgn rfl rfl ?_) | (apply ks_pick; refine s_pick rfl rfl ?_; first | (apply kp_t; refine pk_t rfl ?_) | (apply kp_f; refine pk_f rfl ?_) | refine pk_s rfl rfl ?_) | (apply ks_field; first | refine s_field (c_field0 rfl rfl) rfl ?_ | refine s_field (c_field rfl rfl) rfl ?_) | (apply ks_un; refine s_un (y_un rfl rfl rfl) rfl ?_) | (apply ks_indexA; first | refine s_indexA (c_indexAddr rfl rfl rfl rfl (by omega) (by omega)) rfl ?_ | first | (refine s_indexA (c_indexAddr rfl rfl rfl hlx (by omega) (by omega)) rfl ?_) | (refine s_load rfl rfl ?_; refine ld_elem hx ?_) | refine c_sliceSl (Hr := H) rfl rfl rfl rfl rfl RdC.here hlx (by omega) (by omega) (by omega) (by omega) rfl rfl (fun _ _ => ?_)) | (apply ks_fn; first | first | refine c_callv rfl rfl rfl (name_sv _ _ _ (Hzk.out i (by omega))) rfl rfl ?_ | refine c_callv rfl rfl rfl (hasStr_sv _ _ ((l.drop 0).take i) _ _ _ _ (piece_strs l 0 i _ _ rfl (by omega)) (by have := Htk.out i (by omega); omega) (by have := Htk.out i (by omega); have := Hm.out; omega)) rfl rfl ?_) | (apply ks_bi; first | first | (refine s_indexA (c_indexAddr rfl rfl rfl hlx (by omega) (by omega)) rfl ?_) | (refine s_load rfl rfl ?_; refine ld_elem hx ?_) | refine c_sliceSl (Hr := H) rfl rfl rfl rfl rfl RdC.here hlx (by omega) (by omega) (by omega) (by omega) rfl rfl (fun _ _ => ?_) | refine s_call (c_len rfl rfl) rfl ?_ | refine s_call (c_len_str rfl rfl) rfl ?_ | refine s_call (c_bi rfl rfl rfl rfl) rfl ?_ | refine c_append rfl rfl rfl rfl (by first | rfl | simp [ints]) (by first | rfl | exact ints_one _ | exact octs_one _ | exact strs_one _) (by omega) rfl rfl (fun _ _ => ?_) | refine c_append_nil rfl rfl rfl rfl (by first | rfl | simp [ints]) (by first | rfl | exact ints_one _ | exact octs_one _ | exact strs_one _) (by omega) rfl rfl (fun _ _ => ?_)) | (apply ks_box; refine c_box rfl rfl rfl rfl rfl rfl (fun _ => ?_)) | (apply ks_slice; first | first | (refine s_indexA (c_indexAddr rfl rfl rfl hlx (by omega) (by omega)) rfl ?_) | (refine s_load rfl rfl ?_; refine ld_elem hx ?_) | refine c_sliceSl (Hr := H) rfl rfl rfl rfl rfl RdC.here hlx (by omega) (by omega) (by omega) (by omega) rfl rfl (fun _ _ => ?_) | refine s_slice (c_sliceStr rfl rfl rfl rfl (by omega) (by omega) (by omega)) rfl ?_) | (apply ks_guard; first | (refine sl_gd rfl rfl rfl rfl ?_; first | (apply gd_t) | (apply gd_ft) | (apply gd_tf) | (apply gd_dec_t <;> intro hq <;> (try (exfalso; omega))) | (apply gd_dec_f <;> intro hq <;> (try (exfalso; omega))) | (apply gd_beq_t <;> intro hq <;> (try (exfalso; omega))) | (apply gd_beq_f <;> intro hq <;> (try (exfalso; omega))) | (apply gd_bne_t <;> intro hq <;> (try (exfalso; omega))) | (apply gd_bne_f <;> intro hq <;> (try (exfalso; omega))) | (apply gd_not_t <;> intro hq) | (apply gd_not_f <;> intro hq) | (apply gd_raw_t <;> intro hq) | (apply gd_raw_f <;> intro hq)) | refine sl_skip_u rfl rfl rfl rfl rfl rfl ?_) | first | (refine s_indexA (c_indexAddr rfl rfl rfl hlx (by omega) (by omega)) rfl ?_) | (refine s_load rfl rfl ?_; refine ld_elem hx ?_) | refine c_sliceSl (Hr := H) rfl rfl rfl rfl rfl RdC.here hlx (by omega) (by omega) (by omega) (by omega) rfl rfl (fun _ _ => ?_)) | (apply sw_seq) | (apply at_srd) | (apply sw_skip) | (apply sw_ret) | (apply sw_exit) | (apply sw_block) | (apply sw_region) | (refine sw_cd rfl ?_; first | (apply gd_t) | (apply gd_ft) | (apply gd_tf) | (apply gd_dec_t <;> intro hq <;> (try (exfalso; omega))) | (apply gd_dec_f <;> intro hq <;> (try (exfalso; omega))) | (apply gd_beq_t <;> intro hq <;> (try (exfalso; omega))) | (apply gd_beq_f <;> intro hq <;> (try (exfalso; omega))) | (apply gd_bne_t <;> intro hq <;> (try (exfalso; omega))) | (apply gd_bne_f <;> intro hq <;> (try (exfalso; omega))) | (apply gd_not_t <;> intro hq) | (apply gd_not_f <;> intro hq) | (apply gd_raw_t <;> intro hq) | (apply gd_raw_f <;> intro hq)) | (apply at_thn) | (apply at_thn_ret) | (apply at_thn_exit) | (apply at_inb) | (apply at_inb_ret) | (apply at_inb_exit) | refine at_inb_pass rfl ?_ | refine c_drawn (by kernel_rfl) ?_)
      all_goals first
        | (have ho2 : okAt l i = false := by rw [Hok1.out, show nameB (l.getD i ByteArray.empty) = false from by assumption]; rfl
           refine e_sv (by first | exact .inl rfl | exact .inr rfl) rfl (by repeat (first | exact List.Sublist.refl _ | exact List.nil_sublist _ | refine List.Sublist.cons _ ?_)) ?_
           rw [sortsE_bad (by rw [← Hn.out]; omega) (okAll_bad ho2 (by rw [← Hn.out]; omega))]; rfl)
        | (have ho2 : okAt l i = false := by rw [Hok1.out, show idxStrsIn (l.take i) (l.getD i ByteArray.empty) = true from by assumption]; simp
           refine e_sv (by first | exact .inl rfl | exact .inr rfl) rfl (by repeat (first | exact List.Sublist.refl _ | exact List.nil_sublist _ | refine List.Sublist.cons _ ?_)) ?_
           rw [sortsE_bad (by rw [← Hn.out]; omega) (okAll_bad ho2 (by rw [← Hn.out]; omega))]; rfl)
        | (have ho2 : okAt l i = true := by rw [Hok1.out, show nameB (l.getD i ByteArray.empty) = true from by assumption, show idxStrsIn (l.take i) (l.getD i ByteArray.empty) = false from by assumption]; rfl
           exact at_meet (i + 1) ⟨⟨by omega, by rw [okAll_succ, ho, ho2]; rfl⟩, by omega⟩ (by repeat (first | exact Le.nil _ | refine Le.cons (by first | rfl | (exact congrArg some (congrArg (Value.int _) (by omega)))) ?_)) (fun _ hw => hw.subs (by repeat (first | refine Subs.cons (by repeat constructor) ?_ | exact Subs.sub (by repeat (first | exact List.Sublist.refl _ | exact List.nil_sublist _ | refine List.Sublist.cons _ ?_))))))
    · repeat' (first | (apply g_sl; first | (apply ks_nil; refine sl_nil ?_) | (apply ks_move; refine s_move rfl rfl ?_) | (apply ks_bin; refine s_bin rfl rfl rfl ?_; first | fail | (first | (apply kb_add; first | refine bb_add ⟨by omega, by omega⟩ ?_ | refine bb_of rfl ?_) | refine bb_of rfl ?_)) | (apply ks_load; first | (refine s_load rfl rfl ?_; first | refine ld_cell rfl ?_ | refine ld_whole rfl ?_ | refine ld_elem rfl ?_ | refine ld_part rfl rfl ?_) | fail) | (apply ks_asgn; refine s_asgn rfl rfl ?_) | (apply ks_pick; refine s_pick rfl rfl ?_; first | (apply kp_t; refine pk_t rfl ?_) | (apply kp_f; refine pk_f rfl ?_) | refine pk_s rfl rfl ?_) | (apply ks_field; first | refine s_field (c_field0 rfl rfl) rfl ?_ | refine s_field (c_field rfl rfl) rfl ?_) | (apply ks_un; refine s_un (y_un rfl rfl rfl) rfl ?_) | (apply ks_indexA; first | refine s_indexA (c_indexAddr rfl rfl rfl rfl (by omega) (by omega)) rfl ?_ | fail) | (apply ks_fn; first | fail) | (apply ks_bi; first | fail | refine s_call (c_len rfl rfl) rfl ?_ | refine s_call (c_len_str rfl rfl) rfl ?_ | refine s_call (c_bi rfl rfl rfl rfl) rfl ?_ | refine c_append rfl rfl rfl rfl (by first | rfl | simp [ints]) (by first | rfl | exact ints_one _ | exact octs_one _ | exact strs_one _) (by omega) rfl rfl (fun _ _ => ?_) | refine c_append_nil rfl rfl rfl rfl (by first | rfl | simp [ints]) (by first | rfl | exact ints_one _ | exact octs_one _ | exact strs_one _) (by omega) rfl rfl (fun _ _ => ?_)) | (apply ks_box; refine c_box rfl rfl rfl rfl rfl rfl (fun _ => ?_)) | (apply ks_slice; first | fail | refine s_slice (c_sliceStr rfl rfl rfl rfl (by omega) (by omega) (by omega)) rfl ?_) | (apply ks_guard; first | (refine sl_gd rfl rfl rfl rfl ?_; first | (apply gd_t) | (apply gd_ft) | (apply gd_tf) | (apply gd_dec_t <;> intro hq <;> (try (exfalso; omega))) | (apply gd_dec_f <;> intro hq <;> (try (exfalso; omega))) | (apply gd_beq_t <;> intro hq <;> (try (exfalso; omega))) | (apply gd_beq_f <;> intro hq <;> (try (exfalso; omega))) | (apply gd_bne_t <;> intro hq <;> (try (exfalso; omega))) | (apply gd_bne_f <;> intro hq <;> (try (exfalso; omega))) | (apply gd_not_t <;> intro hq) | (apply gd_not_f <;> intro hq) | (apply gd_raw_t <;> intro hq) | (apply gd_raw_f <;> intro hq)) | refine sl_skip_u rfl rfl rfl rfl rfl rfl ?_) | fail) | (apply sw_seq) | (apply at_srd) | (apply sw_skip) | (apply sw_ret) | (apply sw_exit) | (apply sw_block) | (apply sw_region) | (refine sw_cd rfl ?_; first | (apply gd_t) | (apply gd_ft) | (apply gd_tf) | (apply gd_dec_t <;> intro hq <;> (try (exfalso; omega))) | (apply gd_dec_f <;> intro hq <;> (try (exfalso; omega))) | (apply gd_beq_t <;> intro hq <;> (try (exfalso; omega))) | (apply gd_beq_f <;> intro hq <;> (try (exfalso; omega))) | (apply gd_bne_t <;> intro hq <;> (try (exfalso; omega))) | (apply gd_bne_f <;> intro hq <;> (try (exfalso; omega))) | (apply gd_not_t <;> intro hq) | (apply gd_not_f <;> intro hq) | (apply gd_raw_t <;> intro hq) | (apply gd_raw_f <;> intro hq)) | (apply at_thn) | (apply at_thn_ret) | (apply at_thn_exit) | (apply at_inb) | (apply at_inb_ret) | (apply at_inb_exit) | refine at_inb_pass rfl ?_ | refine c_drawn (by kernel_rfl) ?_)
      all_goals obtain rfl : i = n := by omega
      all_goals rw [Hn.out] at ho
      all_goals refine e_sv (by first | exact .inl rfl | exact .inr rfl) rfl (by repeat (first | exact List.Sublist.refl _ | exact List.nil_sublist _ | refine List.Sublist.cons _ ?_)) ?_
      all_goals first
        | (rw [sortsE_at (by rw [← Hn.out]; omega) ho (by rw [← Hn.out]; omega)]; rfl)
        | (rw [sortsE_ok (by rw [← Hn.out]; omega) ho (by rw [← Hn.out]; omega)]; rfl)
  · refine e_sv (by first | exact .inl rfl | exact .inr rfl) rfl (by repeat (first | exact List.Sublist.refl _ | exact List.nil_sublist _ | refine List.Sublist.cons _ ?_)) ?_
    rw [sortsE_len (by rw [← Hn.out]; omega)]; rfl
theorem bet_t {x lo hi : Int} (h : betB x lo hi = true) : lo ≤ x ∧ x ≤ hi := by unfold betB at h; exact of_decide_eq_true h
theorem bet_f {x lo hi : Int} (h : betB x lo hi = false) : ¬ (lo ≤ x ∧ x ≤ hi) := by unfold betB at h; exact of_decide_eq_false h
theorem okAt_eq (l : List ByteArray) (i : Nat) : okAt l i = ((betB (l.getD i ByteArray.empty).size 1 40 && (idxStrsAt l (l.getD i ByteArray.empty) == (i : Int))) && (nums (l.getD i ByteArray.empty)).all nameByte) := by
  unfold okAt nameB betB
  rw [Bool.and_right_comm]
  congr 2
  · rw [decide_eq_decide]; omega
theorem sortsRight_sv (G : Ctx) (H : List Ent) (l : List ByteArray) (a : Option Addr) (n c : Nat) (t : Int) (hn : n = l.length) (hz : ∀ x ∈ l, x.size ≤ maxLen) (hm : n ≤ maxLen) [RdC G H a (strs l)] : SV Tryd.prog G 64 [sortsV a n c t] H (.int .i64 (sortsE l t)) := by
  have hm' : n ≤ 9223372036854775807 := hm
  have hx : ∀ k, k < n → (strs l)[(k : Int).toNat * 1]? = some (.string (l.getD k ByteArray.empty)) := fun k hk => strs_at l k (by rw [← hn]; exact hk)
  have hlx : (strs l).length = n * 1 := by simp [strs, hn]
  have hzk : ∀ k, k < n → (l.getD k ByteArray.empty).size ≤ 9223372036854775807 := fun k hk => by
    have hk' : k < l.length := by rw [← hn]; exact hk
    have e : l.getD k ByteArray.empty = l[k] := by simp [List.getD, List.getElem?_eq_getElem hk']
    rw [e]; exact hz _ (List.getElem_mem hk')
  have hb : ∀ H x lo hi, SV Tryd.prog G 26 [.int .i64 x, .int .i64 lo, .int .i64 hi] H (.bool (betB x lo hi)) := fun H x lo hi => between_sv G H x lo hi
  have Hn := Lib.hid hn
  have Hx := Lib.hid hx
  have Hzk := Lib.hid hzk
  have Hm := Lib.hid hm
  clear hn hx hzk hm hz
  refine sv_enter1 Tryd.func64 rfl rfl rfl rfl rfl ?_
  repeat' (first | (apply g_sl; first | (apply ks_nil; refine sl_nil ?_) | (apply ks_move; refine s_move rfl rfl ?_) | (apply ks_bin; refine s_bin rfl rfl rfl ?_; first | fail | (first | (apply kb_add; first | refine bb_add ⟨by omega, by omega⟩ ?_ | refine bb_of rfl ?_) | refine bb_of rfl ?_)) | (apply ks_load; first | (refine s_load rfl rfl ?_; first | refine ld_cell rfl ?_ | refine ld_whole rfl ?_ | refine ld_elem rfl ?_ | refine ld_part rfl rfl ?_) | fail) | (apply ks_asgn; refine s_asgn rfl rfl ?_) | (apply ks_pick; refine s_pick rfl rfl ?_; first | (apply kp_t; refine pk_t rfl ?_) | (apply kp_f; refine pk_f rfl ?_) | refine pk_s rfl rfl ?_) | (apply ks_field; first | refine s_field (c_field0 rfl rfl) rfl ?_ | refine s_field (c_field rfl rfl) rfl ?_) | (apply ks_un; refine s_un (y_un rfl rfl rfl) rfl ?_) | (apply ks_conv; first | fail | refine s_conv (c_conv (k := .i64) rfl rfl ⟨by omega, by omega⟩) rfl ?_ | refine s_conv (c_conv (k := .u8) rfl rfl ⟨by omega, by omega⟩) rfl ?_ | refine s_conv (c_conv (k := .u64) rfl rfl ⟨by omega, by omega⟩) rfl ?_ | refine s_conv (c_convw rfl rfl) rfl ?_) | (apply ks_indexA; first | refine s_indexA (c_indexAddr rfl rfl rfl rfl (by omega) (by omega)) rfl ?_ | fail) | (apply ks_fn; first | refine c_callv rfl rfl rfl (hb _ _ _ _) rfl rfl ?_) | (apply ks_bi; first | fail | refine s_call (c_len rfl rfl) rfl ?_ | refine s_call (c_len_str rfl rfl) rfl ?_ | refine s_call (c_bi rfl rfl rfl rfl) rfl ?_ | refine c_append rfl rfl rfl rfl (by first | rfl | simp [ints]) (by first | rfl | exact ints_one _ | exact octs_one _ | exact strs_one _) (by omega) rfl rfl (fun _ _ => ?_) | refine c_append_nil rfl rfl rfl rfl (by first | rfl | simp [ints]) (by first | rfl | exact ints_one _ | exact octs_one _ | exact strs_one _) (by omega) rfl rfl (fun _ _ => ?_)) | (apply ks_box; refine c_box rfl rfl rfl rfl rfl rfl (fun _ => ?_)) | (apply ks_guard; first | (refine sl_gd rfl rfl rfl rfl ?_; first | (apply gd_t) | (apply gd_ft) | (apply gd_tf) | (apply gd_dec_t <;> intro hq <;> (try (exfalso; omega))) | (apply gd_dec_f <;> intro hq <;> (try (exfalso; omega))) | (apply gd_beq_t <;> intro hq <;> (try (exfalso; omega))) | (apply gd_beq_f <;> intro hq <;> (try (exfalso; omega))) | (apply gd_bne_t <;> intro hq <;> (try (exfalso; omega))) | (apply gd_bne_f <;> intro hq <;> (try (exfalso; omega))) | (apply gd_not_t <;> intro hq) | (apply gd_not_f <;> intro hq) | (apply gd_raw_t <;> intro hq) | (apply gd_raw_f <;> intro hq)) | refine sl_skip_u rfl rfl rfl rfl rfl rfl ?_) | fail) | (apply sw_seq) | (apply at_srd) | (apply sw_skip) | (apply sw_ret) | (apply sw_exit) | (apply sw_block) | (apply sw_region) | (refine sw_cd rfl ?_; first | (apply gd_t) | (apply gd_ft) | (apply gd_tf) | (apply gd_dec_t <;> intro hq <;> (try (exfalso; omega))) | (apply gd_dec_f <;> intro hq <;> (try (exfalso; omega))) | (apply gd_beq_t <;> intro hq <;> (try (exfalso; omega))) | (apply gd_beq_f <;> intro hq <;> (try (exfalso; omega))) | (apply gd_bne_t <;> intro hq <;> (try (exfalso; omega))) | (apply gd_bne_f <;> intro hq <;> (try (exfalso; omega))) | (apply gd_not_t <;> intro hq) | (apply gd_not_f <;> intro hq) | (apply gd_raw_t <;> intro hq) | (apply gd_raw_f <;> intro hq)) | (apply at_thn) | (apply at_thn_ret) | (apply at_thn_exit) | (apply at_inb) | (apply at_inb_ret) | (apply at_inb_exit) | refine at_inb_pass rfl ?_ | refine c_drawn (by kernel_rfl) ?_)
  · refine e_sv (by first | exact .inl rfl | exact .inr rfl) rfl (by repeat (first | exact List.Sublist.refl _ | exact List.nil_sublist _ | refine List.Sublist.cons _ ?_)) ?_
    have h18 := bet_f hq
    rw [sortsE_len (by rw [← Hn.out]; omega)]; rfl
  · rename_i b
    have h18 := bet_t hq
    clear hq
    refine sw_loopg (α := Nat) (fun i => [(1, .pointer (some ⟨b, 0, none⟩)), (3, .int .i64 n), (16, .slice a n c), (17, .int .i64 n), (18, .int .i64 i)]) (fun _ => .blk b 74 [.slice a n c, .int .i64 t] :: H)
      (fun i => i ≤ n ∧ okAll l i = true) (fun i => n - i) 0 ⟨Nat.zero_le _, okAll_zero l⟩ (by repeat (first | exact Le.nil _ | refine Le.cons (by first | rfl | (exact congrArg some (congrArg (Value.int _) (by omega)))) ?_)) (fun _ hw => hw.subs (by repeat (first | refine Subs.cons (by repeat constructor) ?_ | exact Subs.sub (by repeat (first | exact List.Sublist.refl _ | exact List.nil_sublist _ | refine List.Sublist.cons _ ?_))))) ?_
    rintro i ⟨hi, ho⟩
    by_cases hlt : (i : Int) < n
    · have hx := Hx.out i (by omega)
      have hok := okAt_eq l i
      have hsz := Hzk.out i (by omega)
      generalize hs : l.getD i ByteArray.empty = s at *
      have Hs := Lib.hid hs
      clear hs
      generalize hF : (betB s.size 1 40 && (idxStrsAt l s == (i : Int))) = F at hok
      have HF := Lib.hid hF
      have Hok := Lib.hid hok
      clear hF hok
      repeat' (first | (apply g_sl; first | (apply ks_nil; refine sl_nil ?_) | (apply ks_move; refine s_move rfl rfl ?_) | (apply ks_bin; refine s_bin rfl rfl rfl ?_; first | first | (refine s_indexA (c_indexAddr rfl rfl rfl hlx (by omega) (by omega)) rfl ?_) | (refine s_load rfl rfl ?_; refine ld_elem hx ?_) | (first | (apply kb_add; first | refine bb_add ⟨by omega, by omega⟩ ?_ | refine bb_of rfl ?_) | refine bb_of rfl ?_)) | (apply ks_load; first | (refine s_load rfl rfl ?_; first | refine ld_cell rfl ?_ | refine ld_whole rfl ?_ | refine ld_elem rfl ?_ | refine ld_part rfl rfl ?_) | first | (refine s_indexA (c_indexAddr rfl rfl rfl hlx (by omega) (by omega)) rfl ?_) | (refine s_load rfl rfl ?_; refine ld_elem hx ?_)) | (apply ks_asgn; refine s_asgn rfl rfl ?_) | (apply ks_pick; refine s_pick rfl rfl ?_; first | (apply kp_t; refine pk_t rfl ?_) | (apply kp_f; refine pk_f rfl ?_) | refine pk_s rfl rfl ?_) | (apply ks_field; first | refine s_field (c_field0 rfl rfl) rfl ?_ | refine s_field (c_field rfl rfl) rfl ?_) | (apply ks_un; refine s_un (y_un rfl rfl rfl) rfl ?_) | (apply ks_conv; first | first | (refine s_indexA (c_indexAddr rfl rfl rfl hlx (by omega) (by omega)) rfl ?_) | (refine s_load rfl rfl ?_; refine ld_elem hx ?_) | refine s_conv (c_conv (k := .i64) rfl rfl ⟨by omega, by omega⟩) rfl ?_ | refine s_conv (c_conv (k := .u8) rfl rfl ⟨by omega, by omega⟩) rfl ?_ | refine s_conv (c_conv (k := .u64) rfl rfl ⟨by omega, by omega⟩) rfl ?_ | refine s_conv (c_convw rfl rfl) rfl ?_) | (apply ks_indexA; first | refine s_indexA (c_indexAddr rfl rfl rfl rfl (by omega) (by omega)) rfl ?_ | first | (refine s_indexA (c_indexAddr rfl rfl rfl hlx (by omega) (by omega)) rfl ?_) | (refine s_load rfl rfl ?_; refine ld_elem hx ?_)) | (apply ks_fn; first | fail) | (apply ks_bi; first | first | (refine s_indexA (c_indexAddr rfl rfl rfl hlx (by omega) (by omega)) rfl ?_) | (refine s_load rfl rfl ?_; refine ld_elem hx ?_) | refine s_call (c_len rfl rfl) rfl ?_ | refine s_call (c_len_str rfl rfl) rfl ?_ | refine s_call (c_bi rfl rfl rfl rfl) rfl ?_ | refine c_append rfl rfl rfl rfl (by first | rfl | simp [ints]) (by first | rfl | exact ints_one _ | exact octs_one _ | exact strs_one _) (by omega) rfl rfl (fun _ _ => ?_) | refine c_append_nil rfl rfl rfl rfl (by first | rfl | simp [ints]) (by first | rfl | exact ints_one _ | exact octs_one _ | exact strs_one _) (by omega) rfl rfl (fun _ _ => ?_)) | (apply ks_box; refine c_box rfl rfl rfl rfl rfl rfl (fun _ => ?_)) | (apply ks_guard; first | (refine sl_gd rfl rfl rfl rfl ?_; first | (apply gd_t) | (apply gd_ft) | (apply gd_tf) | (apply gd_dec_t <;> intro hq <;> (try (exfalso; omega))) | (apply gd_dec_f <;> intro hq <;> (try (exfalso; omega))) | (apply gd_beq_t <;> intro hq <;> (try (exfalso; omega))) | (apply gd_beq_f <;> intro hq <;> (try (exfalso; omega))) | (apply gd_bne_t <;> intro hq <;> (try (exfalso; omega))) | (apply gd_bne_f <;> intro hq <;> (try (exfalso; omega))) | (apply gd_not_t <;> intro hq) | (apply gd_not_f <;> intro hq) | (apply gd_raw_t <;> intro hq) | (apply gd_raw_f <;> intro hq)) | refine sl_skip_u rfl rfl rfl rfl rfl rfl ?_) | first | (refine s_indexA (c_indexAddr rfl rfl rfl hlx (by omega) (by omega)) rfl ?_) | (refine s_load rfl rfl ?_; refine ld_elem hx ?_)) | (apply sw_seq) | (apply at_srd) | (apply sw_skip) | (apply sw_ret) | (apply sw_exit) | (apply sw_block) | ((fail_if_success (refine g_reg (id := 7) ?_)); apply sw_region) | (refine sw_cd rfl ?_; first | (apply gd_t) | (apply gd_ft) | (apply gd_tf) | (apply gd_dec_t <;> intro hq <;> (try (exfalso; omega))) | (apply gd_dec_f <;> intro hq <;> (try (exfalso; omega))) | (apply gd_beq_t <;> intro hq <;> (try (exfalso; omega))) | (apply gd_beq_f <;> intro hq <;> (try (exfalso; omega))) | (apply gd_bne_t <;> intro hq <;> (try (exfalso; omega))) | (apply gd_bne_f <;> intro hq <;> (try (exfalso; omega))) | (apply gd_not_t <;> intro hq) | (apply gd_not_f <;> intro hq) | (apply gd_raw_t <;> intro hq) | (apply gd_raw_f <;> intro hq)) | (apply at_thn) | (apply at_thn_ret) | (apply at_thn_exit) | (apply at_inb) | (apply at_inb_ret) | (apply at_inb_exit) | refine at_inb_pass rfl ?_ | ((fail_if_success (refine g_reg (id := 7) ?_)); refine c_drawn (by kernel_rfl) ?_))
      refine sw_cut1 (α := Bool) (fun f => [(1, .pointer (some ⟨b, 0, none⟩)), (3, .int .i64 n), (5, .string s), (6, .bool f), (16, .slice a n c), (17, .int .i64 n), (18, .int .i64 i)]) (fun _ => .blk b 74 [.slice a n c, .int .i64 t] :: H) (fun f => f = F) ?_ ?_
      · repeat' (first | (apply g_sl; first | (apply ks_nil; refine sl_nil ?_) | (apply ks_move; refine s_move rfl rfl ?_) | (apply ks_bin; refine s_bin rfl rfl rfl ?_; first | fail | (first | (apply kb_add; first | refine bb_add ⟨by omega, by omega⟩ ?_ | refine bb_of rfl ?_) | refine bb_of rfl ?_)) | (apply ks_load; first | (refine s_load rfl rfl ?_; first | refine ld_cell rfl ?_ | refine ld_whole rfl ?_ | refine ld_elem rfl ?_ | refine ld_part rfl rfl ?_) | fail) | (apply ks_asgn; refine s_asgn rfl rfl ?_) | (apply ks_pick; refine s_pick rfl rfl ?_; first | (apply kp_t; refine pk_t rfl ?_) | (apply kp_f; refine pk_f rfl ?_) | refine pk_s rfl rfl ?_) | (apply ks_field; first | refine s_field (c_field0 rfl rfl) rfl ?_ | refine s_field (c_field rfl rfl) rfl ?_) | (apply ks_un; refine s_un (y_un rfl rfl rfl) rfl ?_) | (apply ks_conv; first | fail | refine s_conv (c_conv (k := .i64) rfl rfl ⟨by omega, by omega⟩) rfl ?_ | refine s_conv (c_conv (k := .u8) rfl rfl ⟨by omega, by omega⟩) rfl ?_ | refine s_conv (c_conv (k := .u64) rfl rfl ⟨by omega, by omega⟩) rfl ?_ | refine s_conv (c_convw rfl rfl) rfl ?_) | (apply ks_indexA; first | refine s_indexA (c_indexAddr rfl rfl rfl rfl (by omega) (by omega)) rfl ?_ | fail) | (apply ks_fn; first | first | refine c_callv rfl rfl rfl (hb _ _ _ _) rfl rfl ?_ | refine c_callv rfl rfl rfl (idxStr_sv _ _ l _ _ _ _ rfl Hn.out (by rw [← Hn.out]; exact Hm.out)) rfl rfl ?_) | (apply ks_bi; first | fail | refine s_call (c_len rfl rfl) rfl ?_ | refine s_call (c_len_str rfl rfl) rfl ?_ | refine s_call (c_bi rfl rfl rfl rfl) rfl ?_ | refine c_append rfl rfl rfl rfl (by first | rfl | simp [ints]) (by first | rfl | exact ints_one _ | exact octs_one _ | exact strs_one _) (by omega) rfl rfl (fun _ _ => ?_) | refine c_append_nil rfl rfl rfl rfl (by first | rfl | simp [ints]) (by first | rfl | exact ints_one _ | exact octs_one _ | exact strs_one _) (by omega) rfl rfl (fun _ _ => ?_)) | (apply ks_box; refine c_box rfl rfl rfl rfl rfl rfl (fun _ => ?_)) | (apply ks_guard; first | (refine sl_gd rfl rfl rfl rfl ?_; first | (apply gd_t) | (apply gd_ft) | (apply gd_tf) | (apply gd_dec_t <;> intro hq <;> (try (exfalso; omega))) | (apply gd_dec_f <;> intro hq <;> (try (exfalso; omega))) | (apply gd_beq_t <;> intro hq <;> (try (exfalso; omega))) | (apply gd_beq_f <;> intro hq <;> (try (exfalso; omega))) | (apply gd_bne_t <;> intro hq <;> (try (exfalso; omega))) | (apply gd_bne_f <;> intro hq <;> (try (exfalso; omega))) | (apply gd_not_t <;> intro hq) | (apply gd_not_f <;> intro hq) | (apply gd_raw_t <;> intro hq) | (apply gd_raw_f <;> intro hq)) | refine sl_skip_u rfl rfl rfl rfl rfl rfl ?_) | fail) | (apply sw_seq) | (apply at_srd) | (apply sw_skip) | (apply sw_ret) | (apply sw_exit) | (apply sw_block) | (apply sw_region) | (refine sw_cd rfl ?_; first | (apply gd_t) | (apply gd_ft) | (apply gd_tf) | (apply gd_dec_t <;> intro hq <;> (try (exfalso; omega))) | (apply gd_dec_f <;> intro hq <;> (try (exfalso; omega))) | (apply gd_beq_t <;> intro hq <;> (try (exfalso; omega))) | (apply gd_beq_f <;> intro hq <;> (try (exfalso; omega))) | (apply gd_bne_t <;> intro hq <;> (try (exfalso; omega))) | (apply gd_bne_f <;> intro hq <;> (try (exfalso; omega))) | (apply gd_not_t <;> intro hq) | (apply gd_not_f <;> intro hq) | (apply gd_raw_t <;> intro hq) | (apply gd_raw_f <;> intro hq)) | (apply at_thn) | (apply at_thn_ret) | (apply at_thn_exit) | (apply at_inb) | (apply at_inb_ret) | (apply at_inb_exit) | refine at_inb_pass rfl ?_ | refine c_drawn (by kernel_rfl) ?_)
        · exact at_meet (idxStrsAt l s == (i : Int)) (by rw [← HF.out, hq]; rfl) (by repeat (first | exact Le.nil _ | refine Le.cons (by first | rfl | (exact congrArg some (congrArg (Value.int _) (by omega)))) ?_)) (fun _ hw => hw.subs (by repeat (first | refine Subs.cons (by repeat constructor) ?_ | exact Subs.sub (by repeat (first | exact List.Sublist.refl _ | exact List.nil_sublist _ | refine List.Sublist.cons _ ?_)))))
        · exact at_meet false (by rw [← HF.out, hq]; rfl) (by repeat (first | exact Le.nil _ | refine Le.cons (by first | rfl | (exact congrArg some (congrArg (Value.int _) (by omega)))) ?_)) (fun _ hw => hw.subs (by repeat (first | refine Subs.cons (by repeat constructor) ?_ | exact Subs.sub (by repeat (first | exact List.Sublist.refl _ | exact List.nil_sublist _ | refine List.Sublist.cons _ ?_)))))
      · rintro f rfl
        repeat' (first | (apply g_sl; first | (apply ks_nil; refine sl_nil ?_) | (apply ks_move; refine s_move rfl rfl ?_) | (apply ks_bin; refine s_bin rfl rfl rfl ?_; first | refine c_convSb rfl rfl rfl rfl rfl (fun _ _ _ => ?_) | (first | (apply kb_add; first | refine bb_add ⟨by omega, by omega⟩ ?_ | refine bb_of rfl ?_) | refine bb_of rfl ?_)) | (apply ks_load; first | (refine s_load rfl rfl ?_; first | refine ld_cell rfl ?_ | refine ld_whole rfl ?_ | refine ld_elem rfl ?_ | refine ld_part rfl rfl ?_) | refine c_convSb rfl rfl rfl rfl rfl (fun _ _ _ => ?_)) | (apply ks_asgn; refine s_asgn rfl rfl ?_) | (apply ks_pick; refine s_pick rfl rfl ?_; first | (apply kp_t; refine pk_t rfl ?_) | (apply kp_f; refine pk_f rfl ?_) | refine pk_s rfl rfl ?_) | (apply ks_field; first | refine s_field (c_field0 rfl rfl) rfl ?_ | refine s_field (c_field rfl rfl) rfl ?_) | (apply ks_un; refine s_un (y_un rfl rfl rfl) rfl ?_) | (apply ks_conv; first | refine c_convSb rfl rfl rfl rfl rfl (fun _ _ _ => ?_) | refine s_conv (c_conv (k := .i64) rfl rfl ⟨by omega, by omega⟩) rfl ?_ | refine s_conv (c_conv (k := .u8) rfl rfl ⟨by omega, by omega⟩) rfl ?_ | refine s_conv (c_conv (k := .u64) rfl rfl ⟨by omega, by omega⟩) rfl ?_ | refine s_conv (c_convw rfl rfl) rfl ?_) | (apply ks_indexA; first | refine s_indexA (c_indexAddr rfl rfl rfl rfl (by omega) (by omega)) rfl ?_ | refine c_convSb rfl rfl rfl rfl rfl (fun _ _ _ => ?_)) | (apply ks_fn; first | fail) | (apply ks_bi; first | refine c_convSb rfl rfl rfl rfl rfl (fun _ _ _ => ?_) | refine s_call (c_len rfl rfl) rfl ?_ | refine s_call (c_len_str rfl rfl) rfl ?_ | refine s_call (c_bi rfl rfl rfl rfl) rfl ?_ | refine c_append rfl rfl rfl rfl (by first | rfl | simp [ints]) (by first | rfl | exact ints_one _ | exact octs_one _ | exact strs_one _) (by omega) rfl rfl (fun _ _ => ?_) | refine c_append_nil rfl rfl rfl rfl (by first | rfl | simp [ints]) (by first | rfl | exact ints_one _ | exact octs_one _ | exact strs_one _) (by omega) rfl rfl (fun _ _ => ?_)) | (apply ks_box; refine c_box rfl rfl rfl rfl rfl rfl (fun _ => ?_)) | (apply ks_guard; first | (refine sl_gd rfl rfl rfl rfl ?_; first | (apply gd_t) | (apply gd_ft) | (apply gd_tf) | (apply gd_dec_t <;> intro hq <;> (try (exfalso; omega))) | (apply gd_dec_f <;> intro hq <;> (try (exfalso; omega))) | (apply gd_beq_t <;> intro hq <;> (try (exfalso; omega))) | (apply gd_beq_f <;> intro hq <;> (try (exfalso; omega))) | (apply gd_bne_t <;> intro hq <;> (try (exfalso; omega))) | (apply gd_bne_f <;> intro hq <;> (try (exfalso; omega))) | (apply gd_not_t <;> intro hq) | (apply gd_not_f <;> intro hq) | (apply gd_raw_t <;> intro hq) | (apply gd_raw_f <;> intro hq)) | refine sl_skip_u rfl rfl rfl rfl rfl rfl ?_) | refine c_convSb rfl rfl rfl rfl rfl (fun _ _ _ => ?_)) | (apply sw_seq) | (apply at_srd) | (apply sw_skip) | (apply sw_ret) | (apply sw_exit) | (apply sw_block) | (apply sw_region) | (refine sw_cd rfl ?_; first | (apply gd_t) | (apply gd_ft) | (apply gd_tf) | (apply gd_dec_t <;> intro hq <;> (try (exfalso; omega))) | (apply gd_dec_f <;> intro hq <;> (try (exfalso; omega))) | (apply gd_beq_t <;> intro hq <;> (try (exfalso; omega))) | (apply gd_beq_f <;> intro hq <;> (try (exfalso; omega))) | (apply gd_bne_t <;> intro hq <;> (try (exfalso; omega))) | (apply gd_bne_f <;> intro hq <;> (try (exfalso; omega))) | (apply gd_not_t <;> intro hq) | (apply gd_not_f <;> intro hq) | (apply gd_raw_t <;> intro hq) | (apply gd_raw_f <;> intro hq)) | (apply at_thn) | (apply at_thn_ret) | (apply at_thn_exit) | (apply at_inb) | (apply at_inb_ret) | (apply at_inb_exit) | refine at_inb_pass rfl ?_ | refine c_drawn (by kernel_rfl) ?_)
        rename_i g c' hc'
        refine sw_loopg (α := Nat) (fun j => [(1, .pointer (some ⟨b, 0, none⟩)), (3, .int .i64 n), (6, .bool (f && ((nums s).take j).all nameByte)), (16, .slice a n c), (17, .int .i64 n), (18, .int .i64 i), (35, .slice (some ⟨g, 0, none⟩) s.size c'), (36, .int .i64 s.size), (37, .int .i64 j)]) (fun _ => .obj g (bytesObj 5 (nums s) (c' - s.size)) :: .blk b 74 [.slice a n c, .int .i64 t] :: H)
          (fun j => j ≤ s.size) (fun j => s.size - j) 0 (Nat.zero_le _) (by simp only [List.take_zero, List.all_nil, Bool.and_true]; exact (by repeat (first | exact Le.nil _ | refine Le.cons (by first | rfl | (exact congrArg some (congrArg (Value.int _) (by omega)))) ?_))) (fun _ hw => hw.subs (by repeat (first | refine Subs.cons (by repeat constructor) ?_ | exact Subs.sub (by repeat (first | exact List.Sublist.refl _ | exact List.nil_sublist _ | refine List.Sublist.cons _ ?_))))) ?_
        intro j hj
        have hlo : (octs (nums s)).length = s.size * 1 := by simp [octs, nums_length]
        by_cases hjl : (j : Int) < s.size
        · have hxj : (octs (nums s))[(j : Int).toNat * 1]? = some (.int .u8 ((nums s).getD j 0)) := by
            have : j < (nums s).length := by rw [nums_length]; omega
            simp [octs, List.getD, List.getElem?_eq_getElem this]
          have hbd : 0 ≤ (nums s).getD j 0 ∧ (nums s).getD j 0 ≤ 255 := by
            have : j < (nums s).length := by rw [nums_length]; omega
            have e : (nums s).getD j 0 = (nums s)[j] := by simp [List.getD, List.getElem?_eq_getElem this]
            rw [e]; exact nums_bound s _ (List.getElem_mem this)
          have hstep : ((nums s).take (j + 1)).all nameByte = (((nums s).take j).all nameByte && betB ((nums s).getD j 0) 33 126) := by
            have : j < (nums s).length := by rw [nums_length]; omega
            rw [List.take_succ_eq_append_getElem this, List.all_append]
            have e : (nums s).getD j 0 = (nums s)[j] := by simp [List.getD, List.getElem?_eq_getElem this]
            rw [e]
            simp [nameByte, betB]
          have Hstep := Lib.hid hstep
          clear hstep
          generalize ((nums s).take j).all nameByte = A at *
          repeat' (first | (apply g_sl; first | (apply ks_nil; refine sl_nil ?_) | (apply ks_move; refine s_move rfl rfl ?_) | (apply ks_bin; refine s_bin rfl rfl rfl ?_; first | first | (refine s_indexA (c_indexAddr rfl rfl rfl hlo (by omega) (by omega)) rfl ?_) | (refine s_load rfl rfl ?_; refine ld_elem hxj ?_) | (first | (apply kb_add; first | refine bb_add ⟨by omega, by omega⟩ ?_ | refine bb_of rfl ?_) | refine bb_of rfl ?_)) | (apply ks_load; first | (refine s_load rfl rfl ?_; first | refine ld_cell rfl ?_ | refine ld_whole rfl ?_ | refine ld_elem rfl ?_ | refine ld_part rfl rfl ?_) | first | (refine s_indexA (c_indexAddr rfl rfl rfl hlo (by omega) (by omega)) rfl ?_) | (refine s_load rfl rfl ?_; refine ld_elem hxj ?_)) | (apply ks_asgn; refine s_asgn rfl rfl ?_) | (apply ks_pick; refine s_pick rfl rfl ?_; first | (apply kp_t; refine pk_t rfl ?_) | (apply kp_f; refine pk_f rfl ?_) | refine pk_s rfl rfl ?_) | (apply ks_field; first | refine s_field (c_field0 rfl rfl) rfl ?_ | refine s_field (c_field rfl rfl) rfl ?_) | (apply ks_un; refine s_un (y_un rfl rfl rfl) rfl ?_) | (apply ks_conv; first | first | (refine s_indexA (c_indexAddr rfl rfl rfl hlo (by omega) (by omega)) rfl ?_) | (refine s_load rfl rfl ?_; refine ld_elem hxj ?_) | refine s_conv (c_conv (k := .i64) rfl rfl ⟨by omega, by omega⟩) rfl ?_ | refine s_conv (c_conv (k := .u8) rfl rfl ⟨by omega, by omega⟩) rfl ?_ | refine s_conv (c_conv (k := .u64) rfl rfl ⟨by omega, by omega⟩) rfl ?_ | refine s_conv (c_convw rfl rfl) rfl ?_) | (apply ks_indexA; first | refine s_indexA (c_indexAddr rfl rfl rfl rfl (by omega) (by omega)) rfl ?_ | first | (refine s_indexA (c_indexAddr rfl rfl rfl hlo (by omega) (by omega)) rfl ?_) | (refine s_load rfl rfl ?_; refine ld_elem hxj ?_)) | (apply ks_fn; first | refine c_callv rfl rfl rfl (hb _ _ _ _) rfl rfl ?_) | (apply ks_bi; first | first | (refine s_indexA (c_indexAddr rfl rfl rfl hlo (by omega) (by omega)) rfl ?_) | (refine s_load rfl rfl ?_; refine ld_elem hxj ?_) | refine s_call (c_len rfl rfl) rfl ?_ | refine s_call (c_len_str rfl rfl) rfl ?_ | refine s_call (c_bi rfl rfl rfl rfl) rfl ?_ | refine c_append rfl rfl rfl rfl (by first | rfl | simp [ints]) (by first | rfl | exact ints_one _ | exact octs_one _ | exact strs_one _) (by omega) rfl rfl (fun _ _ => ?_) | refine c_append_nil rfl rfl rfl rfl (by first | rfl | simp [ints]) (by first | rfl | exact ints_one _ | exact octs_one _ | exact strs_one _) (by omega) rfl rfl (fun _ _ => ?_)) | (apply ks_box; refine c_box rfl rfl rfl rfl rfl rfl (fun _ => ?_)) | (apply ks_guard; first | (refine sl_gd rfl rfl rfl rfl ?_; first | (apply gd_t) | (apply gd_ft) | (apply gd_tf) | (apply gd_dec_t <;> intro hq <;> (try (exfalso; omega))) | (apply gd_dec_f <;> intro hq <;> (try (exfalso; omega))) | (apply gd_beq_t <;> intro hq <;> (try (exfalso; omega))) | (apply gd_beq_f <;> intro hq <;> (try (exfalso; omega))) | (apply gd_bne_t <;> intro hq <;> (try (exfalso; omega))) | (apply gd_bne_f <;> intro hq <;> (try (exfalso; omega))) | (apply gd_not_t <;> intro hq) | (apply gd_not_f <;> intro hq) | (apply gd_raw_t <;> intro hq) | (apply gd_raw_f <;> intro hq)) | refine sl_skip_u rfl rfl rfl rfl rfl rfl ?_) | first | (refine s_indexA (c_indexAddr rfl rfl rfl hlo (by omega) (by omega)) rfl ?_) | (refine s_load rfl rfl ?_; refine ld_elem hxj ?_)) | (apply sw_seq) | (apply at_srd) | (apply sw_skip) | (apply sw_ret) | (apply sw_exit) | (apply sw_block) | (apply sw_region) | (refine sw_cd rfl ?_; first | (apply gd_t) | (apply gd_ft) | (apply gd_tf) | (apply gd_dec_t <;> intro hq <;> (try (exfalso; omega))) | (apply gd_dec_f <;> intro hq <;> (try (exfalso; omega))) | (apply gd_beq_t <;> intro hq <;> (try (exfalso; omega))) | (apply gd_beq_f <;> intro hq <;> (try (exfalso; omega))) | (apply gd_bne_t <;> intro hq <;> (try (exfalso; omega))) | (apply gd_bne_f <;> intro hq <;> (try (exfalso; omega))) | (apply gd_not_t <;> intro hq) | (apply gd_not_f <;> intro hq) | (apply gd_raw_t <;> intro hq) | (apply gd_raw_f <;> intro hq)) | (apply at_thn) | (apply at_thn_ret) | (apply at_thn_exit) | (apply at_inb) | (apply at_inb_ret) | (apply at_inb_exit) | refine at_inb_pass rfl ?_ | refine c_drawn (by kernel_rfl) ?_)
          · exact at_meet (j + 1) ⟨by omega, by omega⟩ (by rw [Hstep.out, ← Bool.and_assoc, hq, Bool.true_and]; exact (by repeat (first | exact Le.nil _ | refine Le.cons (by first | rfl | (exact congrArg some (congrArg (Value.int _) (by omega)))) ?_))) (fun _ hw => hw.subs (by repeat (first | refine Subs.cons (by repeat constructor) ?_ | exact Subs.sub (by repeat (first | exact List.Sublist.refl _ | exact List.nil_sublist _ | refine List.Sublist.cons _ ?_)))))
          · exact at_meet (j + 1) ⟨by omega, by omega⟩ (by rw [Hstep.out, ← Bool.and_assoc, hq, Bool.false_and]; exact (by repeat (first | exact Le.nil _ | refine Le.cons (by first | rfl | (exact congrArg some (congrArg (Value.int _) (by omega)))) ?_))) (fun _ hw => hw.subs (by repeat (first | refine Subs.cons (by repeat constructor) ?_ | exact Subs.sub (by repeat (first | exact List.Sublist.refl _ | exact List.nil_sublist _ | refine List.Sublist.cons _ ?_)))))
        · obtain rfl : j = s.size := by omega
          have hall : ((nums s).take s.size).all nameByte = (nums s).all nameByte := by rw [List.take_of_length_le (by rw [nums_length]; exact Nat.le_refl _)]
          repeat' (first | (apply g_sl; first | (apply ks_nil; refine sl_nil ?_) | (apply ks_move; refine s_move rfl rfl ?_) | (apply ks_bin; refine s_bin rfl rfl rfl ?_; first | fail | (first | (apply kb_add; first | refine bb_add ⟨by omega, by omega⟩ ?_ | refine bb_of rfl ?_) | refine bb_of rfl ?_)) | (apply ks_load; first | (refine s_load rfl rfl ?_; first | refine ld_cell rfl ?_ | refine ld_whole rfl ?_ | refine ld_elem rfl ?_ | refine ld_part rfl rfl ?_) | fail) | (apply ks_asgn; refine s_asgn rfl rfl ?_) | (apply ks_pick; refine s_pick rfl rfl ?_; first | (apply kp_t; refine pk_t rfl ?_) | (apply kp_f; refine pk_f rfl ?_) | refine pk_s rfl rfl ?_) | (apply ks_field; first | refine s_field (c_field0 rfl rfl) rfl ?_ | refine s_field (c_field rfl rfl) rfl ?_) | (apply ks_un; refine s_un (y_un rfl rfl rfl) rfl ?_) | (apply ks_conv; first | fail | refine s_conv (c_conv (k := .i64) rfl rfl ⟨by omega, by omega⟩) rfl ?_ | refine s_conv (c_conv (k := .u8) rfl rfl ⟨by omega, by omega⟩) rfl ?_ | refine s_conv (c_conv (k := .u64) rfl rfl ⟨by omega, by omega⟩) rfl ?_ | refine s_conv (c_convw rfl rfl) rfl ?_) | (apply ks_indexA; first | refine s_indexA (c_indexAddr rfl rfl rfl rfl (by omega) (by omega)) rfl ?_ | fail) | (apply ks_fn; first | fail) | (apply ks_bi; first | fail | refine s_call (c_len rfl rfl) rfl ?_ | refine s_call (c_len_str rfl rfl) rfl ?_ | refine s_call (c_bi rfl rfl rfl rfl) rfl ?_ | refine c_append rfl rfl rfl rfl (by first | rfl | simp [ints]) (by first | rfl | exact ints_one _ | exact octs_one _ | exact strs_one _) (by omega) rfl rfl (fun _ _ => ?_) | refine c_append_nil rfl rfl rfl rfl (by first | rfl | simp [ints]) (by first | rfl | exact ints_one _ | exact octs_one _ | exact strs_one _) (by omega) rfl rfl (fun _ _ => ?_)) | (apply ks_box; refine c_box rfl rfl rfl rfl rfl rfl (fun _ => ?_)) | (apply ks_guard; first | (refine sl_gd rfl rfl rfl rfl ?_; first | (apply gd_t) | (apply gd_ft) | (apply gd_tf) | (apply gd_dec_t <;> intro hq <;> (try (exfalso; omega))) | (apply gd_dec_f <;> intro hq <;> (try (exfalso; omega))) | (apply gd_beq_t <;> intro hq <;> (try (exfalso; omega))) | (apply gd_beq_f <;> intro hq <;> (try (exfalso; omega))) | (apply gd_bne_t <;> intro hq <;> (try (exfalso; omega))) | (apply gd_bne_f <;> intro hq <;> (try (exfalso; omega))) | (apply gd_not_t <;> intro hq) | (apply gd_not_f <;> intro hq) | (apply gd_raw_t <;> intro hq) | (apply gd_raw_f <;> intro hq)) | refine sl_skip_u rfl rfl rfl rfl rfl rfl ?_) | fail) | (apply sw_seq) | (apply at_srd) | (apply sw_skip) | (apply sw_ret) | (apply sw_exit) | (apply sw_block) | (apply sw_region) | (refine sw_cd rfl ?_; first | (apply gd_t) | (apply gd_ft) | (apply gd_tf) | (apply gd_dec_t <;> intro hq <;> (try (exfalso; omega))) | (apply gd_dec_f <;> intro hq <;> (try (exfalso; omega))) | (apply gd_beq_t <;> intro hq <;> (try (exfalso; omega))) | (apply gd_beq_f <;> intro hq <;> (try (exfalso; omega))) | (apply gd_bne_t <;> intro hq <;> (try (exfalso; omega))) | (apply gd_bne_f <;> intro hq <;> (try (exfalso; omega))) | (apply gd_not_t <;> intro hq) | (apply gd_not_f <;> intro hq) | (apply gd_raw_t <;> intro hq) | (apply gd_raw_f <;> intro hq)) | (apply at_thn) | (apply at_thn_ret) | (apply at_thn_exit) | (apply at_inb) | (apply at_inb_ret) | (apply at_inb_exit) | refine at_inb_pass rfl ?_ | refine c_drawn (by kernel_rfl) ?_)
          · refine e_sv (by first | exact .inl rfl | exact .inr rfl) rfl (by repeat (first | exact List.Sublist.refl _ | exact List.nil_sublist _ | refine List.Sublist.cons _ ?_)) ?_
            have ho2 : okAt l i = false := by rw [Hok.out, ← hall]; assumption
            rw [sortsE_bad (by rw [← Hn.out]; omega) (okAll_bad ho2 (by rw [← Hn.out]; omega))]; rfl
          · have ho2 : okAt l i = true := by rw [Hok.out, ← hall]; assumption
            exact at_meet (i + 1) ⟨⟨by omega, by rw [okAll_succ, ho, ho2]; rfl⟩, by omega⟩ (by repeat (first | exact Le.nil _ | refine Le.cons (by first | rfl | (exact congrArg some (congrArg (Value.int _) (by omega)))) ?_)) (fun _ hw => hw.subs (by repeat (first | refine Subs.cons (by repeat constructor) ?_ | exact Subs.sub (by repeat (first | exact List.Sublist.refl _ | exact List.nil_sublist _ | refine List.Sublist.cons _ ?_)))))
    · repeat' (first | (apply g_sl; first | (apply ks_nil; refine sl_nil ?_) | (apply ks_move; refine s_move rfl rfl ?_) | (apply ks_bin; refine s_bin rfl rfl rfl ?_; first | fail | (first | (apply kb_add; first | refine bb_add ⟨by omega, by omega⟩ ?_ | refine bb_of rfl ?_) | refine bb_of rfl ?_)) | (apply ks_load; first | (refine s_load rfl rfl ?_; first | refine ld_cell rfl ?_ | refine ld_whole rfl ?_ | refine ld_elem rfl ?_ | refine ld_part rfl rfl ?_) | fail) | (apply ks_asgn; refine s_asgn rfl rfl ?_) | (apply ks_pick; refine s_pick rfl rfl ?_; first | (apply kp_t; refine pk_t rfl ?_) | (apply kp_f; refine pk_f rfl ?_) | refine pk_s rfl rfl ?_) | (apply ks_field; first | refine s_field (c_field0 rfl rfl) rfl ?_ | refine s_field (c_field rfl rfl) rfl ?_) | (apply ks_un; refine s_un (y_un rfl rfl rfl) rfl ?_) | (apply ks_conv; first | fail | refine s_conv (c_conv (k := .i64) rfl rfl ⟨by omega, by omega⟩) rfl ?_ | refine s_conv (c_conv (k := .u8) rfl rfl ⟨by omega, by omega⟩) rfl ?_ | refine s_conv (c_conv (k := .u64) rfl rfl ⟨by omega, by omega⟩) rfl ?_ | refine s_conv (c_convw rfl rfl) rfl ?_) | (apply ks_indexA; first | refine s_indexA (c_indexAddr rfl rfl rfl rfl (by omega) (by omega)) rfl ?_ | fail) | (apply ks_fn; first | refine c_callv rfl rfl rfl (hb _ _ _ _) rfl rfl ?_) | (apply ks_bi; first | fail | refine s_call (c_len rfl rfl) rfl ?_ | refine s_call (c_len_str rfl rfl) rfl ?_ | refine s_call (c_bi rfl rfl rfl rfl) rfl ?_ | refine c_append rfl rfl rfl rfl (by first | rfl | simp [ints]) (by first | rfl | exact ints_one _ | exact octs_one _ | exact strs_one _) (by omega) rfl rfl (fun _ _ => ?_) | refine c_append_nil rfl rfl rfl rfl (by first | rfl | simp [ints]) (by first | rfl | exact ints_one _ | exact octs_one _ | exact strs_one _) (by omega) rfl rfl (fun _ _ => ?_)) | (apply ks_box; refine c_box rfl rfl rfl rfl rfl rfl (fun _ => ?_)) | (apply ks_guard; first | (refine sl_gd rfl rfl rfl rfl ?_; first | (apply gd_t) | (apply gd_ft) | (apply gd_tf) | (apply gd_dec_t <;> intro hq <;> (try (exfalso; omega))) | (apply gd_dec_f <;> intro hq <;> (try (exfalso; omega))) | (apply gd_beq_t <;> intro hq <;> (try (exfalso; omega))) | (apply gd_beq_f <;> intro hq <;> (try (exfalso; omega))) | (apply gd_bne_t <;> intro hq <;> (try (exfalso; omega))) | (apply gd_bne_f <;> intro hq <;> (try (exfalso; omega))) | (apply gd_not_t <;> intro hq) | (apply gd_not_f <;> intro hq) | (apply gd_raw_t <;> intro hq) | (apply gd_raw_f <;> intro hq)) | refine sl_skip_u rfl rfl rfl rfl rfl rfl ?_) | fail) | (apply sw_seq) | (apply at_srd) | (apply sw_skip) | (apply sw_ret) | (apply sw_exit) | (apply sw_block) | (apply sw_region) | (refine sw_cd rfl ?_; first | (apply gd_t) | (apply gd_ft) | (apply gd_tf) | (apply gd_dec_t <;> intro hq <;> (try (exfalso; omega))) | (apply gd_dec_f <;> intro hq <;> (try (exfalso; omega))) | (apply gd_beq_t <;> intro hq <;> (try (exfalso; omega))) | (apply gd_beq_f <;> intro hq <;> (try (exfalso; omega))) | (apply gd_bne_t <;> intro hq <;> (try (exfalso; omega))) | (apply gd_bne_f <;> intro hq <;> (try (exfalso; omega))) | (apply gd_not_t <;> intro hq) | (apply gd_not_f <;> intro hq) | (apply gd_raw_t <;> intro hq) | (apply gd_raw_f <;> intro hq)) | (apply at_thn) | (apply at_thn_ret) | (apply at_thn_exit) | (apply at_inb) | (apply at_inb_ret) | (apply at_inb_exit) | refine at_inb_pass rfl ?_ | refine c_drawn (by kernel_rfl) ?_)
      all_goals obtain rfl : i = n := by omega
      all_goals rw [Hn.out] at ho
      · refine e_sv (by first | exact .inl rfl | exact .inr rfl) rfl (by repeat (first | exact List.Sublist.refl _ | exact List.nil_sublist _ | refine List.Sublist.cons _ ?_)) ?_
        have := bet_f (show betB t 0 i = false from by assumption)
        rw [sortsE_at (by rw [← Hn.out]; omega) ho (by rw [← Hn.out]; omega)]; rfl
      · refine e_sv (by first | exact .inl rfl | exact .inr rfl) rfl (by repeat (first | exact List.Sublist.refl _ | exact List.nil_sublist _ | refine List.Sublist.cons _ ?_)) ?_
        have := bet_t (show betB t 0 i = true from by assumption)
        rw [sortsE_ok (by rw [← Hn.out]; omega) ho (by rw [← Hn.out]; omega)]; rfl
end Go.Proofs.YtflmckoolagikaaDoor
end
section
namespace Go.Fw
open Go Go.RowKit Go.Sx
/-- A name, a value, is it a user's, has it a value. -/
abbrev Vr := ByteArray × ByteArray × Bool × Bool
def vrC (v : Vr) : List Value := [.string v.1, .string v.2.1, .bool v.2.2.1, .bool v.2.2.2]
instance : En vrC 4 := ⟨fun _ => rfl⟩
abbrev vrV (v : Vr) : Value := .agg (vrC v).toArray
def vrs (L : List Vr) : List Value := L.flatMap vrC
@[simp] theorem vrs_len (L : List Vr) : (vrs L).length = L.length * 4 := fm_len L
theorem vrs_one (L : List Vr) : (vrs L).all (·.oneCell') = true := fm_one L fun _ => rfl
/-- A 2 ahead of each byte from 0 to 3. -/
def escI (l : List Int) : List Int := l.flatMap fun x => if x ≤ 3 then [2, x] else [x]
theorem escI_cons (x : Int) (l : List Int) : escI (x :: l) = (if x ≤ 3 then [2, x] else [x]) ++ escI l := rfl
theorem escI_app (l m : List Int) : escI (l ++ m) = escI l ++ escI m := by simp [escI]
theorem escI_len (l : List Int) : (escI l).length ≤ 2 * l.length := by
  unfold escI
  induction l with
  | nil => exact Nat.le_refl _
  | cons b l ih =>
    rw [List.flatMap_cons, List.length_append, List.length_cons]
    have : (if b ≤ 3 then [2, b] else [b]).length ≤ 2 := by split <;> simp
    omega
def vI (v : Vr) : List Int := (if v.2.2.1 then 3 else 0) :: (escI (nums v.1) ++ (if v.2.2.2 then 1 :: escI (nums v.2.1) else []))
def varsI (L : List Vr) : List Int := L.flatMap vI
theorem varsI_snoc (L : List Vr) (v : Vr) : varsI (L ++ [v]) = varsI L ++ vI v := by simp [varsI]
def largeV (L : List Vr) : Prop := 20 < L.length ∨ (L.any fun v => decide (200 < v.1.size) || decide (200 < v.2.1.size)) = true
instance (L : List Vr) : Decidable (largeV L) := by unfold largeV; infer_instance
def formV (v : Vr) : Bool := !v.2.2.2 && decide (v.2.1 ≠ ⟨#[]⟩)
def writeV (L : List Vr) : ByteArray × Int :=
  if largeV L then (⟨#[]⟩, 2) else if L.any formV then (⟨#[]⟩, 4) else (strOfNums (varsI L), 0)
theorem writeV_large {L : List Vr} (h : largeV L) : writeV L = (⟨#[]⟩, 2) := if_pos h
theorem writeV_form {L : List Vr} (h : ¬ largeV L) (h2 : L.any formV = true) : writeV L = (⟨#[]⟩, 4) := by unfold writeV; rw [if_neg h, if_pos h2]
theorem writeV_ok {L : List Vr} (h : ¬ largeV L) (h2 : L.any formV = false) : writeV L = (strOfNums (varsI L), 0) := by unfold writeV; rw [if_neg h, if_neg (by rw [h2]; decide)]
def many (st : List Int → Option (Vr × List Int)) : Nat → List Int → Option (List Vr)
  | _, [] => some []
  | 0, _ :: _ => none
  | m + 1, x :: l => match st (x :: l) with
    | none => none
    | some (v, r) => (many st m r).map (v :: ·)
end Go.Fw
end
