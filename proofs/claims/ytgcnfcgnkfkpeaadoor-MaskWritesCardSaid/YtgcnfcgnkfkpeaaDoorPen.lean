/- pen, function by function. -/
import Derived.Test.YtgcnfcgnkfkpeaaDoorSxp
namespace Go.Proofs.YtgcnfcgnkfkpeaaDoor
open Go Go.RowKit Go.Fw Go.Sx
set_option maxRecDepth 100000
attribute [local irreducible] SW SL SQ AtQ SV SC BB LD PK Yields

def colorB (x : Int) : Bool := decide ((0 ≤ x ∧ x ≤ 256) ∨ (16777216 ≤ x ∧ x < 33554432))
def penB (fl fo ba : Int) : Bool := decide (0 ≤ fl ∧ fl ≤ 255) && (colorB fo && colorB ba)
theorem penB_iff (fl fo ba : Int) : penB fl fo ba = true ↔ (0 ≤ fl ∧ fl ≤ 255) ∧ ((0 ≤ fo ∧ fo ≤ 256) ∨ (16777216 ≤ fo ∧ fo < 33554432)) ∧ ((0 ≤ ba ∧ ba ≤ 256) ∨ (16777216 ≤ ba ∧ ba < 33554432)) := by
  simp only [penB, colorB, Bool.and_eq_true, decide_eq_true_eq]
abbrev penV (fl fo ba : Int) : Value := .agg [.int .i64 fl, .int .i64 fo, .int .i64 ba].toArray

attribute [irreducible] colorB
def betB (x lo hi : Int) : Bool := decide (lo ≤ x ∧ x ≤ hi)
theorem between_sv (G : Ctx) (H : List Ent) (x lo hi : Int) : SV Tryd.prog G 45 [.int .i64 x, .int .i64 lo, .int .i64 hi] H (.bool (betB x lo hi)) := by
  refine sv_enter3 Tryd.func45 rfl rfl rfl rfl rfl ?_
  repeat' (first | (apply g_sl; first | (apply ks_nil; refine sl_nil ?_) | (apply ks_move; refine s_move rfl rfl ?_) | (apply ks_bin; refine s_bin rfl rfl rfl ?_; first | fail | (first | refine bb_of rfl ?_)) | (apply ks_asgn; refine s_asgn rfl rfl ?_) | (apply ks_pick; refine s_pick rfl rfl ?_; first | (apply kp_t; refine pk_t rfl ?_) | (apply kp_f; refine pk_f rfl ?_) | refine pk_s rfl rfl ?_) | (apply ks_guard; first | (refine sl_gd rfl rfl rfl rfl ?_; first | (apply gd_t) | (apply gd_ft) | (apply gd_tf) | (apply gd_dec_t <;> intro hq <;> (try (exfalso; omega))) | (apply gd_dec_f <;> intro hq <;> (try (exfalso; omega))) | (apply gd_beq_t <;> intro hq <;> (try (exfalso; omega))) | (apply gd_beq_f <;> intro hq <;> (try (exfalso; omega))) | (apply gd_bne_t <;> intro hq <;> (try (exfalso; omega))) | (apply gd_bne_f <;> intro hq <;> (try (exfalso; omega))) | (apply gd_not_t <;> intro hq) | (apply gd_not_f <;> intro hq) | (apply gd_raw_t <;> intro hq) | (apply gd_raw_f <;> intro hq)) | refine sl_skip_u rfl rfl rfl rfl rfl rfl ?_) | fail) | (apply sw_seq) | (apply at_srd) | (apply sw_skip) | (apply sw_ret) | (apply sw_exit) | (apply sw_block) | (apply sw_region) | (refine sw_cd rfl ?_; first | (apply gd_t) | (apply gd_ft) | (apply gd_tf) | (apply gd_dec_t <;> intro hq <;> (try (exfalso; omega))) | (apply gd_dec_f <;> intro hq <;> (try (exfalso; omega))) | (apply gd_beq_t <;> intro hq <;> (try (exfalso; omega))) | (apply gd_beq_f <;> intro hq <;> (try (exfalso; omega))) | (apply gd_bne_t <;> intro hq <;> (try (exfalso; omega))) | (apply gd_bne_f <;> intro hq <;> (try (exfalso; omega))) | (apply gd_not_t <;> intro hq) | (apply gd_not_f <;> intro hq) | (apply gd_raw_t <;> intro hq) | (apply gd_raw_f <;> intro hq)) | (apply at_thn) | (apply at_thn_ret) | (apply at_thn_exit) | (apply at_inb) | (apply at_inb_ret) | (apply at_inb_exit) | refine at_inb_pass rfl ?_ | refine c_drawn (by kernel_rfl) ?_)
  all_goals (refine e_sv (by first | exact .inl rfl | exact .inr rfl) rfl (by repeat (first | exact List.Sublist.refl _ | exact List.nil_sublist _ | refine List.Sublist.cons _ ?_)) ?_; first | exact rb_t (by omega) | exact rb_f (by omega) | exact rb_d (by omega) | exact rb_n (by omega))
attribute [irreducible] betB
theorem two_at (G : Ctx) (H : List Ent) (k : Nat) (hk : k ≤ 61) : SV Tryd.prog G 30 [.int .i64 k] H (.int .i64 ((2 ^ k : Nat) : Int)) := by
  refine sv_enter1 Tryd.func30 rfl rfl rfl rfl rfl ?_
  repeat' (first | (apply g_sl; first | (apply ks_nil; refine sl_nil ?_) | (apply ks_move; refine s_move rfl rfl ?_) | (apply ks_bin; refine s_bin rfl rfl rfl ?_; first | fail | (first | (apply kb_add; first | refine bb_add ⟨by omega, by omega⟩ ?_ | refine bb_of rfl ?_) | (apply kb_mul; first | refine bb_mul ⟨by omega, by omega⟩ ?_ | refine bb_of rfl ?_) | refine bb_of rfl ?_)) | (apply ks_asgn; refine s_asgn rfl rfl ?_) | fail) | (apply sw_seq) | (apply at_srd) | (apply sw_skip) | (apply sw_ret) | (apply sw_exit) | (apply sw_block) | (apply sw_region) | (refine sw_cd rfl ?_; first | (apply gd_t) | (apply gd_ft) | (apply gd_tf) | (apply gd_dec_t <;> intro hq <;> (try (exfalso; omega))) | (apply gd_dec_f <;> intro hq <;> (try (exfalso; omega))) | (apply gd_beq_t <;> intro hq <;> (try (exfalso; omega))) | (apply gd_beq_f <;> intro hq <;> (try (exfalso; omega))) | (apply gd_bne_t <;> intro hq <;> (try (exfalso; omega))) | (apply gd_bne_f <;> intro hq <;> (try (exfalso; omega))) | (apply gd_not_t <;> intro hq) | (apply gd_not_f <;> intro hq) | (apply gd_raw_t <;> intro hq) | (apply gd_raw_f <;> intro hq)) | (apply at_thn) | (apply at_thn_ret) | (apply at_thn_exit) | (apply at_inb) | (apply at_inb_ret) | (apply at_inb_exit) | refine at_inb_pass rfl ?_ | refine c_drawn (by kernel_rfl) ?_)
  refine sw_loop (fun i : Nat => [(5, .int .i64 i), (3, .int .i64 ((2 ^ i : Nat) : Int)), (4, .int .i64 k)]) (fun _ => H) (fun i => i ≤ k) (fun i => k - i) 0 (Nat.zero_le _) (by repeat (first | exact Le.nil _ | refine Le.cons (by first | rfl | (exact congrArg some (congrArg (Value.int _) (by omega)))) ?_)) (fun _ hw => hw) ?_
  intro i hi
  have hp : 2 ^ i ≤ 2 ^ 61 := Nat.pow_le_pow_right (by omega) (by omega)
  have hs : 2 ^ (i + 1) = 2 ^ i * 2 := Nat.pow_succ 2 i
  repeat' (first | (apply g_sl; first | (apply ks_nil; refine sl_nil ?_) | (apply ks_move; refine s_move rfl rfl ?_) | (apply ks_bin; refine s_bin rfl rfl rfl ?_; first | fail | (first | (apply kb_add; first | refine bb_add ⟨by omega, by omega⟩ ?_ | refine bb_of rfl ?_) | (apply kb_mul; first | refine bb_mul ⟨by omega, by omega⟩ ?_ | refine bb_of rfl ?_) | refine bb_of rfl ?_)) | (apply ks_asgn; refine s_asgn rfl rfl ?_) | fail) | (apply sw_seq) | (apply at_srd) | (apply sw_skip) | (apply sw_ret) | (apply sw_exit) | (apply sw_block) | (apply sw_region) | (refine sw_cd rfl ?_; first | (apply gd_t) | (apply gd_ft) | (apply gd_tf) | (apply gd_dec_t <;> intro hq <;> (try (exfalso; omega))) | (apply gd_dec_f <;> intro hq <;> (try (exfalso; omega))) | (apply gd_beq_t <;> intro hq <;> (try (exfalso; omega))) | (apply gd_beq_f <;> intro hq <;> (try (exfalso; omega))) | (apply gd_bne_t <;> intro hq <;> (try (exfalso; omega))) | (apply gd_bne_f <;> intro hq <;> (try (exfalso; omega))) | (apply gd_not_t <;> intro hq) | (apply gd_not_f <;> intro hq) | (apply gd_raw_t <;> intro hq) | (apply gd_raw_f <;> intro hq)) | (apply at_thn) | (apply at_thn_ret) | (apply at_thn_exit) | (apply at_inb) | (apply at_inb_ret) | (apply at_inb_exit) | refine at_inb_pass rfl ?_ | refine c_drawn (by kernel_rfl) ?_)
  · exact at_round ⟨i + 1, by omega, by omega, (by repeat (first | exact Le.nil _ | refine Le.cons (by first | rfl | (exact congrArg some (congrArg (Value.int _) (by omega)))) ?_)), fun _ hw => hw⟩
  · obtain rfl : i = k := by omega
    refine e_sv (by first | exact .inl rfl | exact .inr rfl) rfl (by repeat (first | exact List.Sublist.refl _ | exact List.nil_sublist _ | refine List.Sublist.cons _ ?_)) ?_
    rfl
def two (k : Int) : Int := ((2 ^ k.toNat : Nat) : Int)
theorem two_sv (G : Ctx) (H : List Ent) (k : Int) (h0 : 0 ≤ k) (h1 : k ≤ 61) : SV Tryd.prog G 30 [.int .i64 k] H (.int .i64 (two k)) := by
  have h := two_at G H k.toNat (by omega)
  rw [Int.toNat_of_nonneg h0] at h
  exact h
theorem two24_sv (G : Ctx) (H : List Ent) : SV Tryd.prog G 30 [.int .i64 24] H (.int .i64 16777216) := two_sv G H 24 (by decide) (by decide)
theorem two25_sv (G : Ctx) (H : List Ent) : SV Tryd.prog G 30 [.int .i64 25] H (.int .i64 33554432) := two_sv G H 25 (by decide) (by decide)
def flagAt (k : Nat) : Nat := [0, 1, 2, 4, 8, 16, 0, 32, 64, 128].getD k 0
theorem flagAt_cell (k : Nat) (hk : k < 10) : (ints [0, 1, 2, 4, 8, 16, 0, 32, 64, 128])[k]? = some (.int .i64 (flagAt k)) := by
  match k, hk with
  | 0, _ | 1, _ | 2, _ | 3, _ | 4, _ | 5, _ | 6, _ | 7, _ | 8, _ | 9, _ => rfl
def paintL (c b : Int) : List Int := if c ≤ 8 then [b + c - 1] else if c ≤ 16 then [b + 60 + c - 9] else if c ≤ 256 then [b + 8, 5, c - 1] else [b + 8, 2, c / 65536 % 256, c / 256 % 256, c % 256]
end Go.Proofs.YtgcnfcgnkfkpeaaDoor
