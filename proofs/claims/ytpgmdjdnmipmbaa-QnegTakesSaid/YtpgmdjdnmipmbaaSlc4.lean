/- farref.KeySaid, slc.all, slc.All, farref.KeysText: walks. -/
import Derived.Test.YtpgmdjdnmipmbaaSlc2
namespace Go.Proofs.Ytpgmdjdnmipmbaa
open Go Go.RowKit Go.Fw Go.Sx
set_option maxRecDepth 100000
set_option maxHeartbeats 2000000
attribute [local irreducible] SW SL SQ AtQ SV SC BB LD PK Yields SO SOT SOA SY
theorem bytes_sv (G : Ctx) (H : List Ent) (xs : List Int) {vs : List Value} (a : Option Addr) (n c : Nat) [h1 : RdC G H a vs] (hv : vs = ints xs) (hn : n = xs.length) (hl : xs.length ≤ 100000) (ho : ∀ x ∈ xs, Oct x) : SV Try.prog G 77 [.slice a n c] H (.string (strOfNums xs)) := by
  subst hv
  have e : bytesOf xs = strOfNums xs := by
    have : xs.map (· % 256) = xs := by
      refine (List.map_congr_left fun x hx => ?_).trans (List.map_id _)
      have := ho x hx
      show x % 256 = x
      exact Int.emod_eq_of_lt this.1 (by have := this.2; omega)
    first | (unfold bytesOf; rw [this]) | skip
  rw [← e]
  exact sv_of_calls (callee_of Try.func77 rfl rfl) fun w hw => bytes_any xs a n c w hn hl (h1.here w hw)
/-- The same, told by level and key. -/
def saidS (own key f g c : Int) : Int × Int × List Int :=
  if ¬ (1 ≤ f ∧ f ≤ 18) then (if 128 ≤ g then (own, key, []) else (own, key, [f, 0, 0]))
  else if g % 4 = own ∧ c = key then (own, key, [])
  else if 128 ≤ g then (if g % 4 = 3 then (own, key, []) else (g % 4, c, []))
  else if g % 4 = 0 then (0, c, [f, 128, c])
  else if g % 4 = 3 then (own, key, [f, own, key])
  else if own = 1 ∧ g % 4 = 1 then (0, 0, [f, 0, 0])
  else if own = 1 then (own, key, [f, 1, key])
  else (g % 4, c, [f, 128 + g % 4, c])
theorem saidS_a {own key f g c : Int} (h0 : ¬ (1 ≤ f ∧ f ≤ 18)) (h1 : 128 ≤ g) : saidS own key f g c = (own, key, []) := by
  unfold saidS
  rw [if_pos h0, if_pos h1]
theorem saidS_b {own key f g c : Int} (h0 : ¬ (1 ≤ f ∧ f ≤ 18)) (h1 : ¬ 128 ≤ g) : saidS own key f g c = (own, key, [f, 0, 0]) := by
  unfold saidS
  rw [if_pos h0, if_neg h1]
theorem saidS_c {own key f g c : Int} (h0 : 1 ≤ f ∧ f ≤ 18) (h1 : g % 4 = own ∧ c = key) : saidS own key f g c = (own, key, []) := by
  unfold saidS
  rw [if_neg (not_not_intro h0), if_pos h1]
theorem saidS_d {own key f g c : Int} (h0 : 1 ≤ f ∧ f ≤ 18) (h1 : ¬ (g % 4 = own ∧ c = key)) (h2 : 128 ≤ g) (h3 : g % 4 = 3) : saidS own key f g c = (own, key, []) := by
  unfold saidS
  rw [if_neg (not_not_intro h0), if_neg h1, if_pos h2, if_pos h3]
theorem saidS_e {own key f g c : Int} (h0 : 1 ≤ f ∧ f ≤ 18) (h1 : ¬ (g % 4 = own ∧ c = key)) (h2 : 128 ≤ g) (h3 : ¬ g % 4 = 3) : saidS own key f g c = (g % 4, c, []) := by
  unfold saidS
  rw [if_neg (not_not_intro h0), if_neg h1, if_pos h2, if_neg h3]
theorem saidS_f {own key f g c : Int} (h0 : 1 ≤ f ∧ f ≤ 18) (h1 : ¬ (g % 4 = own ∧ c = key)) (h2 : ¬ 128 ≤ g) (h3 : g % 4 = 0) : saidS own key f g c = (0, c, [f, 128, c]) := by
  unfold saidS
  rw [if_neg (not_not_intro h0), if_neg h1, if_neg h2, if_pos h3]
theorem saidS_g {own key f g c : Int} (h0 : 1 ≤ f ∧ f ≤ 18) (h1 : ¬ (g % 4 = own ∧ c = key)) (h2 : ¬ 128 ≤ g) (h3 : ¬ g % 4 = 0) (h4 : g % 4 = 3) : saidS own key f g c = (own, key, [f, own, key]) := by
  unfold saidS
  rw [if_neg (not_not_intro h0), if_neg h1, if_neg h2, if_neg h3, if_pos h4]
theorem saidS_h {own key f g c : Int} (h0 : 1 ≤ f ∧ f ≤ 18) (h1 : ¬ (g % 4 = own ∧ c = key)) (h2 : ¬ 128 ≤ g) (h3 : ¬ g % 4 = 0) (h4 : ¬ g % 4 = 3) (h5 : own = 1 ∧ g % 4 = 1) : saidS own key f g c = (0, 0, [f, 0, 0]) := by
  unfold saidS
  rw [if_neg (not_not_intro h0), if_neg h1, if_neg h2, if_neg h3, if_neg h4, if_pos h5]
theorem saidS_i {own key f g c : Int} (h0 : 1 ≤ f ∧ f ≤ 18) (h1 : ¬ (g % 4 = own ∧ c = key)) (h2 : ¬ 128 ≤ g) (h3 : ¬ g % 4 = 0) (h4 : ¬ g % 4 = 3) (h5 : ¬ (own = 1 ∧ g % 4 = 1)) (h6 : own = 1) : saidS own key f g c = (own, key, [f, 1, key]) := by
  unfold saidS
  rw [if_neg (not_not_intro h0), if_neg h1, if_neg h2, if_neg h3, if_neg h4, if_neg h5, if_pos h6]
theorem saidS_j {own key f g c : Int} (h0 : 1 ≤ f ∧ f ≤ 18) (h1 : ¬ (g % 4 = own ∧ c = key)) (h2 : ¬ 128 ≤ g) (h3 : ¬ g % 4 = 0) (h4 : ¬ g % 4 = 3) (h5 : ¬ (own = 1 ∧ g % 4 = 1)) (h6 : ¬ own = 1) : saidS own key f g c = (g % 4, c, [f, 128 + g % 4, c]) := by
  unfold saidS
  rw [if_neg (not_not_intro h0), if_neg h1, if_neg h2, if_neg h3, if_neg h4, if_neg h5, if_neg h6]
theorem keySaid_sv (G : Ctx) (H : List Ent) (own key f g c : Int) (h1 : Oct own) (h2 : Oct key) (hf : Oct f) (hg : Oct g) (hc : Oct c) : SV Try.prog G 75 [.int .i64 own, .int .i64 key, .int .i64 f, .int .i64 g, .int .i64 c] H (.tuple #[.int .i64 (saidS own key f g c).1, .int .i64 (saidS own key f g c).2.1, .string (strOfNums (saidS own key f g c).2.2)]) := by
  have hO := h1
  have hK := h2
  have hF := hf
  have hC := hc
  obtain ⟨hf0, hf1⟩ := hf
  obtain ⟨hg0, hg1⟩ := hg
  obtain ⟨ho0, ho1⟩ := h1
  have h5 : Oct (128 + g % 4) := ⟨by omega, by omega⟩
  have z0 : Oct 0 := ⟨by omega, by omega⟩
  have z1 : Oct 1 := ⟨by omega, by omega⟩
  have z2 : Oct 128 := ⟨by omega, by omega⟩
  have hb : ∀ H x lo hi, SV Try.prog G 21 [.int .i64 x, .int .i64 lo, .int .i64 hi] H (.bool (betB x lo hi)) := fun H x lo hi => between_sv G H x lo hi
  have hbt : betB f 1 18 = decide (1 ≤ f ∧ f ≤ 18) := by unfold betB; rfl
  have hb2 := fun H => hb H f 1 18
  rw [hbt] at hb2
  have cB := fun (H : List Ent) (x y z : Int) (a : Option Addr) (hx : Oct x) (hy : Oct y) (hz : Oct z) [RdC G H a [.int .i64 x, .int .i64 y, .int .i64 z]] => bytes_sv G H [x, y, z] a 3 3 rfl rfl (by simp) (oct_cons hx (oct_cons hy (oct_cons hz oct_nil)))
  clear hb hbt
  refine sv_enter5 Try.func75 rfl rfl rfl rfl rfl ?_
  repeat' (first | (apply g_sl; first | (apply ks_nil; refine sl_nil ?_) | (apply ks_move; refine s_move rfl rfl ?_) | (apply ks_bin; refine s_bin rfl rfl rfl ?_; first | fail | (first | (apply kb_add; first | refine bb_add ⟨by omega, by omega⟩ ?_ | refine bb_of rfl ?_) | (apply kb_rem; refine bb_rem (by omega) (by omega) ?_) | refine bb_of rfl ?_)) | (apply ks_asgn; refine s_asgn rfl rfl ?_) | (apply ks_pick; refine s_pick rfl rfl ?_; first | (apply kp_t; refine pk_t rfl ?_) | (apply kp_f; refine pk_f rfl ?_) | refine pk_s rfl rfl ?_) | (apply ks_un; refine s_un (y_un rfl rfl rfl) rfl ?_) | (apply ks_fn; first | first | refine c_callv rfl rfl rfl (hb2 _) rfl rfl ?_ | refine c_callv rfl rfl rfl (cB _ _ _ _ _ hF z0 z0) rfl rfl ?_ | refine c_callv rfl rfl rfl (cB _ _ _ _ _ hF z2 hC) rfl rfl ?_ | refine c_callv rfl rfl rfl (cB _ _ _ _ _ hF hO hK) rfl rfl ?_ | refine c_callv rfl rfl rfl (cB _ _ _ _ _ hF z1 hK) rfl rfl ?_ | refine c_callv rfl rfl rfl (cB _ _ _ _ _ hF h5 hC) rfl rfl ?_) | (apply ks_bs; first | refine c_buildSlice rfl rfl rfl rfl rfl rfl rfl rfl rfl rfl (fun _ => ?_) | fail) | (apply ks_guard; first | (refine sl_gd rfl rfl rfl rfl ?_; first | (apply gd_t) | (apply gd_ft) | (apply gd_tf) | (apply gd_dec_t <;> intro hq <;> (try (exfalso; omega))) | (apply gd_dec_f <;> intro hq <;> (try (exfalso; omega))) | (apply gd_beq_t <;> intro hq <;> (try (exfalso; omega))) | (apply gd_beq_f <;> intro hq <;> (try (exfalso; omega))) | (apply gd_bne_t <;> intro hq <;> (try (exfalso; omega))) | (apply gd_bne_f <;> intro hq <;> (try (exfalso; omega))) | (apply gd_not_t <;> intro hq) | (apply gd_not_f <;> intro hq) | (apply gd_raw_t <;> intro hq) | (apply gd_raw_f <;> intro hq)) | refine sl_skip_u rfl rfl rfl rfl rfl rfl ?_) | fail) | (apply sw_seq) | (apply at_srd) | (apply sw_skip) | (apply sw_ret) | (apply sw_exit) | (apply sw_block) | (apply sw_region) | (refine sw_cd rfl ?_; first | (apply gd_t) | (apply gd_ft) | (apply gd_tf) | (apply gd_dec_t <;> intro hq <;> (try (exfalso; omega))) | (apply gd_dec_f <;> intro hq <;> (try (exfalso; omega))) | (apply gd_beq_t <;> intro hq <;> (try (exfalso; omega))) | (apply gd_beq_f <;> intro hq <;> (try (exfalso; omega))) | (apply gd_bne_t <;> intro hq <;> (try (exfalso; omega))) | (apply gd_bne_f <;> intro hq <;> (try (exfalso; omega))) | (apply gd_not_t <;> intro hq) | (apply gd_not_f <;> intro hq) | (apply gd_raw_t <;> intro hq) | (apply gd_raw_f <;> intro hq)) | (apply at_thn) | (apply at_thn_ret) | (apply at_thn_exit) | (apply at_inb) | (apply at_inb_ret) | (apply at_inb_exit) | refine at_inb_pass rfl ?_ | refine c_drawn (by kernel_rfl) ?_)
  all_goals (simp only [decide_eq_true_eq, decide_eq_false_iff_not] at *)
  all_goals (try (exfalso; omega))
  all_goals (first | rw [saidS_a (by omega) (by omega)] | rw [saidS_b (by omega) (by omega)] | rw [saidS_c (by omega) (by omega)] | rw [saidS_d (by omega) (by omega) (by omega) (by omega)] | rw [saidS_e (by omega) (by omega) (by omega) (by omega)] | rw [saidS_f (by omega) (by omega) (by omega) (by omega)] | rw [saidS_g (by omega) (by omega) (by omega) (by omega) (by omega)] | rw [saidS_h (by omega) (by omega) (by omega) (by omega) (by omega) (by omega)] | rw [saidS_i (by omega) (by omega) (by omega) (by omega) (by omega) (by omega) (by omega)] | rw [saidS_j (by omega) (by omega) (by omega) (by omega) (by omega) (by omega) (by omega)])
  all_goals (refine e_sv (by first | exact .inl rfl | exact .inr rfl) rfl (by repeat (first | exact List.Sublist.refl _ | exact List.nil_sublist _ | refine List.Sublist.cons _ ?_)) ?_; rfl)
end Go.Proofs.Ytpgmdjdnmipmbaa
