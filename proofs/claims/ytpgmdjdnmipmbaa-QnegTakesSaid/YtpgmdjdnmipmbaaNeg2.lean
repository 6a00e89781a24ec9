/- The cells of a negotiation; qneg.Check, farref.NegRight, qneg.bytes, farref.Spoken: walks. -/
import Derived.Test.YtpgmdjdnmipmbaaNeg
import Derived.Test.YtpgmdjdnmipmbaaSlc2
import Derived.Test.YtpgmdjdnmipmbaaSlc7
import Derived.Test.YtpgmdjdnmipmbaaFind3
namespace Go.Fw
open Go Go.RowKit Go.Sx
def wds (X : List Int) : List Value := X.map (Value.int .u64)
/-- 512 states, and what may be on: 8 words. -/
def negC (W X : List Int) : List Value := octs W ++ wds X
abbrev negV (W X : List Int) : Value := .agg (negC W X).toArray
theorem negC_len {W X : List Int} (hW : W.length = 512) (hX : X.length = 8) : (negC W X).length = 520 := by simp [negC, octs, wds, hW, hX]
theorem neg_b {W X : List Int} (hW : W.length = 512) (hX : X.length = 8) : Nat.beq (negC W X).length 520 = true := by rw [negC_len hW hX]; rfl
theorem neg_at {W : List Int} (X : List Int) (hW : W.length = 512) (f : Nat) (hf : f < 512) : (negC W X)[f]? = some (.int .u8 (W.getD f 0)) := by
  unfold negC
  rw [List.getElem?_append_left (by rw [octs_len]; omega)]
  exact octs_at W f (by omega)
theorem neg_set {W : List Int} (X : List Int) (hW : W.length = 512) (f : Nat) (hf : f < 512) (v : Int) : (negC W X).set f (.int .u8 v) = negC (W.set f v) X := by
  unfold negC
  rw [List.set_append_left _ _ (by rw [octs_len]; omega), octs_set]
def negOk (W : List Int) : Bool := (List.range 512).all fun j => decide (0 ≤ W.getD j 0 ∧ W.getD j 0 ≤ 5)
def negE (W : List Int) : Int := if negOk W = true then 0 else 4
theorem negE_bad {W : List Int} (j : Nat) (hj : j < 512) (h : ¬ (0 ≤ W.getD j 0 ∧ W.getD j 0 ≤ 5)) : negE W = 4 := by
  unfold negE
  rw [if_neg]
  intro e
  have := List.all_eq_true.1 e j (List.mem_range.2 hj)
  exact h (of_decide_eq_true this)
theorem negE_ok {W : List Int} (h : ∀ j, j < 512 → 0 ≤ W.getD j 0 ∧ W.getD j 0 ≤ 5) : negE W = 0 := by
  unfold negE
  rw [if_pos]
  exact List.all_eq_true.2 fun j hj => decide_eq_true (h j (List.mem_range.1 hj))
theorem negE_at {W : List Int} (h : negE W = 0) (j : Nat) (hj : j < 512) : 0 ≤ W.getD j 0 ∧ W.getD j 0 ≤ 5 := by
  rcases Classical.em (0 ≤ W.getD j 0 ∧ W.getD j 0 ≤ 5) with h1 | h1
  · exact h1
  · rw [negE_bad j hj h1] at h
    cases h
theorem negE_01 (W : List Int) : negE W = 0 ∨ negE W = 4 := by
  unfold negE
  split <;> simp
/-- The bytes that are said. -/
def spokeL (us : Bool) (m opt : Int) : List Int := if m = 0 then [] else [255, (if us then 250 else 252) + m, opt]
attribute [irreducible] negE
end Go.Fw
namespace Go.Proofs.Ytpgmdjdnmipmbaa
open Go Go.RowKit Go.Fw Go.Sx
set_option maxRecDepth 100000
set_option maxHeartbeats 1000000
attribute [local irreducible] SW SL SQ AtQ SV SC BB LD PK Yields SO SOT SOA SY
theorem neg_part {W : List Int} (X : List Int) (hW : W.length = 512) (k : Nat) (hk : k + 256 ≤ 512) : take? ((negC W X).drop k) 256 = some (octs ((W.drop k).take 256)) := by
  unfold negC
  rw [take?_take _ _ (by simp [octs, wds]; omega), List.drop_append_of_le_length (by rw [octs_len]; omega), List.take_append_of_le_length (by simp [octs]; omega)]
  simp [octs, List.map_take, List.map_drop]
attribute [local irreducible] negC
theorem negBytes_sv (G : Ctx) (H : List Ent) (us : Bool) (m opt : Int) (hm : 0 ≤ m ∧ m ≤ 2) (ho : 0 ≤ opt ∧ opt ≤ 255) : SV Try.prog G 79 [.bool us, .int .i64 m, .int .i64 opt] H (.string (strOfNums (spokeL us m opt))) := by
  rcases (show m = 0 ∨ m = 1 ∨ m = 2 by omega) with rfl | rfl | rfl <;> cases us
  all_goals
    refine sv_enter3 Try.func79 rfl rfl rfl rfl rfl ?_
    repeat' (first | (apply g_sl; first | (apply ks_nil; refine sl_nil ?_) | (apply ks_move; refine s_move rfl rfl ?_) | (apply ks_bin; refine s_bin rfl rfl rfl ?_; first | first | refine s_conv (c_convBs (xs := spokeL _ _ opt) rfl rfl (show _ = octs (spokeL true 1 opt) from rfl) rfl) rfl ?_ | refine s_conv (c_convBs rfl rfl (show _ = octs (spokeL true 2 opt) from rfl) rfl) rfl ?_ | refine s_conv (c_convBs rfl rfl (show _ = octs (spokeL false 1 opt) from rfl) rfl) rfl ?_ | refine s_conv (c_convBs rfl rfl (show _ = octs (spokeL false 2 opt) from rfl) rfl) rfl ?_ | (first | (apply kb_add; first | refine bb_add ⟨by omega, by omega⟩ ?_ | refine bb_of rfl ?_) | (apply kb_sub; first | refine bb_sub ⟨by omega, by omega⟩ ?_ | refine bb_of rfl ?_) | refine bb_of rfl ?_)) | (apply ks_asgn; refine s_asgn rfl rfl ?_) | (apply ks_conv; first | first | refine s_conv (c_convBs (xs := spokeL _ _ opt) rfl rfl (show _ = octs (spokeL true 1 opt) from rfl) rfl) rfl ?_ | refine s_conv (c_convBs rfl rfl (show _ = octs (spokeL true 2 opt) from rfl) rfl) rfl ?_ | refine s_conv (c_convBs rfl rfl (show _ = octs (spokeL false 1 opt) from rfl) rfl) rfl ?_ | refine s_conv (c_convBs rfl rfl (show _ = octs (spokeL false 2 opt) from rfl) rfl) rfl ?_ | refine s_conv (c_conv (k := .i64) rfl rfl ⟨by omega, by omega⟩) rfl ?_ | refine s_conv (c_conv (k := .u8) rfl rfl ⟨by omega, by omega⟩) rfl ?_ | refine s_conv (c_conv (k := .u64) rfl rfl ⟨by omega, by omega⟩) rfl ?_ | refine s_conv (c_convw rfl rfl) rfl ?_) | (apply ks_bs; first | refine c_buildSlice rfl rfl rfl rfl rfl rfl rfl rfl rfl rfl (fun _ => ?_) | first | refine s_conv (c_convBs (xs := spokeL _ _ opt) rfl rfl (show _ = octs (spokeL true 1 opt) from rfl) rfl) rfl ?_ | refine s_conv (c_convBs rfl rfl (show _ = octs (spokeL true 2 opt) from rfl) rfl) rfl ?_ | refine s_conv (c_convBs rfl rfl (show _ = octs (spokeL false 1 opt) from rfl) rfl) rfl ?_ | refine s_conv (c_convBs rfl rfl (show _ = octs (spokeL false 2 opt) from rfl) rfl) rfl ?_) | first | refine s_conv (c_convBs (xs := spokeL _ _ opt) rfl rfl (show _ = octs (spokeL true 1 opt) from rfl) rfl) rfl ?_ | refine s_conv (c_convBs rfl rfl (show _ = octs (spokeL true 2 opt) from rfl) rfl) rfl ?_ | refine s_conv (c_convBs rfl rfl (show _ = octs (spokeL false 1 opt) from rfl) rfl) rfl ?_ | refine s_conv (c_convBs rfl rfl (show _ = octs (spokeL false 2 opt) from rfl) rfl) rfl ?_) | (apply sw_seq) | (apply at_srd) | (apply sw_skip) | (apply sw_ret) | (apply sw_exit) | (apply sw_block) | (apply sw_region) | (refine sw_cd rfl ?_; first | (apply gd_t) | (apply gd_ft) | (apply gd_tf) | (apply gd_dec_t <;> intro hq <;> (try (exfalso; omega))) | (apply gd_dec_f <;> intro hq <;> (try (exfalso; omega))) | (apply gd_beq_t <;> intro hq <;> (try (exfalso; omega))) | (apply gd_beq_f <;> intro hq <;> (try (exfalso; omega))) | (apply gd_bne_t <;> intro hq <;> (try (exfalso; omega))) | (apply gd_bne_f <;> intro hq <;> (try (exfalso; omega))) | (apply gd_not_t <;> intro hq) | (apply gd_not_f <;> intro hq) | (apply gd_raw_t <;> intro hq) | (apply gd_raw_f <;> intro hq)) | (apply at_thn) | (apply at_thn_ret) | (apply at_thn_exit) | (apply at_inb) | (apply at_inb_ret) | (apply at_inb_exit) | refine at_inb_pass rfl ?_ | refine c_drawn (by kernel_rfl) ?_)
  all_goals (refine e_sv (by first | exact .inl rfl | exact .inr rfl) rfl (by repeat (first | exact List.Sublist.refl _ | exact List.nil_sublist _ | refine List.Sublist.cons _ ?_)) ?_; rfl)
theorem spoken_sv (G : Ctx) (H : List Ent) (us : Bool) (m opt : Int) (hm : 0 ≤ m ∧ m ≤ 2) (ho : 0 ≤ opt ∧ opt ≤ 255) : SV Try.prog G 81 [.bool us, .int .i64 m, .int .i64 opt] H (.string (strOfNums (spokeL us m opt))) := by
  have h5 := fun u (h : u = true) => show ∀ x ∈ spokeL u m opt, Oct x from by
    subst h; unfold spokeL; split
    · exact oct_nil
    · exact oct_cons ⟨by omega, by omega⟩ (oct_cons ⟨by simp; omega, by simp; omega⟩ (oct_cons ho oct_nil))
  have h6 := fun u (h : u = false) => show ∀ x ∈ spokeL u m opt, Oct x from by
    subst h; unfold spokeL; split
    · exact oct_nil
    · exact oct_cons ⟨by omega, by omega⟩ (oct_cons ⟨by simp; omega, by simp; omega⟩ (oct_cons ho oct_nil))
  have hoc : ∀ x ∈ spokeL us m opt, Oct x := by cases us; exact h6 _ rfl; exact h5 _ rfl
  have hle : (spokeL us m opt).length ≤ 100000 := by unfold spokeL; split <;> simp
  have cB := fun (H : List Ent) (a : Option Addr) {vs : List Value} [RdC G H a vs] (hv : vs = ints (spokeL us m opt)) (hn : 3 = (spokeL us m opt).length) => bytes_sv G H (spokeL us m opt) a 3 3 hv hn hle hoc
  clear h5 h6 hle
  rcases (show m = 0 ∨ m = 1 ∨ m = 2 by omega) with rfl | rfl | rfl <;> cases us
  all_goals
    refine sv_enter3 Try.func81 rfl rfl rfl rfl rfl ?_
    repeat' (first | (apply g_sl; first | (apply ks_nil; refine sl_nil ?_) | (apply ks_move; refine s_move rfl rfl ?_) | (apply ks_bin; refine s_bin rfl rfl rfl ?_; first | fail | (first | (apply kb_add; first | refine bb_add ⟨by omega, by omega⟩ ?_ | refine bb_of rfl ?_) | refine bb_of rfl ?_)) | (apply ks_asgn; refine s_asgn rfl rfl ?_) | (apply ks_fn; first | refine c_callv rfl rfl rfl (cB _ _ rfl rfl) rfl rfl ?_) | (apply ks_bs; first | refine c_buildSlice rfl rfl rfl rfl rfl rfl rfl rfl rfl rfl (fun _ => ?_) | fail) | fail) | (apply sw_seq) | (apply at_srd) | (apply sw_skip) | (apply sw_ret) | (apply sw_exit) | (apply sw_block) | (apply sw_region) | (refine sw_cd rfl ?_; first | (apply gd_t) | (apply gd_ft) | (apply gd_tf) | (apply gd_dec_t <;> intro hq <;> (try (exfalso; omega))) | (apply gd_dec_f <;> intro hq <;> (try (exfalso; omega))) | (apply gd_beq_t <;> intro hq <;> (try (exfalso; omega))) | (apply gd_beq_f <;> intro hq <;> (try (exfalso; omega))) | (apply gd_bne_t <;> intro hq <;> (try (exfalso; omega))) | (apply gd_bne_f <;> intro hq <;> (try (exfalso; omega))) | (apply gd_not_t <;> intro hq) | (apply gd_not_f <;> intro hq) | (apply gd_raw_t <;> intro hq) | (apply gd_raw_f <;> intro hq)) | (apply at_thn) | (apply at_thn_ret) | (apply at_thn_exit) | (apply at_inb) | (apply at_inb_ret) | (apply at_inb_exit) | refine at_inb_pass rfl ?_ | refine c_drawn (by kernel_rfl) ?_)
  all_goals (refine e_sv (by first | exact .inl rfl | exact .inr rfl) rfl (by repeat (first | exact List.Sublist.refl _ | exact List.nil_sublist _ | refine List.Sublist.cons _ ?_)) ?_; rfl)
end Go.Proofs.Ytpgmdjdnmipmbaa
