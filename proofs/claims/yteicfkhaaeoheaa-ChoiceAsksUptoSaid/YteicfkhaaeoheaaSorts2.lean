/- about.Name, about.Check, farref.SortsRight, slices.Clone of strings, about.Answer, farref.Walked: walks. -/
import Derived.Test.YteicfkhaaeoheaaSxp
import Derived.Test.YteicfkhaaeoheaaSorts
import Derived.Test.YteicfkhaaeoheaaSxB
import Derived.Test.YteicfkhaaeoheaaFind3
import Derived.Test.YteicfkhaaeoheaaPen
namespace Go.Proofs.Yteicfkhaaeoheaa
open Go Go.RowKit Go.Fw Go.Sx
set_option maxRecDepth 100000
set_option maxHeartbeats 1000000
attribute [local irreducible] SW SL SQ AtQ SV SC BB LD PK Yields SO SOT SOA SY
theorem size_nil {s : ByteArray} (h : s.size = 0) : s = ⟨#[]⟩ := by
  obtain ⟨d⟩ := s
  congr 1
  exact Array.eq_empty_of_size_eq_zero h
theorem name_bad {s : ByteArray} {i : Nat} (hi : i < s.size) (h : ¬ (33 ≤ (nums s).getD i 0 ∧ (nums s).getD i 0 ≤ 126)) : nameB s = false := by
  unfold nameB
  rw [Bool.and_eq_false_iff]
  right
  rw [List.all_eq_false]
  have hl : i < (nums s).length := by rw [nums_length]; exact hi
  refine ⟨(nums s)[i], List.getElem_mem hl, ?_⟩
  have e : (nums s).getD i 0 = (nums s)[i] := by simp [List.getD, List.getElem?_eq_getElem hl]
  rw [e] at h
  simp [nameByte]
  omega
theorem name_ok {s : ByteArray} (h : ∀ i, i < s.size → 33 ≤ (nums s).getD i 0 ∧ (nums s).getD i 0 ≤ 126) : nameB s = decide (1 ≤ s.size ∧ s.size ≤ 40) := by
  unfold nameB
  have : (nums s).all nameByte = true := by
    rw [List.all_eq_true]
    intro x hx
    obtain ⟨i, hi, rfl⟩ := List.getElem_of_mem hx
    have := h i (by rw [← nums_length]; exact hi)
    have e : (nums s).getD i 0 = (nums s)[i] := by simp [List.getD, List.getElem?_eq_getElem hi]
    rw [e] at this
    simpa [nameByte] using this
  rw [this, Bool.and_true]
theorem name_sv (G : Ctx) (H : List Ent) (s : ByteArray) (hz : s.size ≤ maxLen) : SV Try.prog G 48 [.string s] H (.bool (nameB s)) := by
  have hz' : s.size ≤ 9223372036854775807 := hz
  clear hz
  refine sv_enter1 Try.func48 rfl rfl rfl rfl rfl ?_
  repeat' (first | (apply g_sl; first | (apply ks_nil; refine sl_nil ?_) | (apply ks_move; refine s_move rfl rfl ?_) | (apply ks_bin; refine s_bin rfl rfl rfl ?_; first | fail | (first | (apply kb_add; first | refine bb_add ⟨by omega, by omega⟩ ?_ | refine bb_of rfl ?_) | refine bb_of rfl ?_)) | (apply ks_asgn; refine s_asgn rfl rfl ?_) | (apply ks_pick; refine s_pick rfl rfl ?_; first | (apply kp_t; refine pk_t rfl ?_) | (apply kp_f; refine pk_f rfl ?_) | refine pk_s rfl rfl ?_) | (apply ks_index; first | fail | refine s_index (c_indexArr rfl rfl rfl (by omega) (by omega) rfl) rfl ?_ | refine s_index (c_indexArrA rfl rfl rfl (by omega) (by omega) rfl) rfl ?_ | refine s_index (c_indexStr rfl rfl rfl (by omega) rfl) rfl ?_) | (apply ks_bi; first | fail | refine s_call (c_len rfl rfl) rfl ?_ | refine s_call (c_len_str rfl rfl) rfl ?_ | refine s_call (c_bi rfl rfl rfl rfl) rfl ?_ | refine c_append rfl rfl rfl rfl (by first | rfl | simp [ints]) (by first | rfl | exact ints_one _ | exact octs_one _ | exact strs_one _) (by omega) rfl rfl (fun _ _ => ?_) | refine c_append_nil rfl rfl rfl rfl (by first | rfl | simp [ints]) (by first | rfl | exact ints_one _ | exact octs_one _ | exact strs_one _) (by omega) rfl rfl (fun _ _ => ?_)) | (apply ks_guard; first | (refine sl_gd rfl rfl rfl rfl ?_; first | (apply gd_t) | (apply gd_ft) | (apply gd_tf) | (apply gd_dec_t <;> intro hq <;> (try (exfalso; omega))) | (apply gd_dec_f <;> intro hq <;> (try (exfalso; omega))) | (apply gd_beq_t <;> intro hq <;> (try (exfalso; omega))) | (apply gd_beq_f <;> intro hq <;> (try (exfalso; omega))) | (apply gd_bne_t <;> intro hq <;> (try (exfalso; omega))) | (apply gd_bne_f <;> intro hq <;> (try (exfalso; omega))) | (apply gd_not_t <;> intro hq) | (apply gd_not_f <;> intro hq) | (apply gd_raw_t <;> intro hq) | (apply gd_raw_f <;> intro hq)) | refine sl_skip_u rfl rfl rfl rfl rfl rfl ?_) | fail) | (apply sw_seq) | (apply at_srd) | (apply sw_skip) | (apply sw_ret) | (apply sw_exit) | (apply sw_block) | (apply sw_region) | (refine sw_cd rfl ?_; first | (apply gd_t) | (apply gd_ft) | (apply gd_tf) | (apply gd_dec_t <;> intro hq <;> (try (exfalso; omega))) | (apply gd_dec_f <;> intro hq <;> (try (exfalso; omega))) | (apply gd_beq_t <;> intro hq <;> (try (exfalso; omega))) | (apply gd_beq_f <;> intro hq <;> (try (exfalso; omega))) | (apply gd_bne_t <;> intro hq <;> (try (exfalso; omega))) | (apply gd_bne_f <;> intro hq <;> (try (exfalso; omega))) | (apply gd_not_t <;> intro hq) | (apply gd_not_f <;> intro hq) | (apply gd_raw_t <;> intro hq) | (apply gd_raw_f <;> intro hq)) | (apply at_thn) | (apply at_thn_ret) | (apply at_thn_exit) | (apply at_inb) | (apply at_inb_ret) | (apply at_inb_exit) | refine at_inb_pass rfl ?_ | refine c_drawn (by kernel_rfl) ?_)
  refine sw_loopg (α := Nat) (fun i => [(0, .string s), (5, .int .i64 s.size), (6, .int .i64 i)]) (fun _ => H)
    (fun i => i ≤ s.size ∧ ∀ j, j < i → 33 ≤ (nums s).getD j 0 ∧ (nums s).getD j 0 ≤ 126) (fun i => s.size - i) 0 ⟨Nat.zero_le _, fun j hj => absurd hj (Nat.not_lt_zero _)⟩ (by repeat (first | exact Le.nil _ | refine Le.cons (by first | rfl | (exact congrArg some (congrArg (Value.int _) (by omega)))) ?_)) (fun _ hw => hw.subs (by repeat (first | refine Subs.cons (by repeat constructor) ?_ | exact Subs.sub (by repeat (first | exact List.Sublist.refl _ | exact List.nil_sublist _ | refine List.Sublist.cons _ ?_))))) ?_
  rintro i ⟨hi, hs⟩
  have Hs := Lib.hid hs
  clear hs
  repeat' (first | (apply g_sl; first | (apply ks_nil; refine sl_nil ?_) | (apply ks_move; refine s_move rfl rfl ?_) | (apply ks_bin; refine s_bin rfl rfl rfl ?_; first | first | (refine s_index (c_indexNum rfl rfl rfl (by omega) (by omega)) rfl ?_) | (refine bb_sne ?_) | (first | (apply kb_add; first | refine bb_add ⟨by omega, by omega⟩ ?_ | refine bb_of rfl ?_) | refine bb_of rfl ?_)) | (apply ks_asgn; refine s_asgn rfl rfl ?_) | (apply ks_pick; refine s_pick rfl rfl ?_; first | (apply kp_t; refine pk_t rfl ?_) | (apply kp_f; refine pk_f rfl ?_) | refine pk_s rfl rfl ?_) | (apply ks_index; first | first | (refine s_index (c_indexNum rfl rfl rfl (by omega) (by omega)) rfl ?_) | (refine bb_sne ?_) | refine s_index (c_indexArr rfl rfl rfl (by omega) (by omega) rfl) rfl ?_ | refine s_index (c_indexArrA rfl rfl rfl (by omega) (by omega) rfl) rfl ?_ | refine s_index (c_indexStr rfl rfl rfl (by omega) rfl) rfl ?_) | (apply ks_bi; first | first | (refine s_index (c_indexNum rfl rfl rfl (by omega) (by omega)) rfl ?_) | (refine bb_sne ?_) | refine s_call (c_len rfl rfl) rfl ?_ | refine s_call (c_len_str rfl rfl) rfl ?_ | refine s_call (c_bi rfl rfl rfl rfl) rfl ?_ | refine c_append rfl rfl rfl rfl (by first | rfl | simp [ints]) (by first | rfl | exact ints_one _ | exact octs_one _ | exact strs_one _) (by omega) rfl rfl (fun _ _ => ?_) | refine c_append_nil rfl rfl rfl rfl (by first | rfl | simp [ints]) (by first | rfl | exact ints_one _ | exact octs_one _ | exact strs_one _) (by omega) rfl rfl (fun _ _ => ?_)) | (apply ks_guard; first | (refine sl_gd rfl rfl rfl rfl ?_; first | (apply gd_t) | (apply gd_ft) | (apply gd_tf) | (apply gd_dec_t <;> intro hq <;> (try (exfalso; omega))) | (apply gd_dec_f <;> intro hq <;> (try (exfalso; omega))) | (apply gd_beq_t <;> intro hq <;> (try (exfalso; omega))) | (apply gd_beq_f <;> intro hq <;> (try (exfalso; omega))) | (apply gd_bne_t <;> intro hq <;> (try (exfalso; omega))) | (apply gd_bne_f <;> intro hq <;> (try (exfalso; omega))) | (apply gd_not_t <;> intro hq) | (apply gd_not_f <;> intro hq) | (apply gd_raw_t <;> intro hq) | (apply gd_raw_f <;> intro hq)) | refine sl_skip_u rfl rfl rfl rfl rfl rfl ?_) | first | (refine s_index (c_indexNum rfl rfl rfl (by omega) (by omega)) rfl ?_) | (refine bb_sne ?_)) | (apply sw_seq) | (apply at_srd) | (apply sw_skip) | (apply sw_ret) | (apply sw_exit) | (apply sw_block) | (apply sw_region) | (refine sw_cd rfl ?_; first | (apply gd_t) | (apply gd_ft) | (apply gd_tf) | (apply gd_dec_t <;> intro hq <;> (try (exfalso; omega))) | (apply gd_dec_f <;> intro hq <;> (try (exfalso; omega))) | (apply gd_beq_t <;> intro hq <;> (try (exfalso; omega))) | (apply gd_beq_f <;> intro hq <;> (try (exfalso; omega))) | (apply gd_bne_t <;> intro hq <;> (try (exfalso; omega))) | (apply gd_bne_f <;> intro hq <;> (try (exfalso; omega))) | (apply gd_not_t <;> intro hq) | (apply gd_not_f <;> intro hq) | (apply gd_raw_t <;> intro hq) | (apply gd_raw_f <;> intro hq)) | (apply at_thn) | (apply at_thn_ret) | (apply at_thn_exit) | (apply at_inb) | (apply at_inb_ret) | (apply at_inb_exit) | refine at_inb_pass rfl ?_ | refine c_drawn (by kernel_rfl) ?_)
  · refine e_sv (by first | exact .inl rfl | exact .inr rfl) rfl (by repeat (first | exact List.Sublist.refl _ | exact List.nil_sublist _ | refine List.Sublist.cons _ ?_)) ?_
    rw [name_bad (i := i) (by omega) (by rw [Int.toNat_natCast] at hq; omega)]; rfl
  · refine at_meet (i + 1) ⟨⟨by omega, fun j hj => ?_⟩, by omega⟩ (by repeat (first | exact Le.nil _ | refine Le.cons (by first | rfl | (exact congrArg some (congrArg (Value.int _) (by omega)))) ?_)) (fun _ hw => hw.subs (by repeat (first | refine Subs.cons (by repeat constructor) ?_ | exact Subs.sub (by repeat (first | exact List.Sublist.refl _ | exact List.nil_sublist _ | refine List.Sublist.cons _ ?_)))))
    rcases Nat.lt_or_ge j i with h | h
    · exact Hs.out j h
    · obtain rfl : j = i := by omega
      rw [Int.toNat_natCast] at *
      omega
  · refine e_sv (by first | exact .inl rfl | exact .inr rfl) rfl (by repeat (first | exact List.Sublist.refl _ | exact List.nil_sublist _ | refine List.Sublist.cons _ ?_)) ?_
    rw [name_bad (i := i) (by omega) (by rw [Int.toNat_natCast] at hq; omega)]; rfl
  · obtain rfl : i = s.size := by omega
    refine e_sv (by first | exact .inl rfl | exact .inr rfl) rfl (by repeat (first | exact List.Sublist.refl _ | exact List.nil_sublist _ | refine List.Sublist.cons _ ?_)) ?_
    rw [name_ok Hs.out]
    refine congrArg Value.bool ?_
    have h1 : 1 ≤ s.size := Nat.pos_of_ne_zero fun h0 => of_decide_eq_false (by assumption) (size_nil h0)
    rw [decide_eq_decide]
    omega
  · obtain rfl : i = s.size := by omega
    refine e_sv (by first | exact .inl rfl | exact .inr rfl) rfl (by repeat (first | exact List.Sublist.refl _ | exact List.nil_sublist _ | refine List.Sublist.cons _ ?_)) ?_
    rw [name_ok Hs.out]
    have h1 : s = ⟨#[]⟩ := of_decide_eq_true (by assumption)
    rw [h1]
    rfl
theorem strs_at (xs : List ByteArray) (k : Nat) (h : k < xs.length) : (strs xs)[(k : Int).toNat * 1]? = some (.string (xs.getD k ByteArray.empty)) := by
  simp [strs, List.getD, List.getElem?_eq_getElem h]
theorem piece_strs (ts : List ByteArray) (q m : Nat) (l h : Int) (hl : l = q) (hh : h = q + m) : ((strs ts).drop (l.toNat * 1)).take ((h.toNat - l.toNat) * 1) = strs ((ts.drop q).take m) := by
  rw [show l.toNat * 1 = q from by omega, show (h.toNat - l.toNat) * 1 = m from by omega]
  simp [strs, List.map_take, List.map_drop]
/-- Sorts as they lie. -/
abbrev sortsV (a : Option Addr) (n c : Nat) (t : Int) : Value := .agg #[.slice a n c, .int .i64 t]
end Go.Proofs.Yteicfkhaaeoheaa
