/- farref.RunesBytes, utf.Encode: contracts. -/
import Derived.Test.YtgcnfcgnkfkpeaaUtf3
import Derived.Test.YtgcnfcgnkfkpeaaEncode
namespace Go.Proofs.Ytgcnfcgnkfkpeaa
open Go Go.RowKit Go.Fw Go.Sx
set_option maxRecDepth 100000
set_option maxHeartbeats 1000000
attribute [local irreducible] SW SL SQ AtQ SV SC BB LD PK Yields SO SOT SOA SY
theorem strOf_app (a b : List Int) : strOfNums (a ++ b) = strOfNums a ++ strOfNums b := by
  apply ByteArray.ext
  simp [strOfNums]
theorem strOf_size (a : List Int) : (strOfNums a).size = a.length := by
  show (⟨(a.map fun n => UInt8.ofNat n.toNat).toArray⟩ : ByteArray).size = _
  simp [ByteArray.size]
theorem fixR_eq (c : Int) : fixR c = if isR c then c else 65533 := by
  by_cases h : isR c
  · rw [if_pos h]
    unfold isR at h
    unfold fixR
    rw [if_neg (by omega)]
  · rw [if_neg h]
    unfold isR at h
    unfold fixR
    rw [if_pos (by omega)]
theorem encode_sv (G : Ctx) (H : List Ent) (xs : List Int) (a : Option Addr) (n c : Nat) {vs : List Value} [h1 : RdC G H a vs] (hv : vs = ints xs) (hn : n = xs.length) (hm : xs.length ≤ 20000000) : SV Try.prog G 29 [.slice a n c] H (.string (strOfNums (encL xs))) := by
  subst hv
  exact sv_of_calls (callee_of Try.func29 rfl rfl) fun w hw => encode_any xs a n c w hn hm (h1.here w hw)
theorem runesBytes_sv (G : Ctx) (H : List Ent) (xs : List Int) (a : Option Addr) (n c : Nat) {vs : List Value} [h1 : RdC G H a vs] (hv : vs = ints xs) (hn : n = xs.length) (hm : n ≤ 20000000) : SV Try.prog G 30 [.slice a n c] H (.string (strOfNums (encL xs))) := by
  subst hv
  have hix : ∀ k, k < n → (ints xs)[(k : Int).toNat * 1]? = some (.int .i64 (xs.getD k 0)) := fun k hk => ints_at xs k (by omega)
  have hlx : (ints xs).length = n * 1 := by simp [ints, hn]
  have hst := fun k (hk : k < n) => encL_step xs k (by omega)
  have hen := fun k => encL_len (xs.take k)
  have Hn := Lib.hid hn
  have Hix := Lib.hid hix
  have Hst := Lib.hid hst
  clear hix hst hn
  refine sv_enter1 Try.func30 rfl rfl rfl rfl rfl ?_
  repeat' (first | (apply g_sl; first | (apply ks_nil; refine sl_nil ?_) | (apply ks_move; refine s_move rfl rfl ?_) | (apply ks_bin; refine s_bin rfl rfl rfl ?_; first | fail | (first | (apply kb_add; first | refine bb_add ⟨by omega, by omega⟩ ?_ | refine bb_of rfl ?_) | refine bb_of rfl ?_)) | (apply ks_load; first | (refine s_load rfl rfl ?_; first | refine ld_cell rfl ?_ | refine ld_whole rfl ?_ | refine ld_elem rfl ?_ | refine ld_part rfl rfl ?_) | fail) | (apply ks_asgn; refine s_asgn rfl rfl ?_) | (apply ks_un; refine s_un (y_un rfl rfl rfl) rfl ?_) | (apply ks_indexA; first | refine s_indexA (c_indexAddr rfl rfl rfl rfl (by omega) (by omega)) rfl ?_ | fail) | (apply ks_fn; first | fail) | (apply ks_bi; first | fail | refine s_call (c_len rfl rfl) rfl ?_ | refine s_call (c_len_str rfl rfl) rfl ?_ | refine s_call (c_bi rfl rfl rfl rfl) rfl ?_ | refine c_append rfl rfl rfl rfl (by first | rfl | simp [ints]) (by first | rfl | exact ints_one _ | exact octs_one _ | exact strs_one _) (by omega) rfl rfl (fun _ _ => ?_) | refine c_append_nil rfl rfl rfl rfl (by first | rfl | simp [ints]) (by first | rfl | exact ints_one _ | exact octs_one _ | exact strs_one _) (by omega) rfl rfl (fun _ _ => ?_)) | fail) | (apply sw_seq) | (apply at_srd) | (apply sw_skip) | (apply sw_ret) | (apply sw_exit) | (apply sw_block) | (apply sw_region) | (refine sw_cd rfl ?_; first | (apply gd_t) | (apply gd_ft) | (apply gd_tf) | (apply gd_dec_t <;> intro hq <;> (try (exfalso; omega))) | (apply gd_dec_f <;> intro hq <;> (try (exfalso; omega))) | (apply gd_beq_t <;> intro hq <;> (try (exfalso; omega))) | (apply gd_beq_f <;> intro hq <;> (try (exfalso; omega))) | (apply gd_bne_t <;> intro hq <;> (try (exfalso; omega))) | (apply gd_bne_f <;> intro hq <;> (try (exfalso; omega))) | (apply gd_not_t <;> intro hq) | (apply gd_not_f <;> intro hq) | (apply gd_raw_t <;> intro hq) | (apply gd_raw_f <;> intro hq)) | (apply at_thn) | (apply at_thn_ret) | (apply at_thn_exit) | (apply at_inb) | (apply at_inb_ret) | (apply at_inb_exit) | refine at_inb_pass rfl ?_ | refine c_drawn (by kernel_rfl) ?_)
  refine sw_loopg (α := Nat) (fun k => [(3, .string (strOfNums (encL (xs.take k)))), (6, .slice a n c), (7, .int .i64 n), (8, .int .i64 k)]) (fun _ => H)
    (fun k => k ≤ n) (fun k => n - k) 0 (Nat.zero_le _) (by repeat (first | exact Le.nil _ | refine Le.cons (by first | rfl | (exact congrArg some (congrArg (Value.int _) (by omega)))) ?_)) (fun _ hw => hw.subs (by repeat (first | refine Subs.cons (by repeat constructor) ?_ | exact Subs.sub (by repeat (first | exact List.Sublist.refl _ | exact List.nil_sublist _ | refine List.Sublist.cons _ ?_))))) ?_
  intro k hk
  have hel := hen k
  rw [List.length_take] at hel
  by_cases hlt : (k : Int) < n
  · have hx := Hix.out k (by omega)
    have hs := Hst.out k (by omega)
    generalize xs.getD k 0 = x at *
    have hsz := strOf_size (encL (xs.take k))
    have hrl := runeL_len (fixR x)
    have hrs := strOf_size (runeL (fixR x))
    rw [fixR_eq] at hs hrl hrs
    generalize encL (xs.take k) = Z at *
    have cR := fun H => isRune_sv G H x
    have Hs := Lib.hid hs
    clear hs hen
    by_cases hr : isR x
    · rw [if_pos hr] at hrl hrs
      have cB := fun H => runeBytes_sv G H x (by unfold isR at hr; omega)
      rw [decide_eq_true hr] at cR
      have hcat : (strOfNums Z).size + (strOfNums (runeL x)).size ≤ 9223372036854775807 := by omega
      repeat' (first | (apply g_sl; first | (apply ks_nil; refine sl_nil ?_) | (apply ks_move; refine s_move rfl rfl ?_) | (apply ks_bin; refine s_bin rfl rfl rfl ?_; first | first | refine bb_cat hcat ?_ | (refine s_indexA (c_indexAddr rfl rfl rfl hlx (by omega) (by omega)) rfl ?_) | (refine s_load rfl rfl ?_; refine ld_elem hx ?_) | (first | (apply kb_add; first | refine bb_add ⟨by omega, by omega⟩ ?_ | refine bb_of rfl ?_) | refine bb_of rfl ?_)) | (apply ks_load; first | (refine s_load rfl rfl ?_; first | refine ld_cell rfl ?_ | refine ld_whole rfl ?_ | refine ld_elem rfl ?_ | refine ld_part rfl rfl ?_) | first | refine bb_cat hcat ?_ | (refine s_indexA (c_indexAddr rfl rfl rfl hlx (by omega) (by omega)) rfl ?_) | (refine s_load rfl rfl ?_; refine ld_elem hx ?_)) | (apply ks_asgn; refine s_asgn rfl rfl ?_) | (apply ks_un; refine s_un (y_un rfl rfl rfl) rfl ?_) | (apply ks_indexA; first | refine s_indexA (c_indexAddr rfl rfl rfl rfl (by omega) (by omega)) rfl ?_ | first | refine bb_cat hcat ?_ | (refine s_indexA (c_indexAddr rfl rfl rfl hlx (by omega) (by omega)) rfl ?_) | (refine s_load rfl rfl ?_; refine ld_elem hx ?_)) | (apply ks_fn; first | first | refine c_callv rfl rfl rfl (cR _) rfl rfl ?_ | refine c_callv rfl rfl rfl (cB _) rfl rfl ?_) | (apply ks_bi; first | first | refine bb_cat hcat ?_ | (refine s_indexA (c_indexAddr rfl rfl rfl hlx (by omega) (by omega)) rfl ?_) | (refine s_load rfl rfl ?_; refine ld_elem hx ?_) | refine s_call (c_len rfl rfl) rfl ?_ | refine s_call (c_len_str rfl rfl) rfl ?_ | refine s_call (c_bi rfl rfl rfl rfl) rfl ?_ | refine c_append rfl rfl rfl rfl (by first | rfl | simp [ints]) (by first | rfl | exact ints_one _ | exact octs_one _ | exact strs_one _) (by omega) rfl rfl (fun _ _ => ?_) | refine c_append_nil rfl rfl rfl rfl (by first | rfl | simp [ints]) (by first | rfl | exact ints_one _ | exact octs_one _ | exact strs_one _) (by omega) rfl rfl (fun _ _ => ?_)) | first | refine bb_cat hcat ?_ | (refine s_indexA (c_indexAddr rfl rfl rfl hlx (by omega) (by omega)) rfl ?_) | (refine s_load rfl rfl ?_; refine ld_elem hx ?_)) | (apply sw_seq) | (apply at_srd) | (apply sw_skip) | (apply sw_ret) | (apply sw_exit) | (apply sw_block) | (apply sw_region) | (refine sw_cd rfl ?_; first | (apply gd_t) | (apply gd_ft) | (apply gd_tf) | (apply gd_dec_t <;> intro hq <;> (try (exfalso; omega))) | (apply gd_dec_f <;> intro hq <;> (try (exfalso; omega))) | (apply gd_beq_t <;> intro hq <;> (try (exfalso; omega))) | (apply gd_beq_f <;> intro hq <;> (try (exfalso; omega))) | (apply gd_bne_t <;> intro hq <;> (try (exfalso; omega))) | (apply gd_bne_f <;> intro hq <;> (try (exfalso; omega))) | (apply gd_not_t <;> intro hq) | (apply gd_not_f <;> intro hq) | (apply gd_raw_t <;> intro hq) | (apply gd_raw_f <;> intro hq)) | (apply at_thn) | (apply at_thn_ret) | (apply at_thn_exit) | (apply at_inb) | (apply at_inb_ret) | (apply at_inb_exit) | refine at_inb_pass rfl ?_ | refine c_drawn (by kernel_rfl) ?_)
      refine at_meet (k + 1) ⟨by omega, by omega⟩ ?_ (fun _ hw => hw.subs (by repeat (first | refine Subs.cons (by repeat constructor) ?_ | exact Subs.sub (by repeat (first | exact List.Sublist.refl _ | exact List.nil_sublist _ | refine List.Sublist.cons _ ?_)))))
      rw [Hs.out, if_pos hr, strOf_app]
      exact (by repeat (first | exact Le.nil _ | refine Le.cons (by first | rfl | (exact congrArg some (congrArg (Value.int _) (by omega)))) ?_))
    · rw [if_neg hr] at hrl hrs
      have cB := fun H => runeBytes_sv G H 65533 (by omega)
      rw [decide_eq_false hr] at cR
      have hcat : (strOfNums Z).size + (strOfNums (runeL 65533)).size ≤ 9223372036854775807 := by omega
      repeat' (first | (apply g_sl; first | (apply ks_nil; refine sl_nil ?_) | (apply ks_move; refine s_move rfl rfl ?_) | (apply ks_bin; refine s_bin rfl rfl rfl ?_; first | first | refine bb_cat hcat ?_ | (refine s_indexA (c_indexAddr rfl rfl rfl hlx (by omega) (by omega)) rfl ?_) | (refine s_load rfl rfl ?_; refine ld_elem hx ?_) | (first | (apply kb_add; first | refine bb_add ⟨by omega, by omega⟩ ?_ | refine bb_of rfl ?_) | refine bb_of rfl ?_)) | (apply ks_load; first | (refine s_load rfl rfl ?_; first | refine ld_cell rfl ?_ | refine ld_whole rfl ?_ | refine ld_elem rfl ?_ | refine ld_part rfl rfl ?_) | first | refine bb_cat hcat ?_ | (refine s_indexA (c_indexAddr rfl rfl rfl hlx (by omega) (by omega)) rfl ?_) | (refine s_load rfl rfl ?_; refine ld_elem hx ?_)) | (apply ks_asgn; refine s_asgn rfl rfl ?_) | (apply ks_un; refine s_un (y_un rfl rfl rfl) rfl ?_) | (apply ks_indexA; first | refine s_indexA (c_indexAddr rfl rfl rfl rfl (by omega) (by omega)) rfl ?_ | first | refine bb_cat hcat ?_ | (refine s_indexA (c_indexAddr rfl rfl rfl hlx (by omega) (by omega)) rfl ?_) | (refine s_load rfl rfl ?_; refine ld_elem hx ?_)) | (apply ks_fn; first | first | refine c_callv rfl rfl rfl (cR _) rfl rfl ?_ | refine c_callv rfl rfl rfl (cB _) rfl rfl ?_) | (apply ks_bi; first | first | refine bb_cat hcat ?_ | (refine s_indexA (c_indexAddr rfl rfl rfl hlx (by omega) (by omega)) rfl ?_) | (refine s_load rfl rfl ?_; refine ld_elem hx ?_) | refine s_call (c_len rfl rfl) rfl ?_ | refine s_call (c_len_str rfl rfl) rfl ?_ | refine s_call (c_bi rfl rfl rfl rfl) rfl ?_ | refine c_append rfl rfl rfl rfl (by first | rfl | simp [ints]) (by first | rfl | exact ints_one _ | exact octs_one _ | exact strs_one _) (by omega) rfl rfl (fun _ _ => ?_) | refine c_append_nil rfl rfl rfl rfl (by first | rfl | simp [ints]) (by first | rfl | exact ints_one _ | exact octs_one _ | exact strs_one _) (by omega) rfl rfl (fun _ _ => ?_)) | first | refine bb_cat hcat ?_ | (refine s_indexA (c_indexAddr rfl rfl rfl hlx (by omega) (by omega)) rfl ?_) | (refine s_load rfl rfl ?_; refine ld_elem hx ?_)) | (apply sw_seq) | (apply at_srd) | (apply sw_skip) | (apply sw_ret) | (apply sw_exit) | (apply sw_block) | (apply sw_region) | (refine sw_cd rfl ?_; first | (apply gd_t) | (apply gd_ft) | (apply gd_tf) | (apply gd_dec_t <;> intro hq <;> (try (exfalso; omega))) | (apply gd_dec_f <;> intro hq <;> (try (exfalso; omega))) | (apply gd_beq_t <;> intro hq <;> (try (exfalso; omega))) | (apply gd_beq_f <;> intro hq <;> (try (exfalso; omega))) | (apply gd_bne_t <;> intro hq <;> (try (exfalso; omega))) | (apply gd_bne_f <;> intro hq <;> (try (exfalso; omega))) | (apply gd_not_t <;> intro hq) | (apply gd_not_f <;> intro hq) | (apply gd_raw_t <;> intro hq) | (apply gd_raw_f <;> intro hq)) | (apply at_thn) | (apply at_thn_ret) | (apply at_thn_exit) | (apply at_inb) | (apply at_inb_ret) | (apply at_inb_exit) | refine at_inb_pass rfl ?_ | refine c_drawn (by kernel_rfl) ?_)
      refine at_meet (k + 1) ⟨by omega, by omega⟩ ?_ (fun _ hw => hw.subs (by repeat (first | refine Subs.cons (by repeat constructor) ?_ | exact Subs.sub (by repeat (first | exact List.Sublist.refl _ | exact List.nil_sublist _ | refine List.Sublist.cons _ ?_)))))
      rw [Hs.out, if_neg hr, strOf_app]
      exact (by repeat (first | exact Le.nil _ | refine Le.cons (by first | rfl | (exact congrArg some (congrArg (Value.int _) (by omega)))) ?_))
  · obtain rfl : k = n := by omega
    rw [List.take_of_length_le (by rw [← Hn.out]; exact Nat.le_refl _)]
    repeat' (first | (apply g_sl; first | (apply ks_nil; refine sl_nil ?_) | (apply ks_move; refine s_move rfl rfl ?_) | (apply ks_bin; refine s_bin rfl rfl rfl ?_; first | fail | (first | (apply kb_add; first | refine bb_add ⟨by omega, by omega⟩ ?_ | refine bb_of rfl ?_) | refine bb_of rfl ?_)) | (apply ks_load; first | (refine s_load rfl rfl ?_; first | refine ld_cell rfl ?_ | refine ld_whole rfl ?_ | refine ld_elem rfl ?_ | refine ld_part rfl rfl ?_) | fail) | (apply ks_asgn; refine s_asgn rfl rfl ?_) | (apply ks_un; refine s_un (y_un rfl rfl rfl) rfl ?_) | (apply ks_indexA; first | refine s_indexA (c_indexAddr rfl rfl rfl rfl (by omega) (by omega)) rfl ?_ | fail) | (apply ks_fn; first | fail) | (apply ks_bi; first | fail | refine s_call (c_len rfl rfl) rfl ?_ | refine s_call (c_len_str rfl rfl) rfl ?_ | refine s_call (c_bi rfl rfl rfl rfl) rfl ?_ | refine c_append rfl rfl rfl rfl (by first | rfl | simp [ints]) (by first | rfl | exact ints_one _ | exact octs_one _ | exact strs_one _) (by omega) rfl rfl (fun _ _ => ?_) | refine c_append_nil rfl rfl rfl rfl (by first | rfl | simp [ints]) (by first | rfl | exact ints_one _ | exact octs_one _ | exact strs_one _) (by omega) rfl rfl (fun _ _ => ?_)) | fail) | (apply sw_seq) | (apply at_srd) | (apply sw_skip) | (apply sw_ret) | (apply sw_exit) | (apply sw_block) | (apply sw_region) | (refine sw_cd rfl ?_; first | (apply gd_t) | (apply gd_ft) | (apply gd_tf) | (apply gd_dec_t <;> intro hq <;> (try (exfalso; omega))) | (apply gd_dec_f <;> intro hq <;> (try (exfalso; omega))) | (apply gd_beq_t <;> intro hq <;> (try (exfalso; omega))) | (apply gd_beq_f <;> intro hq <;> (try (exfalso; omega))) | (apply gd_bne_t <;> intro hq <;> (try (exfalso; omega))) | (apply gd_bne_f <;> intro hq <;> (try (exfalso; omega))) | (apply gd_not_t <;> intro hq) | (apply gd_not_f <;> intro hq) | (apply gd_raw_t <;> intro hq) | (apply gd_raw_f <;> intro hq)) | (apply at_thn) | (apply at_thn_ret) | (apply at_thn_exit) | (apply at_inb) | (apply at_inb_ret) | (apply at_inb_exit) | refine at_inb_pass rfl ?_ | refine c_drawn (by kernel_rfl) ?_)
    refine e_sv (by first | exact .inl rfl | exact .inr rfl) rfl (by repeat (first | exact List.Sublist.refl _ | exact List.nil_sublist _ | refine List.Sublist.cons _ ?_)) ?_
    rfl
end Go.Proofs.Ytgcnfcgnkfkpeaa
