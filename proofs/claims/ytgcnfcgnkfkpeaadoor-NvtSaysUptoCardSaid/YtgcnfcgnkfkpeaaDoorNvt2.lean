/- nvt.In, nvt.Out binary; farref.LineOut: walks. -/
import Derived.Test.YtgcnfcgnkfkpeaaDoorNvt
import Derived.Test.YtgcnfcgnkfkpeaaDoorShelf
namespace Go.Proofs.YtgcnfcgnkfkpeaaDoor
open Go Go.RowKit Go.Fw Go.Sx
set_option maxRecDepth 100000
set_option maxHeartbeats 1000000
attribute [local irreducible] SW SL SQ AtQ SV SC BB LD PK Yields SO SOT SOA SY
theorem nvtIn_bin (G : Ctx) (H : List Ent) (cr : Bool) (d : ByteArray) (hd : d.size ≤ 1048577) : SV Tryd.prog G 19 [.bool cr, .string d, .bool true] H (.tuple #[.bool false, .string ((if cr = true then ⟨#[13]⟩ else ⟨#[]⟩) ++ d)]) := by
  have cF := fun H => nvtFlush_sv G H cr
  have h1 : (if cr = true then (⟨#[13]⟩ : ByteArray) else ⟨#[]⟩).size + d.size ≤ 9223372036854775807 := by
    have : (if cr = true then (⟨#[13]⟩ : ByteArray) else ⟨#[]⟩).size ≤ 1 := by split <;> decide
    omega
  generalize (if cr = true then (⟨#[13]⟩ : ByteArray) else ⟨#[]⟩) = f at *
  refine sv_enter3 Tryd.func19 rfl rfl rfl rfl rfl ?_
  repeat' (first | (apply g_sl; first | (apply ks_nil; refine sl_nil ?_) | (apply ks_move; refine s_move rfl rfl ?_) | (apply ks_bin; refine s_bin rfl rfl rfl ?_; first | (refine bb_cat h1 ?_) | (first | (apply kb_add; first | refine bb_add ⟨by omega, by omega⟩ ?_ | refine bb_of rfl ?_) | refine bb_of rfl ?_)) | (apply ks_asgn; refine s_asgn rfl rfl ?_) | (apply ks_conv; first | (refine bb_cat h1 ?_) | refine s_conv (c_conv (k := .i64) rfl rfl ⟨by omega, by omega⟩) rfl ?_ | refine s_conv (c_conv (k := .u8) rfl rfl ⟨by omega, by omega⟩) rfl ?_ | refine s_conv (c_conv (k := .u64) rfl rfl ⟨by omega, by omega⟩) rfl ?_ | refine s_conv (c_convw rfl rfl) rfl ?_) | (apply ks_index; first | (refine bb_cat h1 ?_) | refine s_index (c_indexArr rfl rfl rfl (by omega) (by omega) rfl) rfl ?_ | refine s_index (c_indexArrA rfl rfl rfl (by omega) (by omega) rfl) rfl ?_ | refine s_index (c_indexStr rfl rfl rfl (by omega) rfl) rfl ?_) | (apply ks_fn; first | refine c_callv rfl rfl rfl (cF _) rfl rfl ?_) | (apply ks_bi; first | (refine bb_cat h1 ?_) | refine s_call (c_len rfl rfl) rfl ?_ | refine s_call (c_len_str rfl rfl) rfl ?_ | refine s_call (c_bi rfl rfl rfl rfl) rfl ?_ | refine c_append rfl rfl rfl rfl (by first | rfl | simp [ints]) (by first | rfl | exact ints_one _ | exact octs_one _ | exact strs_one _) (by omega) rfl rfl (fun _ _ => ?_) | refine c_append_nil rfl rfl rfl rfl (by first | rfl | simp [ints]) (by first | rfl | exact ints_one _ | exact octs_one _ | exact strs_one _) (by omega) rfl rfl (fun _ _ => ?_)) | (apply ks_bs; first | refine c_buildSlice rfl rfl rfl rfl rfl rfl rfl rfl rfl rfl (fun _ => ?_) | (refine bb_cat h1 ?_)) | (refine bb_cat h1 ?_)) | (apply sw_seq) | (apply at_srd) | (apply sw_skip) | (apply sw_ret) | (apply sw_exit) | (apply sw_block) | (apply sw_region) | (refine sw_cd rfl ?_; first | (apply gd_t) | (apply gd_ft) | (apply gd_tf) | (apply gd_dec_t <;> intro hq <;> (try (exfalso; omega))) | (apply gd_dec_f <;> intro hq <;> (try (exfalso; omega))) | (apply gd_beq_t <;> intro hq <;> (try (exfalso; omega))) | (apply gd_beq_f <;> intro hq <;> (try (exfalso; omega))) | (apply gd_bne_t <;> intro hq <;> (try (exfalso; omega))) | (apply gd_bne_f <;> intro hq <;> (try (exfalso; omega))) | (apply gd_not_t <;> intro hq) | (apply gd_not_f <;> intro hq) | (apply gd_raw_t <;> intro hq) | (apply gd_raw_f <;> intro hq)) | (apply at_thn) | (apply at_thn_ret) | (apply at_thn_exit) | (apply at_inb) | (apply at_inb_ret) | (apply at_inb_exit) | refine at_inb_pass rfl ?_ | refine c_drawn (by kernel_rfl) ?_)
  all_goals (refine e_sv (by first | exact .inl rfl | exact .inr rfl) rfl (by repeat (first | exact List.Sublist.refl _ | exact List.nil_sublist _ | refine List.Sublist.cons _ ?_)) ?_; rfl)
theorem replAll_sv (G : Ctx) (H : List Ent) (m : Int) (hm : ∀ w, Holds G H w → w.cell? ⟨2, 0, none⟩ = some (.int .i64 m)) (d : ByteArray) (hd : d.size ≤ 4000000) (c : UInt8) (new : List UInt8) (hn : new.length ≤ 2) (hne : [c] ≠ new) : SV Tryd.prog G 49 [.string d, .string ⟨#[c]⟩, .string ⟨new.toArray⟩] H (.string ⟨(d.data.toList.flatMap (fun b => if b = c then new else [b])).toArray⟩) := by
  refine sv_of_calls (callee_of Tryd.func49 rfl rfl) fun w hw => ?_
  have hc : Lib.countB d ⟨#[c]⟩ ≤ d.size := Lib.countB_le ⟨#[c]⟩ (show 1 ≤ 1 from Nat.le_refl _) d.size d (Nat.le_refl _)
  have hns : (⟨new.toArray⟩ : ByteArray).size = new.length := rfl
  have hmul : Lib.countB d ⟨#[c]⟩ * (⟨new.toArray⟩ : ByteArray).size ≤ d.size * 2 := by rw [hns]; exact Nat.mul_le_mul hc hn
  have h := Tryd.strings_ReplaceAll d ⟨#[c]⟩ ⟨new.toArray⟩ m w (by omega) (hm w hw) (show 1 ≤ 1 from Nat.le_refl _) (by omega)
  rw [show (⟨#[c]⟩ : ByteArray).data.toList = [c] from rfl, show (⟨new.toArray⟩ : ByteArray).data.toList = new from List.toList_toArray, replaceAll_one c new _ hne] at h
  exact h
theorem lineOut_bin (G : Ctx) (H : List Ent) (d : ByteArray) : SV Tryd.prog G 22 [.string d, .bool true] H (.string d) := by
  refine sv_enter2 Tryd.func22 rfl rfl rfl rfl rfl ?_
  repeat' (first | (apply g_sl; first | (apply ks_nil; refine sl_nil ?_) | (apply ks_move; refine s_move rfl rfl ?_) | (apply ks_asgn; refine s_asgn rfl rfl ?_) | (apply ks_fn; first | fail) | fail) | (apply sw_seq) | (apply at_srd) | (apply sw_skip) | (apply sw_ret) | (apply sw_exit) | (apply sw_block) | (apply sw_region) | (refine sw_cd rfl ?_; first | (apply gd_t) | (apply gd_ft) | (apply gd_tf) | (apply gd_dec_t <;> intro hq <;> (try (exfalso; omega))) | (apply gd_dec_f <;> intro hq <;> (try (exfalso; omega))) | (apply gd_beq_t <;> intro hq <;> (try (exfalso; omega))) | (apply gd_beq_f <;> intro hq <;> (try (exfalso; omega))) | (apply gd_bne_t <;> intro hq <;> (try (exfalso; omega))) | (apply gd_bne_f <;> intro hq <;> (try (exfalso; omega))) | (apply gd_not_t <;> intro hq) | (apply gd_not_f <;> intro hq) | (apply gd_raw_t <;> intro hq) | (apply gd_raw_f <;> intro hq)) | (apply at_thn) | (apply at_thn_ret) | (apply at_thn_exit) | (apply at_inb) | (apply at_inb_ret) | (apply at_inb_exit) | refine at_inb_pass rfl ?_ | refine c_drawn (by kernel_rfl) ?_)
  all_goals (refine e_sv (by first | exact .inl rfl | exact .inr rfl) rfl (by repeat (first | exact List.Sublist.refl _ | exact List.nil_sublist _ | refine List.Sublist.cons _ ?_)) ?_; rfl)
theorem lineOut_sv (G : Ctx) (H : List Ent) (m : Int) (hm : ∀ w, Holds G H w → w.cell? ⟨2, 0, none⟩ = some (.int .i64 m)) (d : ByteArray) (hd : d.size ≤ 1048576) : SV Tryd.prog G 22 [.string d, .bool false] H (.string ⟨(d.data.toList.flatMap outB).toArray⟩) := by
  have hsz : (⟨(d.data.toList.flatMap (fun b => if b = 13 then [13, 0] else [b])).toArray⟩ : ByteArray).size ≤ 4000000 := by
    show (d.data.toList.flatMap (fun b => if b = 13 then [13, 0] else [b])).toArray.size ≤ 4000000
    rw [List.size_toArray]
    have : ∀ l : List UInt8, (l.flatMap (fun b : UInt8 => if b = 13 then [(13 : UInt8), 0] else [b])).length ≤ 2 * l.length := by
      intro l
      induction l with
      | nil => exact Nat.le_refl _
      | cons b l ih =>
        rw [List.flatMap_cons, List.length_append, List.length_cons]
        have : (if b = 13 then [(13 : UInt8), 0] else [b]).length ≤ 2 := by split; exact Nat.le_refl _; exact Nat.le_succ _
        omega
    have h2 := this d.data.toList
    have h3 : d.data.toList.length = d.size := rfl
    omega
  have c1 := replAll_sv G H m hm d (by omega) 13 [13, 0] (Nat.le_refl _) (by decide)
  have c2 := replAll_sv G H m hm _ hsz 10 [13, 10] (Nat.le_refl _) (by decide)
  rw [show (⟨(d.data.toList.flatMap (fun b => if b = 13 then [13, 0] else [b])).toArray⟩ : ByteArray).data.toList = d.data.toList.flatMap (fun b => if b = 13 then [13, 0] else [b]) from List.toList_toArray, lineOut_plain] at c2
  refine sv_enter2 Tryd.func22 rfl rfl rfl rfl rfl ?_
  repeat' (first | (apply g_sl; first | (apply ks_nil; refine sl_nil ?_) | (apply ks_move; refine s_move rfl rfl ?_) | (apply ks_asgn; refine s_asgn rfl rfl ?_) | (apply ks_fn; first | first | refine c_callv rfl rfl rfl (c1) rfl rfl ?_ | refine c_callv rfl rfl rfl (c2) rfl rfl ?_) | fail) | (apply sw_seq) | (apply at_srd) | (apply sw_skip) | (apply sw_ret) | (apply sw_exit) | (apply sw_block) | (apply sw_region) | (refine sw_cd rfl ?_; first | (apply gd_t) | (apply gd_ft) | (apply gd_tf) | (apply gd_dec_t <;> intro hq <;> (try (exfalso; omega))) | (apply gd_dec_f <;> intro hq <;> (try (exfalso; omega))) | (apply gd_beq_t <;> intro hq <;> (try (exfalso; omega))) | (apply gd_beq_f <;> intro hq <;> (try (exfalso; omega))) | (apply gd_bne_t <;> intro hq <;> (try (exfalso; omega))) | (apply gd_bne_f <;> intro hq <;> (try (exfalso; omega))) | (apply gd_not_t <;> intro hq) | (apply gd_not_f <;> intro hq) | (apply gd_raw_t <;> intro hq) | (apply gd_raw_f <;> intro hq)) | (apply at_thn) | (apply at_thn_ret) | (apply at_thn_exit) | (apply at_inb) | (apply at_inb_ret) | (apply at_inb_exit) | refine at_inb_pass rfl ?_ | refine c_drawn (by kernel_rfl) ?_)
  all_goals (refine e_sv (by first | exact .inl rfl | exact .inr rfl) rfl (by repeat (first | exact List.Sublist.refl _ | exact List.nil_sublist _ | refine List.Sublist.cons _ ?_)) ?_; rfl)
end Go.Proofs.YtgcnfcgnkfkpeaaDoor
