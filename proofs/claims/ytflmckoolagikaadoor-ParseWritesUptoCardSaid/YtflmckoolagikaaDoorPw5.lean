/- Texts of this claim, merged: Utf5 Utf6 Utf7 NumD UtfV ParV SxD ParW ParX ParY Par8. -/
import Derived.Test.YtflmckoolagikaaDoorPw4
import Derived.WalkKit
import Derived.WalkSpells
import Derived.WalkLawsBesides
import Derived.Handy
import Derived.Lib.Hide
import Derived.Laws.BitsAllLaws
import Derived.Deep.MidRow
import Derived.Deep.WholeRow
import Derived.BigQuiet
import Derived.Laws.CopyOwn
import Derived.Deep.QuietTactic
import Derived.Laws.AppendOwnNone
import Derived.Laws.MakeOwn
import Derived.Laws.IdiomStrings
import Derived.OrdersHeld
import Derived.Lib.SliceRun
import Derived.ChangeKeysEq
import Derived.Laws.CopyRow
import Derived.Test.YtflmckoolagikaaDoorRows
import Derived.Shelf.Strings.Builder1
import Derived.Shelf.Strings.Builder2
import Derived.Shelf.Strings.OnBuilder
import Derived.Shelf.Strings.Trim
import Derived.Shelf.Small.Utf8
import Derived.Shelf.Small.Strs
import Derived.Shelf.Strings.BuilderF
import Derived.Shelf.Strconv.Atoi
import Derived.Shelf.Strconv.Itoa0
import Derived.Shelf.Strconv.Itoa1
import Derived.Shelf.LaysM
import Derived.Shelf.Strconv.Itoa2
import Derived.Shelf.Strconv.Itoa3
import Derived.Shelf.Strconv.AtoiErrFast
import Derived.Shelf.Strconv.ParseIntEmpty
import Derived.Shelf.Strconv.AtoiFail
import Derived.Shelf.Strconv.Clone
import Derived.Shelf.Strconv.SyntaxError
import Derived.Shelf.LaysC
import Derived.Shelf.Strconv.ToError
import Derived.Shelf.Strconv.AtoiErr
import Derived.Shelf.Strconv.Lower
import Derived.Shelf.Strconv.ParseUint10
import Derived.Shelf.Strconv.ParseUint10Empty
import Derived.Shelf.Strconv.ParseUint10Any
import Derived.Shelf.Strconv.ParseInt10
import Derived.Shelf.Strconv.AtoiLong
import Derived.Shelf.Strconv.AtoiInnerAll
import Derived.Shelf.Strconv.RangeError
import Derived.Shelf.Strconv.ToErrorRange
import Derived.Shelf.Strconv.AtoiAll
import Derived.Shelf.Strconv.ErrVarAll
import Derived.Shelf.Strings.Search1
import Derived.Shelf.Strings.Search2
import Derived.Shelf.Strings.Search3
import Derived.Shelf.Strings.Count
import Derived.Shelf.Strings.Shaped
import Derived.Shelf.Strings.Prefix
import Derived.Shelf.Strings.Split
import Derived.Shelf.Strings.Replace
import Derived.Shelf.Strings.SplitShaped
import Derived.Shelf.Strings.Runes
import Derived.Shelf.Strings.AsciiSet
import Derived.Shelf.Bits.Mul64
import Derived.Shelf.Strings.Repeat
import Derived.Shelf.Unicode.DecodeSlow
import Derived.Shelf.Unicode.DecodeAny
import Derived.Shelf.Slices.Equal
import Derived.Shelf.Unicode.ValidAny
import Derived.Test.YtflmckoolagikaaDoorProg
import Derived.Lib.Repeat
import Derived.Lib.DecodeN
import Derived.Lib.AppendStr
import Derived.ArgAppend
import Derived.Lib.Replace
import Derived.Lib.Join
import Derived.Lib.IndexLaws
import Derived.Lib.ItoaNum
import Derived.Lib.IndexMore
import Derived.Lib.SplitLaws
import Derived.Lib.AppendIntMem
import Derived.Lib.ValidU
import Derived.Lib.MapLaws
import Derived.Lib.Bytealg
import Derived.Laws.RangeAny
section
namespace Go.Proofs.YtflmckoolagikaaDoor
open Go Go.RowKit Go.Fw Go.Sx
set_option maxRecDepth 100000
set_option maxHeartbeats 1000000
attribute [local irreducible] SW SL SQ AtQ SV SC BB LD PK Yields SO SOT SOA SY
def rep4 (x : ByteArray) : ByteArray := ⟨(Lib.repeatL x.data.toList 4).toArray⟩
theorem nums_rep4 (x : ByteArray) : nums (rep4 x) = nums x ++ (nums x ++ (nums x ++ nums x)) := by
  simp [rep4, nums, Lib.repeatL]
theorem repeat4_sv (G : Ctx) (H : List Ent) (x : ByteArray) (h : x.size ≤ 1000) : SV Tryd.prog G 135 [.string x, .int .i64 4] H (.string (rep4 x)) :=
  sv_of_calls (callee_of Tryd.func135 rfl rfl) fun w _ => Tryd.strings_Repeat x 4 w (by decide) (by omega)
def fillS (j : Nat) : ByteArray := strOfNums (fillsU.getD j [])
theorem fills_at (j : Nat) (h : j < 7) : ([.string ⟨#[128]⟩, .string ⟨#[191]⟩, .string ⟨#[160, 128]⟩, .string ⟨#[144, 128, 128]⟩, .string ⟨#[159, 191]⟩, .string ⟨#[143, 191, 191]⟩, .string ⟨#[160, 191]⟩] : List Value)[(j : Int).toNat * 1]? = some (.string (fillS j)) := by
  rw [Int.toNat_natCast, Nat.mul_one]
  match j, h with
  | 0, _ | 1, _ | 2, _ | 3, _ | 4, _ | 5, _ | 6, _ => rfl
theorem fillS_nums (j : Nat) (h : j < 7) : nums (fillS j) = fillsU.getD j [] ∧ 1 ≤ (fillS j).size ∧ (fillS j).size ≤ 3 ∧ (nums (fillS j)).drop ((fillS j).size - 1) = [(fillsU.getD j []).getLastD 0] := by
  match j, h with
  | 0, _ | 1, _ | 2, _ | 3, _ | 4, _ | 5, _ | 6, _ => exact ⟨by decide +kernel, by decide +kernel, by decide +kernel, by decide +kernel⟩
theorem begU_no {L : List Int} (h : L = [] ∨ ∀ k, L.length < k → k < 5 → (fillsU.any fun f => wfU (fillU L f k)) = false) : begU L = false := by
  unfold begU
  rcases h with h | h
  · rw [decide_eq_false (fun h2 => h2 h), Bool.false_and]
  · have : ((List.range 5).any fun n => decide (L.length < n) && fillsU.any fun f => wfU (fillU L f n)) = false := by
      rw [List.any_eq_false]
      intro n hn
      rw [List.mem_range] at hn
      by_cases hl : L.length < n
      · rw [h n hl hn]; simp
      · rw [decide_eq_false hl]; simp
    rw [this, Bool.and_false]
theorem begU_yes {L : List Int} {m : Nat} (h0 : L ≠ []) (h1 : L.length < m) (h2 : m < 5) (h3 : (fillsU.any fun f => wfU (fillU L f m)) = true) : begU L = true := by
  unfold begU
  rw [decide_eq_true h0, Bool.true_and, List.any_eq_true]
  exact ⟨m, List.mem_range.2 h2, by rw [decide_eq_true h1, h3]; rfl⟩
theorem fill_no {L : List Int} {m : Nat} (h : ∀ i, i < 7 → wfU (fillU L (fillsU.getD i []) m) = false) : (fillsU.any fun f => wfU (fillU L f m)) = false := by
  have h0 := h 0 (by omega)
  have h1 := h 1 (by omega)
  have h2 := h 2 (by omega)
  have h3 := h 3 (by omega)
  have h4 := h 4 (by omega)
  have h5 := h 5 (by omega)
  have h6 := h 6 (by omega)
  simp only [fillsU, List.getD_eq_getElem?_getD] at *
  simp at h0 h1 h2 h3 h4 h5 h6
  simp [h0, h1, h2, h3, h4, h5, h6]
theorem fill_yes {L : List Int} {m j : Nat} (hj : j < 7) (h : wfU (fillU L (fillsU.getD j []) m) = true) : (fillsU.any fun f => wfU (fillU L f m)) = true := by
  rw [List.any_eq_true]
  refine ⟨fillsU.getD j [], ?_, h⟩
  rw [List.getD_eq_getElem?_getD, List.getElem?_eq_getElem (show j < fillsU.length from hj)]
  exact List.getElem_mem _
theorem beginning_sv (G : Ctx) (H : List Ent) (s : ByteArray) (hm : s.size ≤ 9223372036854775806) : SV Tryd.prog G 87 [.string s] H (.bool (begU (nums s))) := by
  have cW := fun H t => whole_sv G H t
  have cR := fun H x hx => repeat4_sv G H x hx
  have hl := nums_length s
  refine sv_enter1 Tryd.func87 rfl rfl rfl rfl rfl ?_
  repeat' (first | (apply g_sl; first | (apply ks_nil; refine sl_nil ?_) | (apply ks_move; refine s_move rfl rfl ?_) | (apply ks_bin; refine s_bin rfl rfl rfl ?_; first | fail | (first | (apply kb_add; first | refine bb_add ⟨by omega, by omega⟩ ?_ | refine bb_of rfl ?_) | (apply kb_sub; first | refine bb_sub ⟨by omega, by omega⟩ ?_ | refine bb_of rfl ?_) | refine bb_of rfl ?_)) | (apply ks_load; first | (refine s_load rfl rfl ?_; first | refine ld_cell rfl ?_ | refine ld_whole rfl ?_ | refine ld_elem rfl ?_ | refine ld_part rfl rfl ?_) | fail) | (apply ks_asgn; refine s_asgn rfl rfl ?_) | (apply ks_pick; refine s_pick rfl rfl ?_; first | (apply kp_t; refine pk_t rfl ?_) | (apply kp_f; refine pk_f rfl ?_) | refine pk_s rfl rfl ?_) | (apply ks_indexA; first | refine s_indexA (c_indexAddr rfl rfl rfl rfl (by omega) (by omega)) rfl ?_ | fail) | (apply ks_fn; first | fail) | (apply ks_bi; first | fail | refine s_call (c_len rfl rfl) rfl ?_ | refine s_call (c_len_str rfl rfl) rfl ?_ | refine s_call (c_bi rfl rfl rfl rfl) rfl ?_ | refine c_append rfl rfl rfl rfl (by first | rfl | simp [ints]) (by first | rfl | exact ints_one _ | exact octs_one _ | exact strs_one _) (by omega) rfl rfl (fun _ _ => ?_) | refine c_append_nil rfl rfl rfl rfl (by first | rfl | simp [ints]) (by first | rfl | exact ints_one _ | exact octs_one _ | exact strs_one _) (by omega) rfl rfl (fun _ _ => ?_)) | (apply ks_bs; first | refine c_buildSlice rfl rfl rfl rfl rfl rfl rfl rfl rfl rfl (fun _ => ?_) | fail) | (apply ks_slice; first | fail | refine s_slice (c_sliceStr rfl rfl rfl rfl (by omega) (by omega) (by omega)) rfl ?_) | (apply ks_guard; first | (refine sl_gd rfl rfl rfl rfl ?_; first | (apply gd_t) | (apply gd_ft) | (apply gd_tf) | (apply gd_dec_t <;> intro hq <;> (try (exfalso; omega))) | (apply gd_dec_f <;> intro hq <;> (try (exfalso; omega))) | (apply gd_beq_t <;> intro hq <;> (try (exfalso; omega))) | (apply gd_beq_f <;> intro hq <;> (try (exfalso; omega))) | (apply gd_bne_t <;> intro hq <;> (try (exfalso; omega))) | (apply gd_bne_f <;> intro hq <;> (try (exfalso; omega))) | (apply gd_not_t <;> intro hq) | (apply gd_not_f <;> intro hq) | (apply gd_raw_t <;> intro hq) | (apply gd_raw_f <;> intro hq)) | refine sl_skip_u rfl rfl rfl rfl rfl rfl ?_) | fail) | (apply sw_seq) | (apply at_srd) | (apply sw_skip) | (apply sw_ret) | (apply sw_exit) | (apply sw_block) | (apply sw_region) | (refine sw_cd rfl ?_; first | (apply gd_t) | (apply gd_ft) | (apply gd_tf) | (apply gd_dec_t <;> intro hq <;> (try (exfalso; omega))) | (apply gd_dec_f <;> intro hq <;> (try (exfalso; omega))) | (apply gd_beq_t <;> intro hq <;> (try (exfalso; omega))) | (apply gd_beq_f <;> intro hq <;> (try (exfalso; omega))) | (apply gd_bne_t <;> intro hq <;> (try (exfalso; omega))) | (apply gd_bne_f <;> intro hq <;> (try (exfalso; omega))) | (apply gd_not_t <;> intro hq) | (apply gd_not_f <;> intro hq) | (apply gd_raw_t <;> intro hq) | (apply gd_raw_f <;> intro hq)) | (apply at_thn) | (apply at_thn_ret) | (apply at_thn_exit) | (apply at_inb) | (apply at_inb_ret) | (apply at_inb_exit) | refine at_inb_pass rfl ?_ | refine c_drawn (by kernel_rfl) ?_)
  refine sw_loopg (α := Nat) (fun m => [(0, .string s), (3, .int .i64 m)]) (fun _ => H)
    (fun m => s.size < m ∧ ∀ k, s.size < k → k < m → k < 5 → (fillsU.any fun f => wfU (fillU (nums s) f k)) = false) (fun m => 5 - m) (s.size + 1) ⟨by omega, fun k h1 h2 _ => by omega⟩ (by repeat (first | exact Le.nil _ | refine Le.cons (by first | rfl | (exact congrArg some (congrArg (Value.int _) (by omega)))) ?_)) (fun _ hw => hw.subs (by repeat (first | refine Subs.cons (by repeat constructor) ?_ | exact Subs.sub (by repeat (first | exact List.Sublist.refl _ | exact List.nil_sublist _ | refine List.Sublist.cons _ ?_))))) ?_
  rintro m ⟨hm1, hm2⟩
  have Hm2 := Lib.hid hm2
  clear hm2
  by_cases h4 : (m : Int) ≤ 4
  · by_cases h0 : s.size = 0
    · have hs := nums_nil h0
      subst hs
      repeat' (first | (apply g_sl; first | (apply ks_nil; refine sl_nil ?_) | (apply ks_move; refine s_move rfl rfl ?_) | (apply ks_bin; refine s_bin rfl rfl rfl ?_; first | first | refine bb_seq ?_ | refine bb_sne ?_ | (first | (apply kb_add; first | refine bb_add ⟨by omega, by omega⟩ ?_ | refine bb_of rfl ?_) | (apply kb_sub; first | refine bb_sub ⟨by omega, by omega⟩ ?_ | refine bb_of rfl ?_) | refine bb_of rfl ?_)) | (apply ks_load; first | (refine s_load rfl rfl ?_; first | refine ld_cell rfl ?_ | refine ld_whole rfl ?_ | refine ld_elem rfl ?_ | refine ld_part rfl rfl ?_) | first | refine bb_seq ?_ | refine bb_sne ?_) | (apply ks_asgn; refine s_asgn rfl rfl ?_) | (apply ks_pick; refine s_pick rfl rfl ?_; first | (apply kp_t; refine pk_t rfl ?_) | (apply kp_f; refine pk_f rfl ?_) | refine pk_s rfl rfl ?_) | (apply ks_indexA; first | refine s_indexA (c_indexAddr rfl rfl rfl rfl (by omega) (by omega)) rfl ?_ | first | refine bb_seq ?_ | refine bb_sne ?_) | (apply ks_fn; first | fail) | (apply ks_bi; first | first | refine bb_seq ?_ | refine bb_sne ?_ | refine s_call (c_len rfl rfl) rfl ?_ | refine s_call (c_len_str rfl rfl) rfl ?_ | refine s_call (c_bi rfl rfl rfl rfl) rfl ?_ | refine c_append rfl rfl rfl rfl (by first | rfl | simp [ints]) (by first | rfl | exact ints_one _ | exact octs_one _ | exact strs_one _) (by omega) rfl rfl (fun _ _ => ?_) | refine c_append_nil rfl rfl rfl rfl (by first | rfl | simp [ints]) (by first | rfl | exact ints_one _ | exact octs_one _ | exact strs_one _) (by omega) rfl rfl (fun _ _ => ?_)) | (apply ks_bs; first | refine c_buildSlice rfl rfl rfl rfl rfl rfl rfl rfl rfl rfl (fun _ => ?_) | first | refine bb_seq ?_ | refine bb_sne ?_) | (apply ks_slice; first | first | refine bb_seq ?_ | refine bb_sne ?_ | refine s_slice (c_sliceStr rfl rfl rfl rfl (by omega) (by omega) (by omega)) rfl ?_) | (apply ks_guard; first | (refine sl_gd rfl rfl rfl rfl ?_; first | (apply gd_t) | (apply gd_ft) | (apply gd_tf) | (apply gd_dec_t <;> intro hq <;> (try (exfalso; omega))) | (apply gd_dec_f <;> intro hq <;> (try (exfalso; omega))) | (apply gd_beq_t <;> intro hq <;> (try (exfalso; omega))) | (apply gd_beq_f <;> intro hq <;> (try (exfalso; omega))) | (apply gd_bne_t <;> intro hq <;> (try (exfalso; omega))) | (apply gd_bne_f <;> intro hq <;> (try (exfalso; omega))) | (apply gd_not_t <;> intro hq) | (apply gd_not_f <;> intro hq) | (apply gd_raw_t <;> intro hq) | (apply gd_raw_f <;> intro hq)) | refine sl_skip_u rfl rfl rfl rfl rfl rfl ?_) | first | refine bb_seq ?_ | refine bb_sne ?_) | (apply sw_seq) | (apply at_srd) | (apply sw_skip) | (apply sw_ret) | (apply sw_exit) | (apply sw_block) | (apply sw_region) | (refine sw_cd rfl ?_; first | (apply gd_t) | (apply gd_ft) | (apply gd_tf) | (apply gd_dec_t <;> intro hq <;> (try (exfalso; omega))) | (apply gd_dec_f <;> intro hq <;> (try (exfalso; omega))) | (apply gd_beq_t <;> intro hq <;> (try (exfalso; omega))) | (apply gd_beq_f <;> intro hq <;> (try (exfalso; omega))) | (apply gd_bne_t <;> intro hq <;> (try (exfalso; omega))) | (apply gd_bne_f <;> intro hq <;> (try (exfalso; omega))) | (apply gd_not_t <;> intro hq) | (apply gd_not_f <;> intro hq) | (apply gd_raw_t <;> intro hq) | (apply gd_raw_f <;> intro hq)) | (apply at_thn) | (apply at_thn_ret) | (apply at_thn_exit) | (apply at_inb) | (apply at_inb_ret) | (apply at_inb_exit) | refine at_inb_pass rfl ?_ | refine c_drawn (by kernel_rfl) ?_)
      all_goals first | (exact absurd rfl (by assumption)) | (exfalso; omega) | (refine e_sv (by first | exact .inl rfl | exact .inr rfl) rfl (by repeat (first | exact List.Sublist.refl _ | exact List.nil_sublist _ | refine List.Sublist.cons _ ?_)) ?_; rfl)
    · have hne : ¬ s = ⟨#[]⟩ := fun h => h0 (by rw [h]; rfl)
      repeat' (first | (apply g_sl; first | (apply ks_nil; refine sl_nil ?_) | (apply ks_move; refine s_move rfl rfl ?_) | (apply ks_bin; refine s_bin rfl rfl rfl ?_; first | first | refine c_buildSlice rfl rfl rfl rfl rfl rfl rfl rfl rfl rfl (fun _ => ?_) | refine bb_seq ?_ | refine bb_sne ?_ | (first | (apply kb_add; first | refine bb_add ⟨by omega, by omega⟩ ?_ | refine bb_of rfl ?_) | (apply kb_sub; first | refine bb_sub ⟨by omega, by omega⟩ ?_ | refine bb_of rfl ?_) | refine bb_of rfl ?_)) | (apply ks_load; first | (refine s_load rfl rfl ?_; first | refine ld_cell rfl ?_ | refine ld_whole rfl ?_ | refine ld_elem rfl ?_ | refine ld_part rfl rfl ?_) | first | refine c_buildSlice rfl rfl rfl rfl rfl rfl rfl rfl rfl rfl (fun _ => ?_) | refine bb_seq ?_ | refine bb_sne ?_) | (apply ks_asgn; refine s_asgn rfl rfl ?_) | (apply ks_pick; refine s_pick rfl rfl ?_; first | (apply kp_t; refine pk_t rfl ?_) | (apply kp_f; refine pk_f rfl ?_) | refine pk_s rfl rfl ?_) | (apply ks_indexA; first | refine s_indexA (c_indexAddr rfl rfl rfl rfl (by omega) (by omega)) rfl ?_ | first | refine c_buildSlice rfl rfl rfl rfl rfl rfl rfl rfl rfl rfl (fun _ => ?_) | refine bb_seq ?_ | refine bb_sne ?_) | (apply ks_fn; first | fail) | (apply ks_bi; first | first | refine c_buildSlice rfl rfl rfl rfl rfl rfl rfl rfl rfl rfl (fun _ => ?_) | refine bb_seq ?_ | refine bb_sne ?_ | refine s_call (c_len rfl rfl) rfl ?_ | refine s_call (c_len_str rfl rfl) rfl ?_ | refine s_call (c_bi rfl rfl rfl rfl) rfl ?_ | refine c_append rfl rfl rfl rfl (by first | rfl | simp [ints]) (by first | rfl | exact ints_one _ | exact octs_one _ | exact strs_one _) (by omega) rfl rfl (fun _ _ => ?_) | refine c_append_nil rfl rfl rfl rfl (by first | rfl | simp [ints]) (by first | rfl | exact ints_one _ | exact octs_one _ | exact strs_one _) (by omega) rfl rfl (fun _ _ => ?_)) | (apply ks_bs; first | refine c_buildSlice rfl rfl rfl rfl rfl rfl rfl rfl rfl rfl (fun _ => ?_) | first | refine c_buildSlice rfl rfl rfl rfl rfl rfl rfl rfl rfl rfl (fun _ => ?_) | refine bb_seq ?_ | refine bb_sne ?_) | (apply ks_slice; first | first | refine c_buildSlice rfl rfl rfl rfl rfl rfl rfl rfl rfl rfl (fun _ => ?_) | refine bb_seq ?_ | refine bb_sne ?_ | refine s_slice (c_sliceStr rfl rfl rfl rfl (by omega) (by omega) (by omega)) rfl ?_) | (apply ks_guard; first | (refine sl_gd rfl rfl rfl rfl ?_; first | (apply gd_t) | (apply gd_ft) | (apply gd_tf) | (apply gd_dec_t <;> intro hq <;> (try (exfalso; omega))) | (apply gd_dec_f <;> intro hq <;> (try (exfalso; omega))) | (apply gd_beq_t <;> intro hq <;> (try (exfalso; omega))) | (apply gd_beq_f <;> intro hq <;> (try (exfalso; omega))) | (apply gd_bne_t <;> intro hq <;> (try (exfalso; omega))) | (apply gd_bne_f <;> intro hq <;> (try (exfalso; omega))) | (apply gd_not_t <;> intro hq) | (apply gd_not_f <;> intro hq) | (apply gd_raw_t <;> intro hq) | (apply gd_raw_f <;> intro hq)) | refine sl_skip_u rfl rfl rfl rfl rfl rfl ?_) | first | refine c_buildSlice rfl rfl rfl rfl rfl rfl rfl rfl rfl rfl (fun _ => ?_) | refine bb_seq ?_ | refine bb_sne ?_) | (apply sw_seq) | (apply at_srd) | (apply sw_skip) | (apply sw_ret) | (apply sw_exit) | (apply sw_block) | (apply sw_region) | (refine sw_cd rfl ?_; first | (apply gd_t) | (apply gd_ft) | (apply gd_tf) | (apply gd_dec_t <;> intro hq <;> (try (exfalso; omega))) | (apply gd_dec_f <;> intro hq <;> (try (exfalso; omega))) | (apply gd_beq_t <;> intro hq <;> (try (exfalso; omega))) | (apply gd_beq_f <;> intro hq <;> (try (exfalso; omega))) | (apply gd_bne_t <;> intro hq <;> (try (exfalso; omega))) | (apply gd_bne_f <;> intro hq <;> (try (exfalso; omega))) | (apply gd_not_t <;> intro hq) | (apply gd_not_f <;> intro hq) | (apply gd_raw_t <;> intro hq) | (apply gd_raw_f <;> intro hq)) | (apply at_thn) | (apply at_thn_ret) | (apply at_thn_exit) | (apply at_inb) | (apply at_inb_ret) | (apply at_inb_exit) | refine at_inb_pass rfl ?_ | refine c_drawn (by kernel_rfl) ?_)
      all_goals first | (exact absurd (of_decide_eq_true (by assumption)) hne) | skip
      rename_i b
      refine sw_loopg (α := Nat) (fun j => [(0, .string s), (3, .int .i64 m), (18, .slice (some ⟨b, 0, none⟩) 7 7), (19, .int .i64 7), (20, .int .i64 j)]) (fun _ => .own 9 1 (some ⟨b, 0, none⟩) 7 7 [.string ⟨#[128]⟩, .string ⟨#[191]⟩, .string ⟨#[160, 128]⟩, .string ⟨#[144, 128, 128]⟩, .string ⟨#[159, 191]⟩, .string ⟨#[143, 191, 191]⟩, .string ⟨#[160, 191]⟩] :: H)
        (fun j => j ≤ 7 ∧ ∀ i, i < j → wfU (fillU (nums s) (fillsU.getD i []) m) = false) (fun j => 7 - j) 0 ⟨Nat.zero_le _, fun i hi => absurd hi (Nat.not_lt_zero _)⟩ (by repeat (first | exact Le.nil _ | refine Le.cons (by first | rfl | (exact congrArg some (congrArg (Value.int _) (by omega)))) ?_)) (fun _ hw => hw.subs (by repeat (first | refine Subs.cons (by repeat constructor) ?_ | exact Subs.sub (by repeat (first | exact List.Sublist.refl _ | exact List.nil_sublist _ | refine List.Sublist.cons _ ?_))))) ?_
      rintro j ⟨hj, hs⟩
      have Hs := Lib.hid hs
      clear hs
      by_cases h7 : (j : Int) < 7
      · have hel := fills_at j (by omega)
        obtain ⟨f1, f2, f3, f4⟩ := fillS_nums j (by omega)
        generalize fillS j = F at *
        have hX : nums (F.extract ((F.size : Int) - 1).toNat ((F.size : Int)).toNat) = [(fillsU.getD j []).getLastD 0] := by
          rw [nums_extract, ← f4, show ((F.size : Int) - 1).toNat = F.size - 1 from by omega, show ((F.size : Int)).toNat = F.size from by omega, f4, List.take_of_length_le (by simp; omega)]
        have hXs : (F.extract ((F.size : Int) - 1).toNat ((F.size : Int)).toNat).size = 1 := by rw [← nums_length, hX]; rfl
        have hR := nums_rep4 (F.extract ((F.size : Int) - 1).toNat ((F.size : Int)).toNat)
        rw [hX] at hR
        have hRs : (rep4 (F.extract ((F.size : Int) - 1).toNat ((F.size : Int)).toNat)).size = 4 := by rw [← nums_length, hR]; rfl
        have hsF : (s ++ F).size = s.size + F.size := by rw [← nums_length, nums_append, List.length_append, nums_length, nums_length]
        have hc1 : s.size + F.size ≤ 9223372036854775807 := by omega
        have hc2 : (s ++ F).size + (rep4 (F.extract ((F.size : Int) - 1).toNat ((F.size : Int)).toNat)).size ≤ 9223372036854775807 := by omega
        have htz : (s ++ F ++ rep4 (F.extract ((F.size : Int) - 1).toNat ((F.size : Int)).toNat)).size = s.size + F.size + 4 := by rw [← nums_length, nums_append, List.length_append, nums_length, nums_length, hsF, hRs]
        have hT : nums ((s ++ F ++ rep4 (F.extract ((F.size : Int) - 1).toNat ((F.size : Int)).toNat)).extract ((0 : Nat) : Int).toNat ((m : Int)).toNat) = fillU (nums s) (fillsU.getD j []) m := by
          rw [nums_extract, nums_append, nums_append, hR, f1]
          unfold fillU
          simp [List.append_assoc, List.replicate_succ]
        have HT := Lib.hid hT
        clear hT
        repeat' (first | (apply g_sl; first | (apply ks_nil; refine sl_nil ?_) | (apply ks_move; refine s_move rfl rfl ?_) | (apply ks_bin; refine s_bin rfl rfl rfl ?_; first | first | refine bb_cat hc1 ?_ | refine bb_cat hc2 ?_ | (refine s_load rfl rfl ?_; refine ld_elem hel ?_) | (first | (apply kb_add; first | refine bb_add ⟨by omega, by omega⟩ ?_ | refine bb_of rfl ?_) | (apply kb_sub; first | refine bb_sub ⟨by omega, by omega⟩ ?_ | refine bb_of rfl ?_) | refine bb_of rfl ?_)) | (apply ks_load; first | (refine s_load rfl rfl ?_; first | refine ld_cell rfl ?_ | refine ld_whole rfl ?_ | refine ld_elem rfl ?_ | refine ld_part rfl rfl ?_) | first | refine bb_cat hc1 ?_ | refine bb_cat hc2 ?_ | (refine s_load rfl rfl ?_; refine ld_elem hel ?_)) | (apply ks_asgn; refine s_asgn rfl rfl ?_) | (apply ks_pick; refine s_pick rfl rfl ?_; first | (apply kp_t; refine pk_t rfl ?_) | (apply kp_f; refine pk_f rfl ?_) | refine pk_s rfl rfl ?_) | (apply ks_indexA; first | refine s_indexA (c_indexAddr rfl rfl rfl rfl (by omega) (by omega)) rfl ?_ | first | refine bb_cat hc1 ?_ | refine bb_cat hc2 ?_ | (refine s_load rfl rfl ?_; refine ld_elem hel ?_)) | (apply ks_fn; first | first | refine c_callv rfl rfl rfl (cW _ _) rfl rfl ?_ | refine c_callv rfl rfl rfl (cR _ _ (by rw [hXs]; omega)) rfl rfl ?_) | (apply ks_bi; first | first | refine bb_cat hc1 ?_ | refine bb_cat hc2 ?_ | (refine s_load rfl rfl ?_; refine ld_elem hel ?_) | refine s_call (c_len rfl rfl) rfl ?_ | refine s_call (c_len_str rfl rfl) rfl ?_ | refine s_call (c_bi rfl rfl rfl rfl) rfl ?_ | refine c_append rfl rfl rfl rfl (by first | rfl | simp [ints]) (by first | rfl | exact ints_one _ | exact octs_one _ | exact strs_one _) (by omega) rfl rfl (fun _ _ => ?_) | refine c_append_nil rfl rfl rfl rfl (by first | rfl | simp [ints]) (by first | rfl | exact ints_one _ | exact octs_one _ | exact strs_one _) (by omega) rfl rfl (fun _ _ => ?_)) | (apply ks_bs; first | refine c_buildSlice rfl rfl rfl rfl rfl rfl rfl rfl rfl rfl (fun _ => ?_) | first | refine bb_cat hc1 ?_ | refine bb_cat hc2 ?_ | (refine s_load rfl rfl ?_; refine ld_elem hel ?_)) | (apply ks_slice; first | first | refine bb_cat hc1 ?_ | refine bb_cat hc2 ?_ | (refine s_load rfl rfl ?_; refine ld_elem hel ?_) | refine s_slice (c_sliceStr rfl rfl rfl rfl (by omega) (by omega) (by omega)) rfl ?_) | (apply ks_guard; first | (refine sl_gd rfl rfl rfl rfl ?_; first | (apply gd_t) | (apply gd_ft) | (apply gd_tf) | (apply gd_dec_t <;> intro hq <;> (try (exfalso; omega))) | (apply gd_dec_f <;> intro hq <;> (try (exfalso; omega))) | (apply gd_beq_t <;> intro hq <;> (try (exfalso; omega))) | (apply gd_beq_f <;> intro hq <;> (try (exfalso; omega))) | (apply gd_bne_t <;> intro hq <;> (try (exfalso; omega))) | (apply gd_bne_f <;> intro hq <;> (try (exfalso; omega))) | (apply gd_not_t <;> intro hq) | (apply gd_not_f <;> intro hq) | (apply gd_raw_t <;> intro hq) | (apply gd_raw_f <;> intro hq)) | refine sl_skip_u rfl rfl rfl rfl rfl rfl ?_) | first | refine bb_cat hc1 ?_ | refine bb_cat hc2 ?_ | (refine s_load rfl rfl ?_; refine ld_elem hel ?_)) | (apply sw_seq) | (apply at_srd) | (apply sw_skip) | (apply sw_ret) | (apply sw_exit) | (apply sw_block) | (apply sw_region) | (refine sw_cd rfl ?_; first | (apply gd_t) | (apply gd_ft) | (apply gd_tf) | (apply gd_dec_t <;> intro hq <;> (try (exfalso; omega))) | (apply gd_dec_f <;> intro hq <;> (try (exfalso; omega))) | (apply gd_beq_t <;> intro hq <;> (try (exfalso; omega))) | (apply gd_beq_f <;> intro hq <;> (try (exfalso; omega))) | (apply gd_bne_t <;> intro hq <;> (try (exfalso; omega))) | (apply gd_bne_f <;> intro hq <;> (try (exfalso; omega))) | (apply gd_not_t <;> intro hq) | (apply gd_not_f <;> intro hq) | (apply gd_raw_t <;> intro hq) | (apply gd_raw_f <;> intro hq)) | (apply at_thn) | (apply at_thn_ret) | (apply at_thn_exit) | (apply at_inb) | (apply at_inb_ret) | (apply at_inb_exit) | refine at_inb_pass rfl ?_ | refine c_drawn (by kernel_rfl) ?_)
        · rw [HT.out] at hq
          have hy := begU_yes (L := nums s) (m := m) (fun h => h0 (by rw [← hl, h]; rfl)) (by omega) (by omega) (fill_yes (by omega) hq)
          rw [hy]
          refine e_sv (by first | exact .inl rfl | exact .inr rfl) rfl (by repeat (first | exact List.Sublist.refl _ | exact List.nil_sublist _ | refine List.Sublist.cons _ ?_)) ?_
          rfl
        · rw [HT.out] at hq
          refine at_meet (j + 1) ⟨⟨by omega, fun i hi => ?_⟩, by omega⟩ (by repeat (first | exact Le.nil _ | refine Le.cons (by first | rfl | (exact congrArg some (congrArg (Value.int _) (by omega)))) ?_)) (fun _ hw => hw.subs (by repeat (first | refine Subs.cons (by repeat constructor) ?_ | exact Subs.sub (by repeat (first | exact List.Sublist.refl _ | exact List.nil_sublist _ | refine List.Sublist.cons _ ?_)))))
          rcases Nat.lt_or_ge i j with h | h
          · exact Hs.out i h
          · obtain rfl : i = j := by omega
            exact hq
      · obtain rfl : j = 7 := by omega
        have hno := fill_no Hs.out
        repeat' (first | (apply g_sl; first | (apply ks_nil; refine sl_nil ?_) | (apply ks_move; refine s_move rfl rfl ?_) | (apply ks_bin; refine s_bin rfl rfl rfl ?_; first | fail | (first | (apply kb_add; first | refine bb_add ⟨by omega, by omega⟩ ?_ | refine bb_of rfl ?_) | (apply kb_sub; first | refine bb_sub ⟨by omega, by omega⟩ ?_ | refine bb_of rfl ?_) | refine bb_of rfl ?_)) | (apply ks_load; first | (refine s_load rfl rfl ?_; first | refine ld_cell rfl ?_ | refine ld_whole rfl ?_ | refine ld_elem rfl ?_ | refine ld_part rfl rfl ?_) | fail) | (apply ks_asgn; refine s_asgn rfl rfl ?_) | (apply ks_pick; refine s_pick rfl rfl ?_; first | (apply kp_t; refine pk_t rfl ?_) | (apply kp_f; refine pk_f rfl ?_) | refine pk_s rfl rfl ?_) | (apply ks_indexA; first | refine s_indexA (c_indexAddr rfl rfl rfl rfl (by omega) (by omega)) rfl ?_ | fail) | (apply ks_fn; first | fail) | (apply ks_bi; first | fail | refine s_call (c_len rfl rfl) rfl ?_ | refine s_call (c_len_str rfl rfl) rfl ?_ | refine s_call (c_bi rfl rfl rfl rfl) rfl ?_ | refine c_append rfl rfl rfl rfl (by first | rfl | simp [ints]) (by first | rfl | exact ints_one _ | exact octs_one _ | exact strs_one _) (by omega) rfl rfl (fun _ _ => ?_) | refine c_append_nil rfl rfl rfl rfl (by first | rfl | simp [ints]) (by first | rfl | exact ints_one _ | exact octs_one _ | exact strs_one _) (by omega) rfl rfl (fun _ _ => ?_)) | (apply ks_bs; first | refine c_buildSlice rfl rfl rfl rfl rfl rfl rfl rfl rfl rfl (fun _ => ?_) | fail) | (apply ks_slice; first | fail | refine s_slice (c_sliceStr rfl rfl rfl rfl (by omega) (by omega) (by omega)) rfl ?_) | (apply ks_guard; first | (refine sl_gd rfl rfl rfl rfl ?_; first | (apply gd_t) | (apply gd_ft) | (apply gd_tf) | (apply gd_dec_t <;> intro hq <;> (try (exfalso; omega))) | (apply gd_dec_f <;> intro hq <;> (try (exfalso; omega))) | (apply gd_beq_t <;> intro hq <;> (try (exfalso; omega))) | (apply gd_beq_f <;> intro hq <;> (try (exfalso; omega))) | (apply gd_bne_t <;> intro hq <;> (try (exfalso; omega))) | (apply gd_bne_f <;> intro hq <;> (try (exfalso; omega))) | (apply gd_not_t <;> intro hq) | (apply gd_not_f <;> intro hq) | (apply gd_raw_t <;> intro hq) | (apply gd_raw_f <;> intro hq)) | refine sl_skip_u rfl rfl rfl rfl rfl rfl ?_) | fail) | (apply sw_seq) | (apply at_srd) | (apply sw_skip) | (apply sw_ret) | (apply sw_exit) | (apply sw_block) | (apply sw_region) | (refine sw_cd rfl ?_; first | (apply gd_t) | (apply gd_ft) | (apply gd_tf) | (apply gd_dec_t <;> intro hq <;> (try (exfalso; omega))) | (apply gd_dec_f <;> intro hq <;> (try (exfalso; omega))) | (apply gd_beq_t <;> intro hq <;> (try (exfalso; omega))) | (apply gd_beq_f <;> intro hq <;> (try (exfalso; omega))) | (apply gd_bne_t <;> intro hq <;> (try (exfalso; omega))) | (apply gd_bne_f <;> intro hq <;> (try (exfalso; omega))) | (apply gd_not_t <;> intro hq) | (apply gd_not_f <;> intro hq) | (apply gd_raw_t <;> intro hq) | (apply gd_raw_f <;> intro hq)) | (apply at_thn) | (apply at_thn_ret) | (apply at_thn_exit) | (apply at_inb) | (apply at_inb_ret) | (apply at_inb_exit) | refine at_inb_pass rfl ?_ | refine c_drawn (by kernel_rfl) ?_)
        refine at_meet (m + 1) ⟨⟨by omega, fun k h1 h2 h3 => ?_⟩, by omega⟩ (by repeat (first | exact Le.nil _ | refine Le.cons (by first | rfl | (exact congrArg some (congrArg (Value.int _) (by omega)))) ?_)) (fun _ hw => hw.subs (by repeat (first | refine Subs.cons (by repeat constructor) ?_ | exact Subs.sub (by repeat (first | exact List.Sublist.refl _ | exact List.nil_sublist _ | refine List.Sublist.cons _ ?_)))))
        rcases Nat.lt_or_ge k m with hk | hk
        · exact Hm2.out k h1 hk h3
        · obtain rfl : k = m := by omega
          exact hno
  · have hno : begU (nums s) = false := begU_no (.inr fun k h1 h2 => Hm2.out k (by omega) (by omega) h2)
    rw [hno]
    repeat' (first | (apply g_sl; first | (apply ks_nil; refine sl_nil ?_) | (apply ks_move; refine s_move rfl rfl ?_) | (apply ks_bin; refine s_bin rfl rfl rfl ?_; first | first | refine c_buildSlice rfl rfl rfl rfl rfl rfl rfl rfl rfl rfl (fun _ => ?_) | refine bb_seq ?_ | refine bb_sne ?_ | (first | (apply kb_add; first | refine bb_add ⟨by omega, by omega⟩ ?_ | refine bb_of rfl ?_) | (apply kb_sub; first | refine bb_sub ⟨by omega, by omega⟩ ?_ | refine bb_of rfl ?_) | refine bb_of rfl ?_)) | (apply ks_load; first | (refine s_load rfl rfl ?_; first | refine ld_cell rfl ?_ | refine ld_whole rfl ?_ | refine ld_elem rfl ?_ | refine ld_part rfl rfl ?_) | first | refine c_buildSlice rfl rfl rfl rfl rfl rfl rfl rfl rfl rfl (fun _ => ?_) | refine bb_seq ?_ | refine bb_sne ?_) | (apply ks_asgn; refine s_asgn rfl rfl ?_) | (apply ks_pick; refine s_pick rfl rfl ?_; first | (apply kp_t; refine pk_t rfl ?_) | (apply kp_f; refine pk_f rfl ?_) | refine pk_s rfl rfl ?_) | (apply ks_indexA; first | refine s_indexA (c_indexAddr rfl rfl rfl rfl (by omega) (by omega)) rfl ?_ | first | refine c_buildSlice rfl rfl rfl rfl rfl rfl rfl rfl rfl rfl (fun _ => ?_) | refine bb_seq ?_ | refine bb_sne ?_) | (apply ks_fn; first | fail) | (apply ks_bi; first | first | refine c_buildSlice rfl rfl rfl rfl rfl rfl rfl rfl rfl rfl (fun _ => ?_) | refine bb_seq ?_ | refine bb_sne ?_ | refine s_call (c_len rfl rfl) rfl ?_ | refine s_call (c_len_str rfl rfl) rfl ?_ | refine s_call (c_bi rfl rfl rfl rfl) rfl ?_ | refine c_append rfl rfl rfl rfl (by first | rfl | simp [ints]) (by first | rfl | exact ints_one _ | exact octs_one _ | exact strs_one _) (by omega) rfl rfl (fun _ _ => ?_) | refine c_append_nil rfl rfl rfl rfl (by first | rfl | simp [ints]) (by first | rfl | exact ints_one _ | exact octs_one _ | exact strs_one _) (by omega) rfl rfl (fun _ _ => ?_)) | (apply ks_bs; first | refine c_buildSlice rfl rfl rfl rfl rfl rfl rfl rfl rfl rfl (fun _ => ?_) | first | refine c_buildSlice rfl rfl rfl rfl rfl rfl rfl rfl rfl rfl (fun _ => ?_) | refine bb_seq ?_ | refine bb_sne ?_) | (apply ks_slice; first | first | refine c_buildSlice rfl rfl rfl rfl rfl rfl rfl rfl rfl rfl (fun _ => ?_) | refine bb_seq ?_ | refine bb_sne ?_ | refine s_slice (c_sliceStr rfl rfl rfl rfl (by omega) (by omega) (by omega)) rfl ?_) | (apply ks_guard; first | (refine sl_gd rfl rfl rfl rfl ?_; first | (apply gd_t) | (apply gd_ft) | (apply gd_tf) | (apply gd_dec_t <;> intro hq <;> (try (exfalso; omega))) | (apply gd_dec_f <;> intro hq <;> (try (exfalso; omega))) | (apply gd_beq_t <;> intro hq <;> (try (exfalso; omega))) | (apply gd_beq_f <;> intro hq <;> (try (exfalso; omega))) | (apply gd_bne_t <;> intro hq <;> (try (exfalso; omega))) | (apply gd_bne_f <;> intro hq <;> (try (exfalso; omega))) | (apply gd_not_t <;> intro hq) | (apply gd_not_f <;> intro hq) | (apply gd_raw_t <;> intro hq) | (apply gd_raw_f <;> intro hq)) | refine sl_skip_u rfl rfl rfl rfl rfl rfl ?_) | first | refine c_buildSlice rfl rfl rfl rfl rfl rfl rfl rfl rfl rfl (fun _ => ?_) | refine bb_seq ?_ | refine bb_sne ?_) | (apply sw_seq) | (apply at_srd) | (apply sw_skip) | (apply sw_ret) | (apply sw_exit) | (apply sw_block) | (apply sw_region) | (refine sw_cd rfl ?_; first | (apply gd_t) | (apply gd_ft) | (apply gd_tf) | (apply gd_dec_t <;> intro hq <;> (try (exfalso; omega))) | (apply gd_dec_f <;> intro hq <;> (try (exfalso; omega))) | (apply gd_beq_t <;> intro hq <;> (try (exfalso; omega))) | (apply gd_beq_f <;> intro hq <;> (try (exfalso; omega))) | (apply gd_bne_t <;> intro hq <;> (try (exfalso; omega))) | (apply gd_bne_f <;> intro hq <;> (try (exfalso; omega))) | (apply gd_not_t <;> intro hq) | (apply gd_not_f <;> intro hq) | (apply gd_raw_t <;> intro hq) | (apply gd_raw_f <;> intro hq)) | (apply at_thn) | (apply at_thn_ret) | (apply at_thn_exit) | (apply at_inb) | (apply at_inb_ret) | (apply at_inb_exit) | refine at_inb_pass rfl ?_ | refine c_drawn (by kernel_rfl) ?_)
    refine e_sv (by first | exact .inl rfl | exact .inr rfl) rfl (by repeat (first | exact List.Sublist.refl _ | exact List.nil_sublist _ | refine List.Sublist.cons _ ?_)) ?_
    rfl
end Go.Proofs.YtflmckoolagikaaDoor
end
section
namespace Go.Proofs.YtflmckoolagikaaDoor
open Go Go.RowKit Go.Fw Go.Sx
theorem get_nums (s : ByteArray) (k : Nat) (h : k < s.size) : (((s.get! k).toNat : Nat) : Int) = (nums s).getD k 0 := by
  have h2 : k < s.data.size := h
  have e : s.get! k = s.data[k] := by
    cases s with
    | mk d => exact getElem!_pos d k h2
  rw [e]
  unfold nums
  rw [List.getD_eq_getElem?_getD, List.getElem?_map, Array.getElem?_toList, Array.getElem?_eq_getElem h2]
  rfl
theorem beg_take (L : List Int) (h : (longU L).2 = false) (k : Nat) (h1 : 1 ≤ k) (h2 : k ≤ L.length) (h3 : k ≤ 3) : begU (L.take k) = decide ((k : Int) ≤ (longU L).1) := by
  refine Bool.eq_iff_iff.2 ?_
  rw [begU_iff _ (fun e => by have := congrArg List.length e; rw [List.length_take, List.length_nil] at this; omega), decide_eq_true_eq]
  unfold partU
  have hk : k = 1 ∨ k = 2 ∨ k = 3 := by omega
  match L, h2 with
  | [], h2 => simp at h2; omega
  | [a], h2 =>
    obtain rfl : k = 1 := by simp at h2; omega
    rcases needU_ways a with ⟨h1, h2, hn⟩ | ⟨h1, hn⟩ | ⟨h1, hn⟩ | ⟨h1, h2, h3, hn⟩ | ⟨h1, hn⟩ | ⟨h1, hn⟩ | ⟨h1, h2, hn⟩ | ⟨h1, hn⟩ <;> simp [longU, hn] at h ⊢
  | [a, b], h2 =>
    have hk : k = 1 ∨ k = 2 := by simp at h2; omega
    rcases hk with rfl | rfl <;> rcases needU_ways a with ⟨h1, h2, hn⟩ | ⟨h1, hn⟩ | ⟨h1, hn⟩ | ⟨h1, h2, h3, hn⟩ | ⟨h1, hn⟩ | ⟨h1, hn⟩ | ⟨h1, h2, hn⟩ | ⟨h1, hn⟩ <;> simp [longU, hn] at h ⊢ <;> (try split) <;> simp_all <;> omega
  | a :: b :: c :: r, h2 =>
    rcases hk with rfl | rfl | rfl <;> rcases needU_ways a with ⟨h1, h2, hn⟩ | ⟨h1, hn⟩ | ⟨h1, hn⟩ | ⟨h1, h2, h3, hn⟩ | ⟨h1, hn⟩ | ⟨h1, hn⟩ | ⟨h1, h2, hn⟩ | ⟨h1, hn⟩ <;> simp [longU, hn] at h ⊢ <;> (repeat' split) <;> simp_all <;> omega
theorem wf_t1 {L : List Int} (h : 1 ≤ L.length) : wfU (L.take 1) = decide (0 ≤ L.getD 0 0 ∧ L.getD 0 0 < 128) := by
  match L, h with
  | a :: r, _ => rfl
theorem wf_t2 {L : List Int} (h : 2 ≤ L.length) : wfU (L.take 2) = decide (194 ≤ L.getD 0 0 ∧ L.getD 0 0 ≤ 223 ∧ 128 ≤ L.getD 1 0 ∧ L.getD 1 0 ≤ 191) := by
  match L, h with
  | a :: b :: r, _ => rfl
theorem wf_t3 {L : List Int} (h : 3 ≤ L.length) : wfU (L.take 3) = decide (224 ≤ L.getD 0 0 ∧ L.getD 0 0 ≤ 239 ∧ 128 ≤ L.getD 1 0 ∧ L.getD 1 0 ≤ 191 ∧ 128 ≤ L.getD 2 0 ∧ L.getD 2 0 ≤ 191 ∧ (L.getD 0 0 = 224 → 160 ≤ L.getD 1 0) ∧ (L.getD 0 0 = 237 → L.getD 1 0 ≤ 159)) := by
  match L, h with
  | a :: b :: c :: r, _ => rfl
theorem wf_t4 {L : List Int} (h : 4 ≤ L.length) : wfU (L.take 4) = decide (240 ≤ L.getD 0 0 ∧ L.getD 0 0 ≤ 244 ∧ 128 ≤ L.getD 1 0 ∧ L.getD 1 0 ≤ 191 ∧ 128 ≤ L.getD 2 0 ∧ L.getD 2 0 ≤ 191 ∧ 128 ≤ L.getD 3 0 ∧ L.getD 3 0 ≤ 191 ∧ (L.getD 0 0 = 240 → 144 ≤ L.getD 1 0) ∧ (L.getD 0 0 = 244 → L.getD 1 0 ≤ 143)) := by
  match L, h with
  | a :: b :: c :: d :: r, _ => rfl
theorem wf_low (L : List Int) (h00 : 0 ≤ L.getD 0 0) (h0 : L.getD 0 0 < 128) (k : Nat) (h1 : 1 ≤ k) (h2 : k ≤ L.length) (h4 : k ≤ 4) : wfU (L.take k) = decide (k = 1) := by
  have hk : k = 1 ∨ k = 2 ∨ k = 3 ∨ k = 4 := by omega
  rcases hk with rfl | rfl | rfl | rfl
  · rw [wf_t1 h2]; exact decide_eq_true ⟨h00, h0⟩
  · rw [wf_t2 h2]; exact decide_eq_false (by omega)
  · rw [wf_t3 h2]; exact decide_eq_false (by omega)
  · rw [wf_t4 h2]; exact decide_eq_false (by omega)
theorem wf_high (L : List Int) (h0 : ¬ L.getD 0 0 < 128) (k : Nat) (h1 : 1 ≤ k) (h2 : k ≤ L.length) (h4 : k ≤ 4) : wfU (L.take k) = ((longU L).2 && decide ((k : Int) = (longU L).1)) := by
  have hk : k = 1 ∨ k = 2 ∨ k = 3 ∨ k = 4 := by omega
  unfold longU
  generalize hn0 : needU (L.getD 0 0) = nu
  have hw := needU_ways (L.getD 0 0)
  rw [hn0] at hw
  refine Bool.eq_iff_iff.2 ?_
  rcases hk with rfl | rfl | rfl | rfl
  · rw [wf_t1 h2, decide_eq_true_eq]
    generalize L.getD 0 0 = a at *
    generalize L.getD 1 0 = b at *
    generalize L.getD 2 0 = c at *
    generalize L.getD 3 0 = d at *
    rcases hw with ⟨h1, h2, hn⟩ | ⟨h1, hn⟩ | ⟨h1, hn⟩ | ⟨h1, h2, h3, hn⟩ | ⟨h1, hn⟩ | ⟨h1, hn⟩ | ⟨h1, h2, hn⟩ | ⟨h1, hn⟩ <;> subst hn <;> simp only at * <;> (repeat' split) <;> first | (simp; done) | (simp; omega) | omega | (simp_all; done) | (simp_all; omega)
  · rw [wf_t2 h2, decide_eq_true_eq]
    generalize L.getD 0 0 = a at *
    generalize L.getD 1 0 = b at *
    generalize L.getD 2 0 = c at *
    generalize L.getD 3 0 = d at *
    rcases hw with ⟨h1, h2, hn⟩ | ⟨h1, hn⟩ | ⟨h1, hn⟩ | ⟨h1, h2, h3, hn⟩ | ⟨h1, hn⟩ | ⟨h1, hn⟩ | ⟨h1, h2, hn⟩ | ⟨h1, hn⟩ <;> subst hn <;> simp only at * <;> (repeat' split) <;> first | (simp; done) | (simp; omega) | omega | (simp_all; done) | (simp_all; omega)
  · rw [wf_t3 h2, decide_eq_true_eq]
    generalize L.getD 0 0 = a at *
    generalize L.getD 1 0 = b at *
    generalize L.getD 2 0 = c at *
    generalize L.getD 3 0 = d at *
    rcases hw with ⟨h1, h2, hn⟩ | ⟨h1, hn⟩ | ⟨h1, hn⟩ | ⟨h1, h2, h3, hn⟩ | ⟨h1, hn⟩ | ⟨h1, hn⟩ | ⟨h1, h2, hn⟩ | ⟨h1, hn⟩ <;> subst hn <;> simp only at * <;> (repeat' split) <;> first | (simp; done) | (simp; omega) | omega | (simp_all; done) | (simp_all; omega)
  · rw [wf_t4 h2, decide_eq_true_eq]
    generalize L.getD 0 0 = a at *
    generalize L.getD 1 0 = b at *
    generalize L.getD 2 0 = c at *
    generalize L.getD 3 0 = d at *
    rcases hw with ⟨h1, h2, hn⟩ | ⟨h1, hn⟩ | ⟨h1, hn⟩ | ⟨h1, h2, h3, hn⟩ | ⟨h1, hn⟩ | ⟨h1, hn⟩ | ⟨h1, h2, hn⟩ | ⟨h1, hn⟩ <;> subst hn <;> simp only at * <;> (repeat' split) <;> first | (simp; done) | (simp; omega) | omega | (simp_all; done) | (simp_all; omega)
theorem long_bound (L : List Int) (h : L ≠ []) : 0 ≤ (longU L).1 ∧ (longU L).1 ≤ 4 ∧ (longU L).1 ≤ L.length ∧ ((longU L).2 = true → 2 ≤ (longU L).1) ∧ ((longU L).2 = false → (longU L).1 ≤ 3) := by
  have hl : 1 ≤ L.length := by cases L; exact absurd rfl h; simp
  unfold longU
  split
  · simp
  · split
    · simp; omega
    · rename_i _ h2
      have h2 := Classical.not_not.1 h2
      split
      · simp; omega
      · rename_i h3
        have h3 := Classical.not_not.1 h3
        split
        · simp; omega
        · rename_i h4
          have h4 := Classical.not_not.1 h4
          simp; omega
end Go.Proofs.YtflmckoolagikaaDoor
end
section
namespace Go.Proofs.YtflmckoolagikaaDoor
open Go Go.RowKit Go.Fw Go.Sx
set_option maxRecDepth 100000
set_option maxHeartbeats 1000000
/-- What the front of a text says: a number and how many bytes; nothing: more is wanted. -/
def stepU (L : List Int) : Option (Int × Nat) :=
  if L.getD 0 0 < 128 then some (L.getD 0 0, 1)
  else if (longU L).2 = true then some (valU (L.take (longU L).1.toNat), (longU L).1.toNat)
  else if 0 < (longU L).1 ∧ (longU L).1 = L.length then none
  else some (65533, (max (longU L).1 1).toNat)
def runU : Nat → List Int → List Int × List Int
  | 0, l => (l, [])
  | m + 1, l => if l = [] then ([], []) else match stepU l with
    | none => (l, [])
    | some p => ((runU m (l.drop p.2)).1, p.1 :: (runU m (l.drop p.2)).2)
theorem run_nil (m : Nat) : runU m [] = ([], []) := by cases m <;> simp [runU]
theorem run_none (m : Nat) {l : List Int} (h : l ≠ []) (h2 : stepU l = none) : runU m l = (l, []) := by
  cases m with
  | zero => rfl
  | succ m => rw [runU, if_neg h, h2]
theorem run_some {m : Nat} {l : List Int} {e : Int} {n : Nat} (hm : 0 < m) (h : l ≠ []) (h2 : stepU l = some (e, n)) : runU m l = ((runU (m - 1) (l.drop n)).1, e :: (runU (m - 1) (l.drop n)).2) := by
  obtain ⟨k, rfl⟩ : ∃ k, m = k + 1 := ⟨m - 1, by omega⟩
  rw [runU, if_neg h, h2]; rfl
theorem nums_drop (r : ByteArray) (k : Nat) : nums (r.extract k r.size) = (nums r).drop k := by
  rw [nums_extract, ← nums_length, List.take_of_length_le (by simp)]
attribute [local irreducible] SW SL SQ AtQ SV SC BB LD PK Yields SO SOT SOA SY
end Go.Proofs.YtflmckoolagikaaDoor
end
section
namespace Go.Proofs.YtflmckoolagikaaDoor
open Go Go.RowKit Go.Fw Go.Sx
set_option maxRecDepth 100000
set_option maxHeartbeats 2000000
def natsI (l : List UInt8) : List Int := l.map fun u => (u.toNat : Int)
theorem nums_natsI (s : ByteArray) : nums s = natsI s.data.toList := rfl
theorem natsI_app (a b : List UInt8) : natsI (a ++ b) = natsI a ++ natsI b := List.map_append
theorem dec_dig : ∀ (n : Nat), ∀ u ∈ Lib.decDigits n, 48 ≤ u.toNat ∧ u.toNat ≤ 57 := by
  intro n
  induction n using Nat.strongRecOn with
  | _ n ih =>
    intro u hu
    rw [Lib.decDigits] at hu
    have hof : ∀ k, k < 10 → (UInt8.ofNat (48 + k)).toNat = 48 + k := fun k hk => by
      rw [UInt8.toNat_ofNat']
      omega
    split at hu
    · rename_i h
      rw [List.mem_singleton] at hu
      rw [hu, hof n h]
      omega
    · rename_i h
      rcases List.mem_append.1 hu with hu | hu
      · exact ih (n / 10) (by omega) u hu
      · rw [List.mem_singleton] at hu
        rw [hu, hof (n % 10) (by omega)]
        omega
/-- The digits, as numbers. -/
def digI (n : Nat) : List Int := natsI (Lib.decDigits n)
theorem digI_eq (n : Nat) : digI n = if n < 10 then [48 + (n : Int)] else digI (n / 10) ++ [48 + ((n % 10 : Nat) : Int)] := by
  have hof : ∀ k, k < 10 → natsI [UInt8.ofNat (48 + k)] = [48 + (k : Int)] := fun k hk => by
    unfold natsI
    rw [List.map_cons, List.map_nil, UInt8.toNat_ofNat']
    congr 1
    omega
  unfold digI
  rw [Lib.decDigits]
  split
  · rename_i h
    rw [hof n h]
  · rw [natsI_app, hof (n % 10) (by omega)]
theorem numA_dec : ∀ (n : Nat), n ≤ 16383 → numA (digI n) = n := by
  intro n
  induction n using Nat.strongRecOn with
  | _ n ih =>
    intro hn
    rw [digI_eq]
    split
    · rename_i h
      unfold numA
      rw [List.foldl_cons, List.foldl_nil]
      unfold stepA
      omega
    · rename_i h
      rw [numA_snoc, ih (n / 10) (by omega) (by omega)]
      unfold stepA
      omega
end Go.Proofs.YtflmckoolagikaaDoor
end
section
namespace Go.Proofs.YtflmckoolagikaaDoor
open Go Go.RowKit Go.Fw Go.Sx
set_option maxRecDepth 100000
set_option maxHeartbeats 2000000
/-- The front of a text is a rune's bytes. -/
theorem runeL_ways {x : Int} (h : isR x) :
    ((0 ≤ x ∧ x < 128) ∧ runeL x = [x]) ∨ ((128 ≤ x ∧ x < 2048) ∧ runeL x = [192 + x / 64, 128 + x % 64]) ∨ ((2048 ≤ x ∧ x < 65536 ∧ ¬ (55296 ≤ x ∧ x ≤ 57343)) ∧ runeL x = [224 + x / 4096, 128 + x / 64 % 64, 128 + x % 64]) ∨ ((65536 ≤ x ∧ x ≤ 1114111) ∧ runeL x = [240 + x / 262144, 128 + x / 4096 % 64, 128 + x / 64 % 64, 128 + x % 64]) := by
  unfold isR at h
  unfold runeL
  by_cases h1 : x < 128
  · exact .inl ⟨by omega, if_pos h1⟩
  by_cases h2 : x < 2048
  · exact .inr (.inl ⟨by omega, by rw [if_neg h1, if_pos h2]⟩)
  by_cases h3 : x < 65536
  · exact .inr (.inr (.inl ⟨by omega, by rw [if_neg h1, if_neg h2, if_pos h3]⟩))
  · exact .inr (.inr (.inr ⟨by omega, by rw [if_neg h1, if_neg h2, if_neg h3]⟩))
theorem fixR_isR {x : Int} (h : isR x) : fixR x = x := by rw [fixR_eq, if_pos h]
theorem runeL_pos (x : Int) : 1 ≤ (runeL x).length := by unfold runeL; split <;> (try split) <;> (try split) <;> simp
theorem wf_rune {x : Int} (h : isR x) : wfU (runeL x) = true := by
  rcases runeL_ways h with ⟨h, e⟩ | ⟨h, e⟩ | ⟨h, e⟩ | ⟨h, e⟩ <;> rw [e] <;> simp only [wfU, decide_eq_true_eq] <;> omega
theorem val_rune {x : Int} (h : isR x) (h2 : ¬ x < 128) : valU (runeL x) = x := by
  rcases runeL_ways h with ⟨h, e⟩ | ⟨h, e⟩ | ⟨h, e⟩ | ⟨h, e⟩
  · omega
  all_goals
    rw [e]
    simp only [valU]
    omega
theorem head_rune {x : Int} (h : isR x) (B : List Int) : (x < 128 → (runeL x ++ B).getD 0 0 = x) ∧ (¬ x < 128 → ¬ (runeL x ++ B).getD 0 0 < 128) := by
  rcases runeL_ways h with ⟨h, e⟩ | ⟨h, e⟩ | ⟨h, e⟩ | ⟨h, e⟩ <;> rw [e] <;> simp <;> omega
theorem step_rune {x : Int} (h : isR x) (B : List Int) : stepU (runeL x ++ B) = some (x, (runeL x).length) := by
  obtain ⟨h1, h2⟩ := head_rune h B
  unfold stepU
  by_cases hx : x < 128
  · rw [if_pos (by rw [h1 hx]; exact hx), h1 hx]
    rcases runeL_ways h with ⟨h, e⟩ | ⟨h, e⟩ | ⟨h, e⟩ | ⟨h, e⟩
    · rw [e]; rfl
    all_goals omega
  · rw [if_neg (h2 hx)]
    have hw := wf_high (runeL x ++ B) (h2 hx) (runeL x).length (runeL_pos x) (by rw [List.length_append]; omega) (runeL_len x)
    rw [List.take_left', wf_rune h] at hw
    · have hw2 := Bool.and_eq_true_iff.1 hw.symm
      have h3 := of_decide_eq_true hw2.2
      rw [if_pos hw2.1, ← h3, Int.toNat_natCast, List.take_left', val_rune h hx]
      rfl
    · rfl
/-- What is encoded is read again. -/
theorem run_enc : ∀ (R : List Int) (m : Nat), (∀ x ∈ R, isR x) → (encL R).length ≤ m → runU m (encL R) = ([], R)
  | [], m, _, _ => run_nil m
  | x :: R, m, hR, hm => by
    have hx := hR x List.mem_cons_self
    have hp := runeL_pos x
    rw [encL_cons, fixR_isR hx] at hm ⊢
    rw [List.length_append] at hm
    rw [run_some (by omega) (fun e => by rw [List.append_eq_nil_iff] at e; rw [e.1] at hp; simp at hp) (step_rune hx (encL R)), List.drop_left', run_enc R (m - 1) (fun y hy => hR y (List.mem_cons_of_mem _ hy)) (by omega)]
    rfl
theorem enc_byte (R : List Int) : ∀ x ∈ encL R, 0 ≤ x ∧ x ≤ 255 := by
  intro x hx
  unfold encL at hx
  obtain ⟨c, _, hc⟩ := List.mem_flatMap.1 hx
  have := runeL_byte (fixR c) (by unfold fixR; split <;> omega) (by unfold fixR; split <;> omega) x hc
  omega
theorem nums_enc (R : List Int) : nums (strOfNums (encL R)) = encL R := nums_strOf (enc_byte R)
/-- The runes of a text. -/
def runT (t : ByteArray) : List Int := (runU t.size (nums t)).2
theorem runT_enc {R : List Int} (h : ∀ x ∈ R, isR x) : runT (strOfNums (encL R)) = R := by
  unfold runT
  rw [nums_enc, run_enc R _ h (by rw [strOfNums_size]; exact Nat.le_refl _)]
/-- The model's own reading of a rune. -/
theorem decode_rune (s : ByteArray) (pos : Nat) (x : Int) (B : List Int) (hx : isR x) (h : (nums s).drop pos = runeL x ++ B) : Utf8.decode s pos = (x.toNat, (runeL x).length) := by
  have hl := nums_length s
  have hsz : (runeL x).length + B.length = s.size - pos := by rw [← List.length_append, ← h, List.length_drop, hl]
  have hg : ∀ k, k < (runeL x).length → (((s.get! (pos + k)).toNat : Nat) : Int) = (runeL x).getD k 0 := fun k hk => by
    rw [get_nums s (pos + k) (by omega)]
    have e : ((nums s).drop pos)[k]? = (nums s)[pos + k]? := List.getElem?_drop
    rw [h, List.getElem?_append_left hk] at e
    rw [List.getD_eq_getElem?_getD, List.getD_eq_getElem?_getD, ← e]
  rw [Lib.decode_at]
  have g0 := hg 0
  have g1 := hg 1
  have g2 := hg 2
  have g3 := hg 3
  rw [Nat.add_zero] at g0
  clear hg h
  generalize (s.get! pos).toNat = x0 at *
  generalize (s.get! (pos + 1)).toNat = x1 at *
  generalize (s.get! (pos + 2)).toNat = x2 at *
  generalize (s.get! (pos + 3)).toNat = x3 at *
  generalize s.size - pos = N at *
  rcases runeL_ways hx with ⟨h, e⟩ | ⟨h, e⟩ | ⟨h, e⟩ | ⟨h, e⟩
  all_goals
    rw [e] at g0 g1 g2 g3 hsz ⊢
    simp at g0 g1 g2 g3 hsz ⊢
    unfold Lib.decodeN
    repeat' split
    all_goals first | (exfalso; omega) | (apply Prod.ext <;> simp only <;> omega)
theorem encZ_rune {x : Int} (h : isR x) : Lib.encodeRuneZ x = runeL x := by
  have h0 := h
  unfold isR at h0
  unfold Lib.encodeRuneZ
  rcases runeL_ways h with ⟨h, e⟩ | ⟨h, e⟩ | ⟨h, e⟩ | ⟨h, e⟩ <;> rw [e]
  · rw [if_pos (by omega)]
  · rw [if_neg (by omega), if_pos (by omega)]
  · rw [if_neg (by omega), if_neg (by omega), if_pos (by omega)]
  · rw [if_neg (by omega), if_neg (by omega), if_neg (by omega), if_pos (by omega)]
theorem encR_rune {x : Int} (h : isR x) : natsI (Lib.encodeRune x) = runeL x := by
  unfold Lib.encodeRune natsI
  rw [encZ_rune h, List.map_map]
  conv => rhs; rw [← List.map_id (runeL x)]
  refine List.map_congr_left fun y hy => ?_
  have h2 := h
  unfold isR at h2
  have hb := runeL_byte x (by omega) (by omega) y hy
  show ((y.toNat.toUInt8.toNat : Nat) : Int) = y
  rw [show y.toNat.toUInt8.toNat = y.toNat % 256 from rfl]
  omega
theorem dec_isR (l : List UInt8) : isR ((Lib.decodeL l).1 : Int) := by
  rw [Lib.decodeL_N]
  have k0 := (l.getD 0 0).toNat_lt
  unfold isR
  rcases Lib.decodeN_shape l.length (l.getD 0 0).toNat (l.getD 1 0).toNat (l.getD 2 0).toNat (l.getD 3 0).toNat with ⟨c, e⟩ | ⟨c1, c2, c3, cv, e⟩ | ⟨c1, c2, c3, c4, cv, cs, e⟩ | ⟨c1, c2, c3, c4, c5, cv, cw, e⟩ | e <;> rw [e] <;> dsimp only <;> omega
theorem validL_iff : ∀ (n : Nat) (l : List UInt8), l.length ≤ n → (Lib.validGoD n l = true ↔ ∃ R, (∀ x ∈ R, isR x) ∧ natsI l = encL R)
  | 0, l, hl => by
    obtain rfl := List.eq_nil_of_length_eq_zero (Nat.le_zero.1 hl)
    exact ⟨fun _ => ⟨[], fun _ h => (nomatch h), rfl⟩, fun _ => rfl⟩
  | n + 1, l, hl => by
    unfold Lib.validGoD
    by_cases h0 : l = []
    · rw [if_pos h0, h0]
      exact ⟨fun _ => ⟨[], fun _ h => (nomatch h), rfl⟩, fun _ => rfl⟩
    rw [if_neg h0]
    have hw := Lib.decodeL_width l
    have hd : (l.drop (Lib.decodeL l).2).length ≤ n := by rw [List.length_drop]; have := List.length_pos_iff.2 h0; omega
    have ih := validL_iff n _ hd
    constructor
    · intro h
      by_cases hb : (Lib.decodeL l).1 = 65533 ∧ (Lib.decodeL l).2 = 1
      · rw [if_pos hb] at h; cases h
      rw [if_neg hb] at h
      obtain ⟨R, h1, h2⟩ := ih.1 h
      have hi := dec_isR l
      have he := Lib.encode_decode l h0 hb
      refine ⟨((Lib.decodeL l).1 : Int) :: R, fun x hx => ?_, ?_⟩
      · rcases List.mem_cons.1 hx with rfl | hx
        · exact hi
        · exact h1 x hx
      · rw [encL_cons, fixR_isR hi, ← encR_rune hi, ← h2, he]
        unfold natsI
        rw [← List.map_append, List.take_append_drop]
    · rintro ⟨R, h1, h2⟩
      cases R with
      | nil => exact absurd (List.map_eq_nil_iff.1 h2) h0
      | cons x R =>
        have hx := h1 x List.mem_cons_self
        rw [encL_cons, fixR_isR hx] at h2
        have hdec : Lib.decodeL l = (x.toNat, (runeL x).length) := decode_rune ⟨l.toArray⟩ 0 x (encL R) hx (by rw [List.drop_zero]; unfold nums; rw [List.toList_toArray]; exact h2)
        have hb : ¬ ((Lib.decodeL l).1 = 65533 ∧ (Lib.decodeL l).2 = 1) := by
          rw [hdec]
          dsimp only
          rcases runeL_ways hx with ⟨h, e⟩ | ⟨h, e⟩ | ⟨h, e⟩ | ⟨h, e⟩ <;> rw [e] <;> simp <;> omega
        rw [if_neg hb, ih]
        refine ⟨R, fun y hy => h1 y (List.mem_cons_of_mem _ hy), ?_⟩
        rw [hdec]
        dsimp only
        unfold natsI at h2 ⊢
        rw [List.map_drop, h2, List.drop_left']
        rfl
/-- What is valid are the bytes of runes. -/
theorem valid_iff (s : ByteArray) : Lib.validD s.data.toList = true ↔ ∃ R, (∀ x ∈ R, isR x) ∧ s = strOfNums (encL R) := by
  unfold Lib.validD
  rw [validL_iff _ _ (Nat.le_refl _)]
  constructor
  · rintro ⟨R, h1, h2⟩
    exact ⟨R, h1, by rw [← h2, ← nums_natsI, strOf_nums]⟩
  · rintro ⟨R, h1, h2⟩
    exact ⟨R, h1, by rw [← nums_natsI, h2, nums_enc]⟩
end Go.Proofs.YtflmckoolagikaaDoor
end
section
namespace Go.Proofs.YtflmckoolagikaaDoor
open Go Go.RowKit Go.Fw Go.Sx
set_option maxRecDepth 100000
set_option maxHeartbeats 2000000
theorem argS_data (n : Int) : (argS n).data.toList = if n < 0 then [] else Lib.decDigits n.toNat := by
  unfold argS
  split
  · rfl
  · rfl
theorem argS_num (n : Int) (h : -1 ≤ n ∧ n ≤ 16383) : numA (nums (argS n)) = n := by
  rw [nums_natsI, argS_data]
  split
  · obtain rfl : n = -1 := by omega
    rfl
  · rw [show natsI (Lib.decDigits n.toNat) = digI n.toNat from rfl, numA_dec _ (by omega)]
    omega
theorem argS_dig (n : Int) : ∀ u ∈ (argS n).data.toList, 48 ≤ u.toNat ∧ u.toNat ≤ 57 := by
  rw [argS_data]
  split
  · exact fun _ h => nomatch h
  · exact dec_dig _
theorem words_join (c : UInt8) : ∀ (W : List (List UInt8)) (x : List UInt8), (∀ w ∈ x :: W, ¬ c ∈ w) → wordsA c [] (Lib.join (x :: W) [c]) = x :: W
  | [], x, h => by rw [Lib.join_one, wordsA_no c x [] (h x List.mem_cons_self)]; rfl
  | y :: W, x, h => by
    have ih := words_join c W y (fun w hw => h w (List.mem_cons_of_mem _ hw))
    rw [Lib.join_cons] at ih ⊢
    show wordsA c [] (x ++ ((([c] ++ y) :: W.map ([c] ++ ·)).flatten)) = _
    rw [List.flatten_cons]
    show wordsA c [] (x ++ c :: (y ++ Lib.joinTail [c] W)) = _
    rw [wordsA_split c x _ [] (h x List.mem_cons_self), ih]
    rfl
theorem mem_join (sep : List UInt8) : ∀ (W : List (List UInt8)) (u : UInt8), u ∈ Lib.join W sep → u ∈ sep ∨ ∃ w ∈ W, u ∈ w
  | [], u, h => nomatch h
  | x :: W, u, h => by
    rw [Lib.join_cons] at h
    rcases List.mem_append.1 h with h | h
    · exact .inr ⟨x, List.mem_cons_self, h⟩
    · unfold Lib.joinTail at h
      obtain ⟨l, hl, hu⟩ := List.mem_flatten.1 h
      obtain ⟨w, hw, rfl⟩ := List.mem_map.1 hl
      rcases List.mem_append.1 hu with hu | hu
      · exact .inl hu
      · exact .inr ⟨w, List.mem_cons_of_mem _ hw, hu⟩
/-- The numbers of a text that was written. -/
theorem readA_text (L : List Int) (h0 : L ≠ []) (hL : ∀ n ∈ L, -1 ≤ n ∧ n ≤ 16383) (hl : L.length ≤ 32) : (∀ x ∈ nums (textA L), okA x = true) ∧ readA (textA L) = (L, 0) := by
  have hd : (textA L).data.toList = Lib.join (L.map fun n => (argS n).data.toList) [59] := by
    unfold textA joinS
    rw [List.toList_toArray, List.map_map]
    rfl
  have hok : ∀ x ∈ nums (textA L), okA x = true := fun x hx => by
    rw [nums_natsI, hd] at hx
    obtain ⟨u, hu, rfl⟩ := List.mem_map.1 hx
    unfold okA
    rw [decide_eq_true_eq]
    rcases mem_join _ _ u hu with hu | ⟨w, hw, hu⟩
    · rw [List.mem_singleton] at hu
      subst hu
      exact .inr rfl
    · obtain ⟨n, _, rfl⟩ := List.mem_map.1 hw
      have := argS_dig n u hu
      omega
  refine ⟨hok, ?_⟩
  unfold readA
  rw [if_pos (List.all_eq_true.2 hok)]
  have hw : wordsB 59 (textA L) = L.map argS := by
    unfold wordsB
    rw [hd]
    cases L with
    | nil => exact absurd rfl h0
    | cons n L =>
      rw [List.map_cons, words_join 59 _ _ (fun w hw => by
        rw [← List.map_cons (f := fun n => (argS n).data.toList)] at hw
        obtain ⟨k, _, rfl⟩ := List.mem_map.1 hw
        intro h
        have := argS_dig k 59 h
        exact absurd this.2 (by decide)), ← List.map_cons (f := fun n => (argS n).data.toList), List.map_map]
      exact List.map_congr_left fun n _ => by
        show baL (argS n).data.toList = _
        unfold baL
        cases argS n
        rfl
  rw [hw, List.take_of_length_le (by rw [List.length_map]; exact hl), List.map_map]
  congr 1
  conv => rhs; rw [← List.map_id L]
  exact List.map_congr_left fun n hn => argS_num n (hL n hn)
theorem writeA_ok {L : List Int} (h : (writeA L).2 = 0) : (writeA L).1 = textA L ∧ L ≠ [] ∧ (∀ n ∈ L, -1 ≤ n ∧ n ≤ 16383) ∧ L.length ≤ 32 := by
  unfold writeA at h ⊢
  by_cases h1 : L = [] ∨ L.any badA = true
  · rw [if_pos h1] at h; exact absurd h (by decide)
  rw [if_neg h1] at h ⊢
  by_cases h2 : 32 < L.length
  · rw [if_pos h2] at h; exact absurd h (by decide)
  rw [if_neg h2]
  refine ⟨rfl, fun e => h1 (.inl e), fun n hn => ?_, by omega⟩
  refine Classical.byContradiction fun hb => h1 (.inr (List.any_eq_true.2 ⟨n, hn, ?_⟩))
  unfold badA
  rw [Bool.or_eq_true, decide_eq_true_eq, decide_eq_true_eq]
  omega
/-- The acts that can be written. -/
def goodW (y : Pa) : Prop := goodE y ∧ y ≠ dP ∧ (y.1 = 1 → isR y.2.1) ∧ (y.1 = 4 → (writeA y.2.2.2.2.1).2 = 0 ∧ (writeA y.2.2.2.2.1).1.size ≤ 100)
def csiW (y : Pa) : List Int := 27 :: 91 :: ((if y.2.2.1 ≠ 0 then [y.2.2.1] else []) ++ (nums ((writeA y.2.2.2.2.1).1 ++ y.2.2.2.1) ++ [y.2.1]))
def runesW (y : Pa) : List Int :=
  if y.1 = 1 ∨ y.1 = 2 then [y.2.1] else if y.1 = 3 then 27 :: (nums y.2.2.2.1 ++ [y.2.1]) else if y.1 = 4 then csiW y else if y.1 = 5 then 27 :: 93 :: (runT y.2.2.2.2.2 ++ [7]) else []
/-- The document's list, ahead of its check. -/
def listW (y : Pa) : Option (List Int) := if y.1 = 4 ∧ ((writeA y.2.2.2.2.1).2 ≠ 0 ∨ 100 < (writeA y.2.2.2.2.1).1.size) then none else some (runesW y)
def chkW (y : Pa) (l : List Int) : Prop := l ≠ [] ∧ runP (sP 0) l = (sP 0, [y]) ∧ ∀ x ∈ l, isR x
theorem isR_byte {x : Int} (h : 0 ≤ x ∧ x ≤ 255) : isR x := by unfold isR; omega
theorem nums_isR (s : ByteArray) : ∀ x ∈ nums s, isR x := fun x hx => by
  unfold nums at hx
  obtain ⟨u, _, rfl⟩ := List.mem_map.1 hx
  have := u.toNat_lt
  exact isR_byte (by omega)
/-- What can be written, is. -/
theorem good_chk {y : Pa} (h : goodW y) : listW y = some (runesW y) ∧ chkW y (runesW y) := by
  obtain ⟨h1, h2, h3, h4⟩ := h
  rcases h1 with ⟨c, rfl, hc⟩ | ⟨c, rfl, hc⟩ | ⟨c, i, rfl, hc1, hc2, hc3, hi⟩ | ⟨c, m, i, L, rfl, hc1, hc2, hm, hi⟩ | ⟨t, rfl, ht⟩ | h1
  · refine ⟨if_neg (fun e => absurd (show (1 : Int) = 4 from e.1) (by decide)), fun e => absurd e (by rw [show runesW (1, c, 0, e0, [], e0) = [c] from rfl]; exact List.cons_ne_nil _ _), Tells.one (e_print c hc), fun x hx => ?_⟩
    rw [show runesW (1, c, 0, e0, [], e0) = [c] from rfl, List.mem_singleton] at hx
    rw [hx]
    exact h3 rfl
  · refine ⟨if_neg (fun e => absurd (show (2 : Int) = 4 from e.1) (by decide)), fun e => absurd e (by rw [show runesW (2, c, 0, e0, [], e0) = [c] from rfl]; exact List.cons_ne_nil _ _), Tells.one (e_ctrl c hc), fun x hx => ?_⟩
    rw [show runesW (2, c, 0, e0, [], e0) = [c] from rfl, List.mem_singleton] at hx
    rw [hx]
    exact isR_byte (by omega)
  · have e1 : runesW (3, c, 0, i, [], e0) = 27 :: (nums i ++ [c]) := rfl
    refine ⟨if_neg (fun e => absurd (show (3 : Int) = 4 from e.1) (by decide)), ?_, ?_, fun x hx => ?_⟩
    · rw [e1]; exact List.cons_ne_nil _ _
    · rw [e1]; exact tells_esc c i ⟨hc1, hc2⟩ hc3 hi
    · rw [e1] at hx
      rcases List.mem_cons.1 hx with rfl | hx
      · exact isR_byte (by omega)
      · rcases List.mem_append.1 hx with hx | hx
        · exact nums_isR i x hx
        · rw [List.mem_singleton] at hx; exact isR_byte (by omega)
  · obtain ⟨ha, hz⟩ := h4 rfl
    dsimp only at ha hz
    obtain ⟨hw, w1, w2, w3⟩ := writeA_ok ha
    obtain ⟨r1, r2⟩ := readA_text L w1 w2 w3
    have e1 : runesW (4, c, m, i, L, e0) = 27 :: 91 :: ((if m ≠ 0 then [m] else []) ++ (nums (textA L ++ i) ++ [c])) := by
      show csiW _ = _
      unfold csiW
      dsimp only
      rw [hw]
    refine ⟨if_neg (fun e => e.2.elim (fun h => h ha) (fun h => absurd hz (by dsimp only at h; omega))), ?_, ?_, fun x hx => ?_⟩
    · rw [e1]; exact List.cons_ne_nil _ _
    · rw [e1]
      have := tells_csi c m i (textA L) ⟨hc1, hc2⟩ hm hi r1 (by rw [← hw]; exact hz)
      rw [r2] at this
      exact this
    · rw [e1] at hx
      rcases List.mem_cons.1 hx with rfl | hx
      · exact isR_byte (by omega)
      rcases List.mem_cons.1 hx with rfl | hx
      · exact isR_byte (by omega)
      rcases List.mem_append.1 hx with hx | hx
      · split at hx
        · rw [List.mem_singleton] at hx; exact isR_byte (by omega)
        · exact nomatch hx
      · rcases List.mem_append.1 hx with hx | hx
        · exact nums_isR _ x hx
        · rw [List.mem_singleton] at hx; exact isR_byte (by omega)
  · obtain ⟨hz, R, hR, rfl⟩ := ht
    have hRr : ∀ x ∈ R, isR x := fun x hx => (hR x hx).1
    have e1 : runesW (5, 0, 0, e0, [], strOfNums (encL R)) = 27 :: 93 :: (R ++ [7]) := by
      show 27 :: 93 :: (runT (strOfNums (encL R)) ++ [7]) = _
      rw [runT_enc hRr]
    refine ⟨if_neg (fun e => absurd (show (5 : Int) = 4 from e.1) (by decide)), ?_, ?_, fun x hx => ?_⟩
    · rw [e1]; exact List.cons_ne_nil _ _
    · rw [e1]; exact tells_osc R hR (by rw [← strOfNums_size]; exact hz)
    · rw [e1] at hx
      rcases List.mem_cons.1 hx with rfl | hx
      · exact isR_byte (by omega)
      rcases List.mem_cons.1 hx with rfl | hx
      · exact isR_byte (by omega)
      rcases List.mem_append.1 hx with hx | hx
      · exact hRr x hx
      · rw [List.mem_singleton] at hx; exact isR_byte (by omega)
  · exact absurd h1 h2
/-- And nothing else. -/
theorem chk_good {y : Pa} {l : List Int} (h : listW y = some l) (hc : chkW y l) : goodW y := by
  have hg := (runP_gs (sP 0) l (ok_sP 0 (by omega) (by omega) (by omega)) okT_e0).2.1 y (by rw [hc.2.1]; exact List.mem_cons_self)
  unfold listW at h
  by_cases h4 : y.1 = 4 ∧ ((writeA y.2.2.2.2.1).2 ≠ 0 ∨ 100 < (writeA y.2.2.2.2.1).1.size)
  · rw [if_pos h4] at h; cases h
  rw [if_neg h4, Option.some.injEq] at h
  subst h
  refine ⟨hg, fun e => hc.1 (by rw [e]; rfl), fun e => hc.2.2 _ ?_, fun e => ?_⟩
  · unfold runesW
    rw [if_pos (.inl e)]
    exact List.mem_cons_self
  · refine ⟨Classical.byContradiction fun h => h4 ⟨e, .inl h⟩, Classical.byContradiction fun h => h4 ⟨e, .inr (by omega)⟩⟩
end Go.Proofs.YtflmckoolagikaaDoor
end
section
namespace Go.Sx
open Go Go.RowKit Go.Fw
/-- A thing that is no cells is changed. -/
theorem Holds.setObj {G : Ctx} {H : List Ent} {w : World} {b : Nat} {o : Obj} (h : Holds G (.obj b o :: H) w) (o' : Obj) : Holds G (.obj b o' :: H) { w with heap := w.heap.setIfInBounds b o' } := by
  obtain ⟨hB, hb⟩ : G.B ≤ b ∧ w.heap[b]? = some o := h.ok _ List.mem_cons_self
  obtain ⟨hap, hapH⟩ := List.pairwise_cons.1 h.apart
  have hlt : b < w.heap.size := row_lt hb
  have ho : ∀ k, k ≠ b → (w.heap.setIfInBounds b o')[k]? = w.heap[k]? := fun k hk => by
    rw [Array.getElem?_setIfInBounds, if_neg (fun e => hk e.symm)]
  have hn : (w.heap.setIfInBounds b o')[b]? = some o' := by
    rw [Array.getElem?_setIfInBounds, if_pos rfl, if_pos hlt]
  refine ⟨h.below.trans ⟨rfl, rfl, rfl, Nat.le_of_eq (by simp), fun k hk => ho k (by omega)⟩, by simpa using h.base, fun x hx => ?_, List.pairwise_cons.2 ⟨fun y hy k hk => hap y hy k hk, hapH⟩⟩
  rcases List.mem_cons.1 hx with rfl | hx
  · exact ⟨hB, hn⟩
  · exact Ent.ok_of (h.ok x (List.mem_cons_of_mem _ hx)) fun k hk => ho k (fun e => hap x hx b rfl (e ▸ hk))
section
variable {P : Program} {G : Ctx} {n : Nat} {ops : Array Oper} {Q : Post} {s : Fm} {H : List Ent} {o : Oper} {rest : List Oper}
theorem c_rangeStr {t d : Nat} {x : Operand} {b : ByteArray} (hg : o.guard = none) (ho : o.op = .range t x) [hs : StrT P t] (hx : ev s x = some (.string b)) (h1 : o.dst = some d) (h2 : Nat.blt d n = true)
    (hk : ∀ r, SL P G n ops Q rest ((d, .pointer (some ⟨r, 0, none⟩)) :: s) (.obj r (.stringIter b 0) :: H)) : SL P G n ops Q (o :: rest) s H := by
  have hd := okd (n := n) h1 h2
  simp only [← updd h1] at hk
  refine sl_op (.inl hg) fun act w ha hw K hK => ?_
  have hrun := run_range_string (P := P) w t b hs.here
  unfold Oper.wp execOp
  simp only [ho, ha.ev hx, Sem.run_bind, hrun, Result.andThen_ok]
  refine hK _ _ (hk _ _ _ (ha.put _ _ hd) (hw.obj (o := .stringIter b 0) (by simp [World.iter, World.alloc, -World.alloc_eq]) (by simp [World.iter, World.alloc, -World.alloc_eq]) (fun k hk => ?_) rfl rfl rfl))
  exact Below.heap_alloc w _ k hk
theorem c_nextStr {d r pos : Nat} {x : Operand} {b : ByteArray} {H' : List Ent} (hg : o.guard = none) (ho : o.op = .next x true) (hx : ev s x = some (.pointer (some ⟨r, 0, none⟩))) [hp : PickObj H r (.stringIter b pos) H'] (h1 : o.dst = some d) (h2 : Nat.blt d n = true)
    (hy : pos < b.size → SL P G n ops Q rest ((d, .tuple #[.bool true, .int .i64 pos, .int .i32 (Utf8.decode b pos).1]) :: s) (.obj r (.stringIter b (pos + (Utf8.decode b pos).2)) :: H'))
    (hn : ¬ pos < b.size → SL P G n ops Q rest ((d, .tuple #[.bool false]) :: s) (.obj r (.stringIter b pos) :: H')) : SL P G n ops Q (o :: rest) s H := by
  have hd := okd (n := n) h1 h2
  simp only [← updd h1] at hy hn
  refine sl_op (.inl hg) fun act w ha hw K hK => ?_
  have hw1 := hw.pick hp.here
  have hb : w.heap[r]? = some (.stringIter b pos) := (hw1.ok _ List.mem_cons_self).2
  unfold Oper.wp execOp
  simp only [ho, ha.ev hx]
  by_cases h : pos < b.size
  · have hrun : (Instr.next (.pointer (some ⟨r, 0, none⟩)) true o.type).run P w = .ok (.tuple #[.bool true, .int .i64 pos, .int .i32 (Utf8.decode b pos).1]) { w with heap := w.heap.setIfInBounds r (.stringIter b (pos + (Utf8.decode b pos).2)) } := by
      simp [Instr.next, getObj, setObj, Sem.run_bind, Sem.run, hb, Result.andThen, h, goInt]
    simp only [Sem.run_bind, hrun, Result.andThen_ok]
    exact hK _ _ (hy h _ _ (ha.put _ _ hd) (hw1.setObj _))
  · have hrun : (Instr.next (.pointer (some ⟨r, 0, none⟩)) true o.type).run P w = .ok (.tuple #[.bool false]) w := by
      simp [Instr.next, getObj, Sem.run_bind, Sem.run, hb, Result.andThen, h]
    simp only [Sem.run_bind, hrun, Result.andThen_ok]
    exact hK _ _ (hn h _ _ (ha.put _ _ hd) hw1)
/-- The next rune, by what it is. -/
theorem c_nextV {d r pos pos' cn wd : Nat} {x : Operand} {b : ByteArray} {H' : List Ent} {v : Int} (hg : o.guard = none) (ho : o.op = .next x true) (hx : ev s x = some (.pointer (some ⟨r, 0, none⟩))) [hp : PickObj H r (.stringIter b pos) H'] (h1 : o.dst = some d) (h2 : Nat.blt d n = true)
    (hlt : pos < b.size) (hd : Utf8.decode b pos = (cn, wd)) (hv : (cn : Int) = v) (hq : pos + wd = pos')
    (hy : SL P G n ops Q rest ((d, .tuple #[.bool true, .int .i64 pos, .int .i32 v]) :: s) (.obj r (.stringIter b pos') :: H')) : SL P G n ops Q (o :: rest) s H :=
  c_nextStr (pos := pos) hg ho hx h1 h2 (fun _ => by rw [hd]; dsimp only; rw [hv, hq]; exact hy) (fun h => absurd hlt h)
theorem c_nextE {d r pos : Nat} {x : Operand} {b : ByteArray} {H' : List Ent} (hg : o.guard = none) (ho : o.op = .next x true) (hx : ev s x = some (.pointer (some ⟨r, 0, none⟩))) [hp : PickObj H r (.stringIter b pos) H'] (h1 : o.dst = some d) (h2 : Nat.blt d n = true)
    (hlt : ¬ pos < b.size) (hn : SL P G n ops Q rest ((d, .tuple #[.bool false]) :: s) (.obj r (.stringIter b pos) :: H')) : SL P G n ops Q (o :: rest) s H :=
  c_nextStr (pos := pos) hg ho hx h1 h2 (fun h => absurd h hlt) (fun _ => hn)
end
end Go.Sx
end
section
namespace Go.Proofs.YtflmckoolagikaaDoor
open Go Go.RowKit Go.Fw Go.Sx
set_option maxRecDepth 100000
set_option maxHeartbeats 2000000
theorem enc_split {R : List Int} {k : Nat} {x : Int} (h : R[k]? = some x) (hR : ∀ y ∈ R, isR y) : encL R = encL (R.take k) ++ (runeL x ++ encL (R.drop (k + 1))) ∧ encL (R.take (k + 1)) = encL (R.take k) ++ runeL x := by
  have hx : isR x := hR x (List.mem_of_getElem? h)
  have e1 : R.take (k + 1) = R.take k ++ [x] := by rw [List.take_add_one, h]; rfl
  have e2 : encL (R.take (k + 1)) = encL (R.take k) ++ runeL x := by rw [e1, encL_snoc, fixR_isR hx]
  refine ⟨?_, e2⟩
  conv => lhs; rw [← List.take_append_drop (k + 1) R]
  rw [← List.append_assoc, ← e2]
  unfold encL
  rw [List.flatMap_append]
theorem okT_uniq {R : List Int} (hR : ∀ x ∈ R, isR x) (h : okT (strOfNums (encL R))) : ∀ x ∈ R, cpR x := by
  obtain ⟨_, R', h1, h2⟩ := h
  have e : R = R' := by rw [← runT_enc hR, h2, runT_enc (fun x hx => (h1 x hx).1)]
  rw [e]
  exact h1
attribute [local irreducible] SW SL SQ AtQ SV SC BB LD PK Yields SO SOT SOA SY
theorem validS_sv (G : Ctx) (H : List Ent) (hT : ∀ H w, Holds G H w → Lib.Utf8Tabs 0 1 w) (s : ByteArray) (hs : s.size ≤ 9223372036854775807) : SV Tryd.prog G 84 [.string s] H (.bool (Lib.validD s.data.toList)) :=
  sv_of_calls (callee_of Tryd.func84 rfl rfl) fun w hw => Tryd.utf8_ValidString s w hs (hT _ w hw)
theorem title_sv (G : Ctx) (H : List Ent) (hT : ∀ H w, Holds G H w → Lib.Utf8Tabs 0 1 w) (s : ByteArray) (hs : s.size ≤ 2000000) (B : Bool) (hB : B = true ↔ okT s) : SV Tryd.prog G 38 [.string s] H (.bool B) := by
  have cV := fun H => validS_sv G H hT s (by omega)
  have cW := fun H n l h => pWithin_sv G H n l h
  clear hT
  by_cases hz : s.size ≤ 256
  · by_cases hv : Lib.validD s.data.toList = true
    · rw [hv] at cV
      obtain ⟨R, hR, rfl⟩ := (valid_iff s).1 hv
      have hn := nums_enc R
      generalize hS : strOfNums (encL R) = s at *
      clear hv
      have hlen : (encL R).length = s.size := by rw [← hS, strOfNums_size]
      have hstep : ∀ k x, R[k]? = some x → Utf8.decode s (encL (R.take k)).length = (x.toNat, (runeL x).length) ∧ (encL (R.take k)).length < s.size ∧ (encL (R.take k)).length + (runeL x).length = (encL (R.take (k + 1))).length ∧ isR x := fun k x hx => by
        obtain ⟨e1, e2⟩ := enc_split hx hR
        have hxr : isR x := hR x (List.mem_of_getElem? hx)
        refine ⟨decode_rune s _ x (encL (R.drop (k + 1))) hxr ?_, ?_, ?_, hxr⟩
        · rw [hn, e1, List.drop_left']; rfl
        · rw [← hlen, e1, List.length_append, List.length_append]; have := runeL_pos x; omega
        · rw [e2, List.length_append]
      have hall : okT s → ∀ x ∈ R, cpR x := fun h => okT_uniq hR (by rw [hS]; exact h)
      have hback : (∀ x ∈ R, cpR x) → okT s := fun h => ⟨hz, R, h, hS.symm⟩
      have Hstep := Lib.hid hstep
      have Hall := Lib.hid hall
      have Hback := Lib.hid hback
      have HB := Lib.hid hB
      have Hlen := Lib.hid hlen
      clear hstep hall hback hB hlen hn hS hR
      refine sv_enter1 Tryd.func38 rfl rfl rfl rfl rfl ?_
      repeat' (first | (apply g_sl; first | (apply ks_nil; refine sl_nil ?_) | (apply ks_move; refine s_move rfl rfl ?_) | (apply ks_bin; refine s_bin rfl rfl rfl ?_; first | (refine c_rangeStr rfl rfl rfl rfl rfl (fun _ => ?_)) | (first | refine bb_of rfl ?_)) | (apply ks_asgn; refine s_asgn rfl rfl ?_) | (apply ks_pick; refine s_pick rfl rfl ?_; first | (apply kp_t; refine pk_t rfl ?_) | (apply kp_f; refine pk_f rfl ?_) | refine pk_s rfl rfl ?_) | (apply ks_un; refine s_un (y_un rfl rfl rfl) rfl ?_) | (apply ks_extr; refine s_extr (y_extract rfl rfl rfl) rfl ?_) | (apply ks_conv; first | (refine c_rangeStr rfl rfl rfl rfl rfl (fun _ => ?_)) | refine s_conv (c_conv (k := .i64) rfl rfl ⟨by omega, by omega⟩) rfl ?_ | refine s_conv (c_conv (k := .u8) rfl rfl ⟨by omega, by omega⟩) rfl ?_ | refine s_conv (c_conv (k := .u64) rfl rfl ⟨by omega, by omega⟩) rfl ?_ | refine s_conv (c_convw rfl rfl) rfl ?_) | (apply ks_fn; first | refine c_callv rfl rfl rfl (cV _) rfl rfl ?_) | (apply ks_bi; first | (refine c_rangeStr rfl rfl rfl rfl rfl (fun _ => ?_)) | refine s_call (c_len rfl rfl) rfl ?_ | refine s_call (c_len_str rfl rfl) rfl ?_ | refine s_call (c_bi rfl rfl rfl rfl) rfl ?_ | refine c_append rfl rfl rfl rfl (by first | rfl | simp [ints]) (by first | rfl | exact ints_one _ | exact octs_one _ | exact strs_one _) (by omega) rfl rfl (fun _ _ => ?_) | refine c_append_nil rfl rfl rfl rfl (by first | rfl | simp [ints]) (by first | rfl | exact ints_one _ | exact octs_one _ | exact strs_one _) (by omega) rfl rfl (fun _ _ => ?_)) | (apply ks_guard; first | (refine sl_gd rfl rfl rfl rfl ?_; first | (apply gd_t) | (apply gd_ft) | (apply gd_tf) | (apply gd_dec_t <;> intro hq <;> (try (exfalso; omega))) | (apply gd_dec_f <;> intro hq <;> (try (exfalso; omega))) | (apply gd_beq_t <;> intro hq <;> (try (exfalso; omega))) | (apply gd_beq_f <;> intro hq <;> (try (exfalso; omega))) | (apply gd_bne_t <;> intro hq <;> (try (exfalso; omega))) | (apply gd_bne_f <;> intro hq <;> (try (exfalso; omega))) | (apply gd_not_t <;> intro hq) | (apply gd_not_f <;> intro hq) | (apply gd_raw_t <;> intro hq) | (apply gd_raw_f <;> intro hq)) | refine sl_skip_u rfl rfl rfl rfl rfl rfl ?_) | (refine c_rangeStr rfl rfl rfl rfl rfl (fun _ => ?_))) | (apply sw_seq) | (apply at_srd) | (apply sw_skip) | (apply sw_ret) | (apply sw_exit) | (apply sw_block) | ((fail_if_success (refine g_reg (id := 4) ?_)); apply sw_region) | (refine sw_cd rfl ?_; first | (apply gd_t) | (apply gd_ft) | (apply gd_tf) | (apply gd_dec_t <;> intro hq <;> (try (exfalso; omega))) | (apply gd_dec_f <;> intro hq <;> (try (exfalso; omega))) | (apply gd_beq_t <;> intro hq <;> (try (exfalso; omega))) | (apply gd_beq_f <;> intro hq <;> (try (exfalso; omega))) | (apply gd_bne_t <;> intro hq <;> (try (exfalso; omega))) | (apply gd_bne_f <;> intro hq <;> (try (exfalso; omega))) | (apply gd_not_t <;> intro hq) | (apply gd_not_f <;> intro hq) | (apply gd_raw_t <;> intro hq) | (apply gd_raw_f <;> intro hq)) | (apply at_thn) | (apply at_thn_ret) | (apply at_thn_exit) | (apply at_inb) | (apply at_inb_ret) | (apply at_inb_exit) | refine at_inb_pass rfl ?_ | ((fail_if_success (refine g_reg (id := 4) ?_)); refine c_drawn (by kernel_rfl) ?_))
      all_goals first | (exfalso; omega) | skip
      rename_i r
      refine sw_loopg (α := Nat) (fun k => [(14, .pointer (some ⟨r, 0, none⟩))]) (fun k => .obj r (.stringIter s (encL (R.take k)).length) :: H)
        (fun k => k ≤ R.length ∧ ∀ x ∈ R.take k, cpR x) (fun k => R.length - k) 0 ⟨Nat.zero_le _, fun x hx => (nomatch hx)⟩ (by repeat (first | exact Le.nil _ | refine Le.cons (by first | rfl | (exact congrArg some (congrArg (Value.int _) (by omega)))) ?_)) (fun _ hw => hw.subs (by repeat (first | refine Subs.cons (by repeat constructor) ?_ | exact Subs.sub (by repeat (first | exact List.Sublist.refl _ | exact List.nil_sublist _ | refine List.Sublist.cons _ ?_))))) ?_
      rintro k ⟨hk, hq⟩
      have Hq := Lib.hid hq
      clear hq
      by_cases hlt : k < R.length
      · obtain ⟨x, hx⟩ := get_of (X := R) hlt
        obtain ⟨h1, h2, h3, h4⟩ := Hstep.out k x hx
        have hxi : ((x.toNat : Nat) : Int) = x := by unfold isR at h4; omega
        have hmem := List.mem_of_getElem? hx
        have Hx := Lib.hid hx
        have H4 := Lib.hid h4
        have hxb : 0 ≤ x ∧ x ≤ 1114111 := by unfold isR at h4; omega
        clear hx h4
        have hcp : cpR x ↔ ((32 ≤ x ∧ x ≤ 126) ∨ 160 ≤ x) := ⟨fun h => h.2, fun h => ⟨H4.out, h⟩⟩
        have hbad : ¬ ((32 ≤ x ∧ x ≤ 126) ∨ 160 ≤ x) → B = false := fun h => by
          cases hBv : B with
          | false => rfl
          | true => exact absurd (hcp.1 (Hall.out (HB.out.1 hBv) x hmem)) h
        have Hcp := Lib.hid hcp
        have Hbad := Lib.hid hbad
        clear hcp hbad
        repeat' (first | (apply g_sl; first | (apply ks_nil; refine sl_nil ?_) | (apply ks_move; refine s_move rfl rfl ?_) | (apply ks_bin; refine s_bin rfl rfl rfl ?_; first | first | (refine c_nextV rfl rfl rfl rfl rfl h2 h1 hxi h3 ?_) | (first | refine bb_of rfl ?_)) | (apply ks_asgn; refine s_asgn rfl rfl ?_) | (apply ks_pick; refine s_pick rfl rfl ?_; first | (apply kp_t; refine pk_t rfl ?_) | (apply kp_f; refine pk_f rfl ?_) | refine pk_s rfl rfl ?_) | (apply ks_un; refine s_un (y_un rfl rfl rfl) rfl ?_) | (apply ks_extr; refine s_extr (y_extract rfl rfl rfl) rfl ?_) | (apply ks_conv; first | first | (refine c_nextV rfl rfl rfl rfl rfl h2 h1 hxi h3 ?_) | refine s_conv (c_conv (k := .i64) rfl rfl ⟨by omega, by omega⟩) rfl ?_ | refine s_conv (c_conv (k := .u8) rfl rfl ⟨by omega, by omega⟩) rfl ?_ | refine s_conv (c_conv (k := .u64) rfl rfl ⟨by omega, by omega⟩) rfl ?_ | refine s_conv (c_convw rfl rfl) rfl ?_) | (apply ks_fn; first | refine c_callv rfl rfl rfl (cW _ _ _ _) rfl rfl ?_) | (apply ks_bi; first | first | (refine c_nextV rfl rfl rfl rfl rfl h2 h1 hxi h3 ?_) | refine s_call (c_len rfl rfl) rfl ?_ | refine s_call (c_len_str rfl rfl) rfl ?_ | refine s_call (c_bi rfl rfl rfl rfl) rfl ?_ | refine c_append rfl rfl rfl rfl (by first | rfl | simp [ints]) (by first | rfl | exact ints_one _ | exact octs_one _ | exact strs_one _) (by omega) rfl rfl (fun _ _ => ?_) | refine c_append_nil rfl rfl rfl rfl (by first | rfl | simp [ints]) (by first | rfl | exact ints_one _ | exact octs_one _ | exact strs_one _) (by omega) rfl rfl (fun _ _ => ?_)) | (apply ks_guard; first | (refine sl_gd rfl rfl rfl rfl ?_; first | (apply gd_t) | (apply gd_ft) | (apply gd_tf) | (apply gd_dec_t <;> intro hq <;> (try (exfalso; omega))) | (apply gd_dec_f <;> intro hq <;> (try (exfalso; omega))) | (apply gd_beq_t <;> intro hq <;> (try (exfalso; omega))) | (apply gd_beq_f <;> intro hq <;> (try (exfalso; omega))) | (apply gd_bne_t <;> intro hq <;> (try (exfalso; omega))) | (apply gd_bne_f <;> intro hq <;> (try (exfalso; omega))) | (apply gd_not_t <;> intro hq) | (apply gd_not_f <;> intro hq) | (apply gd_raw_t <;> intro hq) | (apply gd_raw_f <;> intro hq)) | refine sl_skip_u rfl rfl rfl rfl rfl rfl ?_) | first | (refine c_nextV rfl rfl rfl rfl rfl h2 h1 hxi h3 ?_)) | (apply sw_seq) | (apply at_srd) | (apply sw_skip) | (apply sw_ret) | (apply sw_exit) | (apply sw_block) | (apply sw_region) | (refine sw_cd rfl ?_; first | (apply gd_t) | (apply gd_ft) | (apply gd_tf) | (apply gd_dec_t <;> intro hq <;> (try (exfalso; omega))) | (apply gd_dec_f <;> intro hq <;> (try (exfalso; omega))) | (apply gd_beq_t <;> intro hq <;> (try (exfalso; omega))) | (apply gd_beq_f <;> intro hq <;> (try (exfalso; omega))) | (apply gd_bne_t <;> intro hq <;> (try (exfalso; omega))) | (apply gd_bne_f <;> intro hq <;> (try (exfalso; omega))) | (apply gd_not_t <;> intro hq) | (apply gd_not_f <;> intro hq) | (apply gd_raw_t <;> intro hq) | (apply gd_raw_f <;> intro hq)) | (apply at_thn) | (apply at_thn_ret) | (apply at_thn_exit) | (apply at_inb) | (apply at_inb_ret) | (apply at_inb_exit) | refine at_inb_pass rfl ?_ | refine c_drawn (by kernel_rfl) ?_)
        all_goals (try simp only [decide_eq_true_eq, decide_eq_false_iff_not] at *)
        · rw [Hbad.out (by omega)]
          refine e_sv (by first | exact .inl rfl | exact .inr rfl) rfl (by repeat (first | exact List.Sublist.refl _ | exact List.nil_sublist _ | refine List.Sublist.cons _ ?_)) ?_
          rfl
        · refine at_meet (k + 1) ⟨⟨by omega, fun y hy => ?_⟩, by omega⟩ (by repeat (first | exact Le.nil _ | refine Le.cons (by first | rfl | (exact congrArg some (congrArg (Value.int _) (by omega)))) ?_)) (fun _ hw => hw.subs (by repeat (first | refine Subs.cons (by repeat constructor) ?_ | exact Subs.sub (by repeat (first | exact List.Sublist.refl _ | exact List.nil_sublist _ | refine List.Sublist.cons _ ?_)))))
          rw [List.take_add_one, Hx.out] at hy
          rcases List.mem_append.1 hy with hy | hy
          · exact Hq.out y hy
          · obtain rfl : y = x := by simpa using hy
            exact Hcp.out.2 (by omega)
        · rw [Hbad.out (by omega)]
          refine e_sv (by first | exact .inl rfl | exact .inr rfl) rfl (by repeat (first | exact List.Sublist.refl _ | exact List.nil_sublist _ | refine List.Sublist.cons _ ?_)) ?_
          rfl
      · obtain rfl : k = R.length := by omega
        have hend : ¬ (encL (R.take R.length)).length < s.size := by rw [List.take_length, Hlen.out]; omega
        have hBt : B = true := HB.out.2 (Hback.out (by have := Hq.out; rw [List.take_length] at this; exact this))
        rw [hBt]
        repeat' (first | (apply g_sl; first | (apply ks_nil; refine sl_nil ?_) | (apply ks_move; refine s_move rfl rfl ?_) | (apply ks_bin; refine s_bin rfl rfl rfl ?_; first | first | (refine c_nextE rfl rfl rfl rfl rfl hend ?_) | (first | refine bb_of rfl ?_)) | (apply ks_asgn; refine s_asgn rfl rfl ?_) | (apply ks_pick; refine s_pick rfl rfl ?_; first | (apply kp_t; refine pk_t rfl ?_) | (apply kp_f; refine pk_f rfl ?_) | refine pk_s rfl rfl ?_) | (apply ks_un; refine s_un (y_un rfl rfl rfl) rfl ?_) | (apply ks_extr; refine s_extr (y_extract rfl rfl rfl) rfl ?_) | (apply ks_conv; first | first | (refine c_nextE rfl rfl rfl rfl rfl hend ?_) | refine s_conv (c_conv (k := .i64) rfl rfl ⟨by omega, by omega⟩) rfl ?_ | refine s_conv (c_conv (k := .u8) rfl rfl ⟨by omega, by omega⟩) rfl ?_ | refine s_conv (c_conv (k := .u64) rfl rfl ⟨by omega, by omega⟩) rfl ?_ | refine s_conv (c_convw rfl rfl) rfl ?_) | (apply ks_fn; first | fail) | (apply ks_bi; first | first | (refine c_nextE rfl rfl rfl rfl rfl hend ?_) | refine s_call (c_len rfl rfl) rfl ?_ | refine s_call (c_len_str rfl rfl) rfl ?_ | refine s_call (c_bi rfl rfl rfl rfl) rfl ?_ | refine c_append rfl rfl rfl rfl (by first | rfl | simp [ints]) (by first | rfl | exact ints_one _ | exact octs_one _ | exact strs_one _) (by omega) rfl rfl (fun _ _ => ?_) | refine c_append_nil rfl rfl rfl rfl (by first | rfl | simp [ints]) (by first | rfl | exact ints_one _ | exact octs_one _ | exact strs_one _) (by omega) rfl rfl (fun _ _ => ?_)) | (apply ks_guard; first | (refine sl_gd rfl rfl rfl rfl ?_; first | (apply gd_t) | (apply gd_ft) | (apply gd_tf) | (apply gd_dec_t <;> intro hq <;> (try (exfalso; omega))) | (apply gd_dec_f <;> intro hq <;> (try (exfalso; omega))) | (apply gd_beq_t <;> intro hq <;> (try (exfalso; omega))) | (apply gd_beq_f <;> intro hq <;> (try (exfalso; omega))) | (apply gd_bne_t <;> intro hq <;> (try (exfalso; omega))) | (apply gd_bne_f <;> intro hq <;> (try (exfalso; omega))) | (apply gd_not_t <;> intro hq) | (apply gd_not_f <;> intro hq) | (apply gd_raw_t <;> intro hq) | (apply gd_raw_f <;> intro hq)) | refine sl_skip_u rfl rfl rfl rfl rfl rfl ?_) | first | (refine c_nextE rfl rfl rfl rfl rfl hend ?_)) | (apply sw_seq) | (apply at_srd) | (apply sw_skip) | (apply sw_ret) | (apply sw_exit) | (apply sw_block) | (apply sw_region) | (refine sw_cd rfl ?_; first | (apply gd_t) | (apply gd_ft) | (apply gd_tf) | (apply gd_dec_t <;> intro hq <;> (try (exfalso; omega))) | (apply gd_dec_f <;> intro hq <;> (try (exfalso; omega))) | (apply gd_beq_t <;> intro hq <;> (try (exfalso; omega))) | (apply gd_beq_f <;> intro hq <;> (try (exfalso; omega))) | (apply gd_bne_t <;> intro hq <;> (try (exfalso; omega))) | (apply gd_bne_f <;> intro hq <;> (try (exfalso; omega))) | (apply gd_not_t <;> intro hq) | (apply gd_not_f <;> intro hq) | (apply gd_raw_t <;> intro hq) | (apply gd_raw_f <;> intro hq)) | (apply at_thn) | (apply at_thn_ret) | (apply at_thn_exit) | (apply at_inb) | (apply at_inb_ret) | (apply at_inb_exit) | refine at_inb_pass rfl ?_ | refine c_drawn (by kernel_rfl) ?_)
        all_goals first | (refine e_sv (by first | exact .inl rfl | exact .inr rfl) rfl (by repeat (first | exact List.Sublist.refl _ | exact List.nil_sublist _ | refine List.Sublist.cons _ ?_)) ?_; rfl) | exact absurd rfl (by assumption)
    · rw [show Lib.validD s.data.toList = false from by simpa using hv] at cV
      have hBf : B = false := by
        cases hBv : B with
        | false => rfl
        | true =>
          obtain ⟨_, R, h1, h2⟩ := hB.1 hBv
          exact absurd ((valid_iff s).2 ⟨R, fun x hx => (h1 x hx).1, h2⟩) hv
      subst hBf
      clear hB
      refine sv_enter1 Tryd.func38 rfl rfl rfl rfl rfl ?_
      repeat' (first | (apply g_sl; first | (apply ks_nil; refine sl_nil ?_) | (apply ks_move; refine s_move rfl rfl ?_) | (apply ks_bin; refine s_bin rfl rfl rfl ?_; first | fail | (first | refine bb_of rfl ?_)) | (apply ks_asgn; refine s_asgn rfl rfl ?_) | (apply ks_pick; refine s_pick rfl rfl ?_; first | (apply kp_t; refine pk_t rfl ?_) | (apply kp_f; refine pk_f rfl ?_) | refine pk_s rfl rfl ?_) | (apply ks_un; refine s_un (y_un rfl rfl rfl) rfl ?_) | (apply ks_extr; refine s_extr (y_extract rfl rfl rfl) rfl ?_) | (apply ks_conv; first | fail | refine s_conv (c_conv (k := .i64) rfl rfl ⟨by omega, by omega⟩) rfl ?_ | refine s_conv (c_conv (k := .u8) rfl rfl ⟨by omega, by omega⟩) rfl ?_ | refine s_conv (c_conv (k := .u64) rfl rfl ⟨by omega, by omega⟩) rfl ?_ | refine s_conv (c_convw rfl rfl) rfl ?_) | (apply ks_fn; first | refine c_callv rfl rfl rfl (cV _) rfl rfl ?_) | (apply ks_bi; first | fail | refine s_call (c_len rfl rfl) rfl ?_ | refine s_call (c_len_str rfl rfl) rfl ?_ | refine s_call (c_bi rfl rfl rfl rfl) rfl ?_ | refine c_append rfl rfl rfl rfl (by first | rfl | simp [ints]) (by first | rfl | exact ints_one _ | exact octs_one _ | exact strs_one _) (by omega) rfl rfl (fun _ _ => ?_) | refine c_append_nil rfl rfl rfl rfl (by first | rfl | simp [ints]) (by first | rfl | exact ints_one _ | exact octs_one _ | exact strs_one _) (by omega) rfl rfl (fun _ _ => ?_)) | (apply ks_guard; first | (refine sl_gd rfl rfl rfl rfl ?_; first | (apply gd_t) | (apply gd_ft) | (apply gd_tf) | (apply gd_dec_t <;> intro hq <;> (try (exfalso; omega))) | (apply gd_dec_f <;> intro hq <;> (try (exfalso; omega))) | (apply gd_beq_t <;> intro hq <;> (try (exfalso; omega))) | (apply gd_beq_f <;> intro hq <;> (try (exfalso; omega))) | (apply gd_bne_t <;> intro hq <;> (try (exfalso; omega))) | (apply gd_bne_f <;> intro hq <;> (try (exfalso; omega))) | (apply gd_not_t <;> intro hq) | (apply gd_not_f <;> intro hq) | (apply gd_raw_t <;> intro hq) | (apply gd_raw_f <;> intro hq)) | refine sl_skip_u rfl rfl rfl rfl rfl rfl ?_) | fail) | (apply sw_seq) | (apply at_srd) | (apply sw_skip) | (apply sw_ret) | (apply sw_exit) | (apply sw_block) | ((fail_if_success (refine g_reg (id := 4) ?_)); apply sw_region) | (refine sw_cd rfl ?_; first | (apply gd_t) | (apply gd_ft) | (apply gd_tf) | (apply gd_dec_t <;> intro hq <;> (try (exfalso; omega))) | (apply gd_dec_f <;> intro hq <;> (try (exfalso; omega))) | (apply gd_beq_t <;> intro hq <;> (try (exfalso; omega))) | (apply gd_beq_f <;> intro hq <;> (try (exfalso; omega))) | (apply gd_bne_t <;> intro hq <;> (try (exfalso; omega))) | (apply gd_bne_f <;> intro hq <;> (try (exfalso; omega))) | (apply gd_not_t <;> intro hq) | (apply gd_not_f <;> intro hq) | (apply gd_raw_t <;> intro hq) | (apply gd_raw_f <;> intro hq)) | (apply at_thn) | (apply at_thn_ret) | (apply at_thn_exit) | (apply at_inb) | (apply at_inb_ret) | (apply at_inb_exit) | refine at_inb_pass rfl ?_ | ((fail_if_success (refine g_reg (id := 4) ?_)); refine c_drawn (by kernel_rfl) ?_))
      all_goals first | (exfalso; omega) | (refine e_sv (by first | exact .inl rfl | exact .inr rfl) rfl (by repeat (first | exact List.Sublist.refl _ | exact List.nil_sublist _ | refine List.Sublist.cons _ ?_)) ?_; rfl) | exact absurd rfl (by assumption)
  · have hBf : B = false := by
      cases hBv : B with
      | false => rfl
      | true => exact absurd (hB.1 hBv).1 hz
    subst hBf
    clear hB
    refine sv_enter1 Tryd.func38 rfl rfl rfl rfl rfl ?_
    repeat' (first | (apply g_sl; first | (apply ks_nil; refine sl_nil ?_) | (apply ks_move; refine s_move rfl rfl ?_) | (apply ks_bin; refine s_bin rfl rfl rfl ?_; first | fail | (first | refine bb_of rfl ?_)) | (apply ks_asgn; refine s_asgn rfl rfl ?_) | (apply ks_pick; refine s_pick rfl rfl ?_; first | (apply kp_t; refine pk_t rfl ?_) | (apply kp_f; refine pk_f rfl ?_) | refine pk_s rfl rfl ?_) | (apply ks_un; refine s_un (y_un rfl rfl rfl) rfl ?_) | (apply ks_extr; refine s_extr (y_extract rfl rfl rfl) rfl ?_) | (apply ks_conv; first | fail | refine s_conv (c_conv (k := .i64) rfl rfl ⟨by omega, by omega⟩) rfl ?_ | refine s_conv (c_conv (k := .u8) rfl rfl ⟨by omega, by omega⟩) rfl ?_ | refine s_conv (c_conv (k := .u64) rfl rfl ⟨by omega, by omega⟩) rfl ?_ | refine s_conv (c_convw rfl rfl) rfl ?_) | (apply ks_fn; first | refine c_callv rfl rfl rfl (cV _) rfl rfl ?_) | (apply ks_bi; first | fail | refine s_call (c_len rfl rfl) rfl ?_ | refine s_call (c_len_str rfl rfl) rfl ?_ | refine s_call (c_bi rfl rfl rfl rfl) rfl ?_ | refine c_append rfl rfl rfl rfl (by first | rfl | simp [ints]) (by first | rfl | exact ints_one _ | exact octs_one _ | exact strs_one _) (by omega) rfl rfl (fun _ _ => ?_) | refine c_append_nil rfl rfl rfl rfl (by first | rfl | simp [ints]) (by first | rfl | exact ints_one _ | exact octs_one _ | exact strs_one _) (by omega) rfl rfl (fun _ _ => ?_)) | (apply ks_guard; first | (refine sl_gd rfl rfl rfl rfl ?_; first | (apply gd_t) | (apply gd_ft) | (apply gd_tf) | (apply gd_dec_t <;> intro hq <;> (try (exfalso; omega))) | (apply gd_dec_f <;> intro hq <;> (try (exfalso; omega))) | (apply gd_beq_t <;> intro hq <;> (try (exfalso; omega))) | (apply gd_beq_f <;> intro hq <;> (try (exfalso; omega))) | (apply gd_bne_t <;> intro hq <;> (try (exfalso; omega))) | (apply gd_bne_f <;> intro hq <;> (try (exfalso; omega))) | (apply gd_not_t <;> intro hq) | (apply gd_not_f <;> intro hq) | (apply gd_raw_t <;> intro hq) | (apply gd_raw_f <;> intro hq)) | refine sl_skip_u rfl rfl rfl rfl rfl rfl ?_) | fail) | (apply sw_seq) | (apply at_srd) | (apply sw_skip) | (apply sw_ret) | (apply sw_exit) | (apply sw_block) | ((fail_if_success (refine g_reg (id := 4) ?_)); apply sw_region) | (refine sw_cd rfl ?_; first | (apply gd_t) | (apply gd_ft) | (apply gd_tf) | (apply gd_dec_t <;> intro hq <;> (try (exfalso; omega))) | (apply gd_dec_f <;> intro hq <;> (try (exfalso; omega))) | (apply gd_beq_t <;> intro hq <;> (try (exfalso; omega))) | (apply gd_beq_f <;> intro hq <;> (try (exfalso; omega))) | (apply gd_bne_t <;> intro hq <;> (try (exfalso; omega))) | (apply gd_bne_f <;> intro hq <;> (try (exfalso; omega))) | (apply gd_not_t <;> intro hq) | (apply gd_not_f <;> intro hq) | (apply gd_raw_t <;> intro hq) | (apply gd_raw_f <;> intro hq)) | (apply at_thn) | (apply at_thn_ret) | (apply at_thn_exit) | (apply at_inb) | (apply at_inb_ret) | (apply at_inb_exit) | refine at_inb_pass rfl ?_ | ((fail_if_success (refine g_reg (id := 4) ?_)); refine c_drawn (by kernel_rfl) ?_))
    all_goals first | (exfalso; omega) | (refine e_sv (by first | exact .inl rfl | exact .inr rfl) rfl (by repeat (first | exact List.Sublist.refl _ | exact List.nil_sublist _ | refine List.Sublist.cons _ ?_)) ?_; rfl) | exact absurd rfl (by assumption)
theorem enc_three (X : List Int) (x : Int) (Y : List Int) (hx : isR x) : encL (X ++ x :: Y) = encL X ++ (runeL x ++ encL Y) ∧ encL (X ++ [x]) = encL X ++ runeL x := by
  refine ⟨?_, by rw [encL_snoc, fixR_isR hx]⟩
  unfold encL
  rw [List.flatMap_append, List.flatMap_cons]
  rw [fixR_isR hx]
theorem ints_snoc (X : List Int) (x : Int) : ints (X ++ [x]) = ints X ++ [.int .i64 x] := by simp [ints]
theorem runes_sc (G : Ctx) (H : List Ent) (R : List Int) (hR : ∀ x ∈ R, isR x) (s : ByteArray) (hs : s = strOfNums (encL R)) (hz : s.size ≤ 2000000) : SC Tryd.prog G 36 [.string s] H (fun v H' => ∃ a' c', v = .slice a' R.length c' ∧ H' = .own 3 1 a' R.length c' (ints R) :: H) := by
  have hn := nums_enc R
  rw [← hs] at hn
  have hlen : (encL R).length = s.size := by rw [hs, strOfNums_size]
  clear hs
  have Hn := Lib.hid hn
  have Hlen := Lib.hid hlen
  have HR := Lib.hid hR
  have hRl : R.length ≤ s.size := by
    rw [← hlen]
    clear hn hlen hz Hn Hlen HR
    induction R with
    | nil => exact Nat.zero_le _
    | cons x R ih =>
      have := ih (fun y hy => hR y (List.mem_cons_of_mem _ hy))
      have hp := runeL_pos (fixR x)
      rw [encL_cons, List.length_append, List.length_cons]
      omega
  clear hn hlen hR
  refine sc_enter1 Tryd.func36 rfl rfl rfl rfl rfl ?_
  repeat' (first | (apply g_sl; first | (apply ks_nil; refine sl_nil ?_) | (apply ks_move; refine s_move rfl rfl ?_) | (apply ks_asgn; refine s_asgn rfl rfl ?_) | (apply ks_extr; refine s_extr (y_extract rfl rfl rfl) rfl ?_) | (apply ks_conv; first | (refine c_rangeStr rfl rfl rfl rfl rfl (fun _ => ?_)) | refine s_conv (c_conv (k := .i64) rfl rfl ⟨by omega, by omega⟩) rfl ?_ | refine s_conv (c_conv (k := .u8) rfl rfl ⟨by omega, by omega⟩) rfl ?_ | refine s_conv (c_conv (k := .u64) rfl rfl ⟨by omega, by omega⟩) rfl ?_ | refine s_conv (c_convw rfl rfl) rfl ?_) | (apply ks_bi; first | (refine c_rangeStr rfl rfl rfl rfl rfl (fun _ => ?_)) | refine s_call (c_len rfl rfl) rfl ?_ | refine s_call (c_len_str rfl rfl) rfl ?_ | refine s_call (c_bi rfl rfl rfl rfl) rfl ?_ | refine c_append rfl rfl rfl rfl (by first | rfl | simp [ints]) (by first | rfl | exact ints_one _ | exact octs_one _ | exact strs_one _) (by omega) rfl rfl (fun _ _ => ?_) | refine c_append_nil rfl rfl rfl rfl (by first | rfl | simp [ints]) (by first | rfl | exact ints_one _ | exact octs_one _ | exact strs_one _) (by omega) rfl rfl (fun _ _ => ?_)) | (apply ks_bs; first | refine c_buildSlice rfl rfl rfl rfl rfl rfl rfl rfl rfl rfl (fun _ => ?_) | (refine c_rangeStr rfl rfl rfl rfl rfl (fun _ => ?_))) | (refine c_rangeStr rfl rfl rfl rfl rfl (fun _ => ?_))) | (apply sw_seq) | (apply at_srd) | (apply sw_skip) | (apply sw_ret) | (apply sw_exit) | (apply sw_block) | ((fail_if_success (refine g_reg (id := 3) ?_)); apply sw_region) | (refine sw_cd rfl ?_; first | (apply gd_t) | (apply gd_ft) | (apply gd_tf) | (apply gd_dec_t <;> intro hq <;> (try (exfalso; omega))) | (apply gd_dec_f <;> intro hq <;> (try (exfalso; omega))) | (apply gd_beq_t <;> intro hq <;> (try (exfalso; omega))) | (apply gd_beq_f <;> intro hq <;> (try (exfalso; omega))) | (apply gd_bne_t <;> intro hq <;> (try (exfalso; omega))) | (apply gd_bne_f <;> intro hq <;> (try (exfalso; omega))) | (apply gd_not_t <;> intro hq) | (apply gd_not_f <;> intro hq) | (apply gd_raw_t <;> intro hq) | (apply gd_raw_f <;> intro hq)) | (apply at_thn) | (apply at_thn_ret) | (apply at_thn_exit) | (apply at_inb) | (apply at_inb_ret) | (apply at_inb_exit) | refine at_inb_pass rfl ?_ | ((fail_if_success (refine g_reg (id := 3) ?_)); refine c_drawn (by kernel_rfl) ?_))
  rename_i r
  refine sw_loopg (α := List Int × List Int × Option Addr × Nat) (fun z => [(7, .pointer (some ⟨r, 0, none⟩)), (3, .slice z.2.2.1 z.1.length z.2.2.2)]) (fun z => .own 3 1 z.2.2.1 z.1.length z.2.2.2 (ints z.1) :: .obj r (.stringIter s (encL z.1).length) :: H)
    (fun z => R = z.1 ++ z.2.1) (fun z => z.2.1.length) ([], R, none, 0) rfl (by repeat (first | exact Le.nil _ | refine Le.cons (by first | rfl | (exact congrArg some (congrArg (Value.int _) (by omega)))) ?_)) (fun _ hw => (hw.nilrow _ _).subs (by repeat (first | refine Subs.cons (by repeat constructor) ?_ | exact Subs.sub (by repeat (first | exact List.Sublist.refl _ | exact List.nil_sublist _ | refine List.Sublist.cons _ ?_))))) ?_
  rintro ⟨X, Y, a, c⟩ hq
  dsimp only at hq ⊢
  cases Y with
  | cons x Y =>
    have hx : isR x := HR.out x (by rw [hq]; exact List.mem_append_right _ List.mem_cons_self)
    obtain ⟨e1, e2⟩ := enc_three X x Y hx
    rw [← hq] at e1
    have hp := runeL_pos x
    have hl := Hlen.out
    rw [e1, List.length_append, List.length_append] at hl
    have h1 : Utf8.decode s (encL X).length = (x.toNat, (runeL x).length) := decode_rune s _ x (encL Y) hx (by rw [Hn.out, e1, List.drop_left']; rfl)
    have h2 : (encL X).length < s.size := by omega
    have h3 : (encL X).length + (runeL x).length = (encL (X ++ [x])).length := by rw [e2, List.length_append]
    have hxi : ((x.toNat : Nat) : Int) = x := by unfold isR at hx; omega
    have hxb : 0 ≤ x ∧ x ≤ 1114111 := by unfold isR at hx; omega
    have hXl : X.length < R.length := by rw [hq, List.length_append, List.length_cons]; omega
    have Hq := Lib.hid hq
    clear hq hx e1 e2 hp hl
    repeat' (first | (apply g_sl; first | (apply ks_nil; refine sl_nil ?_) | (apply ks_move; refine s_move rfl rfl ?_) | (apply ks_asgn; refine s_asgn rfl rfl ?_) | (apply ks_extr; refine s_extr (y_extract rfl rfl rfl) rfl ?_) | (apply ks_conv; first | first | (refine c_nextV rfl rfl rfl rfl rfl h2 h1 hxi h3 ?_) | refine s_conv (c_conv (k := .i64) rfl rfl ⟨by omega, by omega⟩) rfl ?_ | refine s_conv (c_conv (k := .u8) rfl rfl ⟨by omega, by omega⟩) rfl ?_ | refine s_conv (c_conv (k := .u64) rfl rfl ⟨by omega, by omega⟩) rfl ?_ | refine s_conv (c_convw rfl rfl) rfl ?_) | (apply ks_bi; first | first | (refine c_nextV rfl rfl rfl rfl rfl h2 h1 hxi h3 ?_) | refine s_call (c_len rfl rfl) rfl ?_ | refine s_call (c_len_str rfl rfl) rfl ?_ | refine s_call (c_bi rfl rfl rfl rfl) rfl ?_ | refine c_append rfl rfl rfl rfl (by first | rfl | simp [ints]) (by first | rfl | exact ints_one _ | exact octs_one _ | exact strs_one _) (by omega) rfl rfl (fun _ _ => ?_) | refine c_append_nil rfl rfl rfl rfl (by first | rfl | simp [ints]) (by first | rfl | exact ints_one _ | exact octs_one _ | exact strs_one _) (by omega) rfl rfl (fun _ _ => ?_)) | (apply ks_bs; first | refine c_buildSlice rfl rfl rfl rfl rfl rfl rfl rfl rfl rfl (fun _ => ?_) | first | (refine c_nextV rfl rfl rfl rfl rfl h2 h1 hxi h3 ?_)) | first | (refine c_nextV rfl rfl rfl rfl rfl h2 h1 hxi h3 ?_)) | (apply sw_seq) | (apply at_srd) | (apply sw_skip) | (apply sw_ret) | (apply sw_exit) | (apply sw_block) | (apply sw_region) | (refine sw_cd rfl ?_; first | (apply gd_t) | (apply gd_ft) | (apply gd_tf) | (apply gd_dec_t <;> intro hq <;> (try (exfalso; omega))) | (apply gd_dec_f <;> intro hq <;> (try (exfalso; omega))) | (apply gd_beq_t <;> intro hq <;> (try (exfalso; omega))) | (apply gd_beq_f <;> intro hq <;> (try (exfalso; omega))) | (apply gd_bne_t <;> intro hq <;> (try (exfalso; omega))) | (apply gd_bne_f <;> intro hq <;> (try (exfalso; omega))) | (apply gd_not_t <;> intro hq) | (apply gd_not_f <;> intro hq) | (apply gd_raw_t <;> intro hq) | (apply gd_raw_f <;> intro hq)) | (apply at_thn) | (apply at_thn_ret) | (apply at_thn_exit) | (apply at_inb) | (apply at_inb_ret) | (apply at_inb_exit) | refine at_inb_pass rfl ?_ | refine c_drawn (by kernel_rfl) ?_)
    all_goals first | exact absurd rfl (by assumption) | skip
    rename_i b5 a5 c5
    refine at_meet (X ++ [x], Y, a5, c5) ⟨by dsimp only; rw [Hq.out, List.append_assoc]; rfl, by dsimp only; exact Nat.lt_succ_self _⟩ (by dsimp only; rw [List.length_append]; exact (by repeat (first | exact Le.nil _ | refine Le.cons (by first | rfl | (exact congrArg some (congrArg (Value.int _) (by omega)))) ?_))) ?_
    dsimp only
    rw [ints_snoc, List.length_append]
    exact (fun _ hw => hw.subs (by repeat (first | refine Subs.cons (by repeat constructor) ?_ | exact Subs.sub (by repeat (first | exact List.Sublist.refl _ | exact List.nil_sublist _ | refine List.Sublist.cons _ ?_)))))
  | nil =>
    rw [List.append_nil] at hq
    subst hq
    have hend : ¬ (encL R).length < s.size := by rw [Hlen.out]; omega
    repeat' (first | (apply g_sl; first | (apply ks_nil; refine sl_nil ?_) | (apply ks_move; refine s_move rfl rfl ?_) | (apply ks_asgn; refine s_asgn rfl rfl ?_) | (apply ks_extr; refine s_extr (y_extract rfl rfl rfl) rfl ?_) | (apply ks_conv; first | first | (refine c_nextE rfl rfl rfl rfl rfl hend ?_) | refine s_conv (c_conv (k := .i64) rfl rfl ⟨by omega, by omega⟩) rfl ?_ | refine s_conv (c_conv (k := .u8) rfl rfl ⟨by omega, by omega⟩) rfl ?_ | refine s_conv (c_conv (k := .u64) rfl rfl ⟨by omega, by omega⟩) rfl ?_ | refine s_conv (c_convw rfl rfl) rfl ?_) | (apply ks_bi; first | first | (refine c_nextE rfl rfl rfl rfl rfl hend ?_) | refine s_call (c_len rfl rfl) rfl ?_ | refine s_call (c_len_str rfl rfl) rfl ?_ | refine s_call (c_bi rfl rfl rfl rfl) rfl ?_ | refine c_append rfl rfl rfl rfl (by first | rfl | simp [ints]) (by first | rfl | exact ints_one _ | exact octs_one _ | exact strs_one _) (by omega) rfl rfl (fun _ _ => ?_) | refine c_append_nil rfl rfl rfl rfl (by first | rfl | simp [ints]) (by first | rfl | exact ints_one _ | exact octs_one _ | exact strs_one _) (by omega) rfl rfl (fun _ _ => ?_)) | (apply ks_bs; first | refine c_buildSlice rfl rfl rfl rfl rfl rfl rfl rfl rfl rfl (fun _ => ?_) | first | (refine c_nextE rfl rfl rfl rfl rfl hend ?_)) | first | (refine c_nextE rfl rfl rfl rfl rfl hend ?_)) | (apply sw_seq) | (apply at_srd) | (apply sw_skip) | (apply sw_ret) | (apply sw_exit) | (apply sw_block) | (apply sw_region) | (refine sw_cd rfl ?_; first | (apply gd_t) | (apply gd_ft) | (apply gd_tf) | (apply gd_dec_t <;> intro hq <;> (try (exfalso; omega))) | (apply gd_dec_f <;> intro hq <;> (try (exfalso; omega))) | (apply gd_beq_t <;> intro hq <;> (try (exfalso; omega))) | (apply gd_beq_f <;> intro hq <;> (try (exfalso; omega))) | (apply gd_bne_t <;> intro hq <;> (try (exfalso; omega))) | (apply gd_bne_f <;> intro hq <;> (try (exfalso; omega))) | (apply gd_not_t <;> intro hq) | (apply gd_not_f <;> intro hq) | (apply gd_raw_t <;> intro hq) | (apply gd_raw_f <;> intro hq)) | (apply at_thn) | (apply at_thn_ret) | (apply at_thn_exit) | (apply at_inb) | (apply at_inb_ret) | (apply at_inb_exit) | refine at_inb_pass rfl ?_ | refine c_drawn (by kernel_rfl) ?_)
    all_goals first | exact absurd rfl (by assumption) | skip
    refine e_scf (.own 3 1 a R.length c (ints R) :: H) (by first | exact .inl rfl | exact .inr rfl) rfl (fun _ hw => hw.subs (by repeat (first | refine Subs.cons (by repeat constructor) ?_ | exact Subs.sub (by repeat (first | exact List.Sublist.refl _ | exact List.nil_sublist _ | refine List.Sublist.cons _ ?_))))) ⟨_, _, rfl, rfl⟩
end Go.Proofs.YtflmckoolagikaaDoor
end
section
namespace Go.Proofs.YtflmckoolagikaaDoor
open Go Go.RowKit Go.Fw Go.Sx
set_option maxRecDepth 100000
set_option maxHeartbeats 2000000
def codeB (c : Int) : Bool := decide (isR c)
/-- Has an act no other parts than its own? -/
def plB (k c m : Int) (i : ByteArray) (n : Int) (t : ByteArray) : Bool := decide ((k = 4 ∨ (m = 0 ∧ n = 0)) ∧ (k = 4 ∨ k = 3 ∨ i = ⟨#[]⟩) ∧ (k = 5 ∨ t = ⟨#[]⟩) ∧ (k ≠ 5 ∨ c = 0))
attribute [local irreducible] SW SL SQ AtQ SV SC BB LD PK Yields SO SOT SOA SY
theorem asciiRunes_sc (G : Ctx) (H : List Ent) (s : ByteArray) (hz : s.size ≤ 2000000) : SC Tryd.prog G 39 [.string s] H (fun v H' => ∃ a' c', v = .slice a' (nums s).length c' ∧ H' = .own 3 1 a' (nums s).length c' (ints (nums s)) :: H) := by
  have hl := nums_length s
  have hb := nums_bound s
  have hlo : (octs (nums s)).length = s.size * 1 := by rw [octs_len, hl, Nat.mul_one]
  refine sc_enter1 Tryd.func39 rfl rfl rfl rfl rfl ?_
  repeat' (first | (apply g_sl; first | (apply ks_nil; refine sl_nil ?_) | (apply ks_move; refine s_move rfl rfl ?_) | (apply ks_bin; refine s_bin rfl rfl rfl ?_; first | (refine c_convSb rfl rfl rfl rfl rfl (fun _ _ _ => ?_)) | (first | (apply kb_add; first | refine bb_add ⟨by omega, by omega⟩ ?_ | refine bb_of rfl ?_) | refine bb_of rfl ?_)) | (apply ks_load; first | (refine s_load rfl rfl ?_; first | refine ld_cell rfl ?_ | refine ld_whole rfl ?_ | refine ld_elem rfl ?_ | refine ld_part rfl rfl ?_) | (refine c_convSb rfl rfl rfl rfl rfl (fun _ _ _ => ?_))) | (apply ks_asgn; refine s_asgn rfl rfl ?_) | (apply ks_conv; first | (refine c_convSb rfl rfl rfl rfl rfl (fun _ _ _ => ?_)) | refine s_conv (c_conv (k := .i64) rfl rfl ⟨by omega, by omega⟩) rfl ?_ | refine s_conv (c_conv (k := .u8) rfl rfl ⟨by omega, by omega⟩) rfl ?_ | refine s_conv (c_conv (k := .u64) rfl rfl ⟨by omega, by omega⟩) rfl ?_ | refine s_conv (c_convw rfl rfl) rfl ?_) | (apply ks_indexA; first | refine s_indexA (c_indexAddr rfl rfl rfl rfl (by omega) (by omega)) rfl ?_ | (refine c_convSb rfl rfl rfl rfl rfl (fun _ _ _ => ?_))) | (apply ks_bi; first | (refine c_convSb rfl rfl rfl rfl rfl (fun _ _ _ => ?_)) | refine s_call (c_len rfl rfl) rfl ?_ | refine s_call (c_len_str rfl rfl) rfl ?_ | refine s_call (c_bi rfl rfl rfl rfl) rfl ?_ | refine c_append rfl rfl rfl rfl (by first | rfl | simp [ints]) (by first | rfl | exact ints_one _ | exact octs_one _ | exact strs_one _) (by omega) rfl rfl (fun _ _ => ?_) | refine c_append_nil rfl rfl rfl rfl (by first | rfl | simp [ints]) (by first | rfl | exact ints_one _ | exact octs_one _ | exact strs_one _) (by omega) rfl rfl (fun _ _ => ?_)) | (apply ks_bs; first | refine c_buildSlice rfl rfl rfl rfl rfl rfl rfl rfl rfl rfl (fun _ => ?_) | (refine c_convSb rfl rfl rfl rfl rfl (fun _ _ _ => ?_))) | (refine c_convSb rfl rfl rfl rfl rfl (fun _ _ _ => ?_))) | (apply sw_seq) | (apply at_srd) | (apply sw_skip) | (apply sw_ret) | (apply sw_exit) | (apply sw_block) | ((fail_if_success (refine g_reg (id := 3) ?_)); apply sw_region) | (refine sw_cd rfl ?_; first | (apply gd_t) | (apply gd_ft) | (apply gd_tf) | (apply gd_dec_t <;> intro hq <;> (try (exfalso; omega))) | (apply gd_dec_f <;> intro hq <;> (try (exfalso; omega))) | (apply gd_beq_t <;> intro hq <;> (try (exfalso; omega))) | (apply gd_beq_f <;> intro hq <;> (try (exfalso; omega))) | (apply gd_bne_t <;> intro hq <;> (try (exfalso; omega))) | (apply gd_bne_f <;> intro hq <;> (try (exfalso; omega))) | (apply gd_not_t <;> intro hq) | (apply gd_not_f <;> intro hq) | (apply gd_raw_t <;> intro hq) | (apply gd_raw_f <;> intro hq)) | (apply at_thn) | (apply at_thn_ret) | (apply at_thn_exit) | (apply at_inb) | (apply at_inb_ret) | (apply at_inb_exit) | refine at_inb_pass rfl ?_ | ((fail_if_success (refine g_reg (id := 3) ?_)); refine c_drawn (by kernel_rfl) ?_))
  rename_i u cu _
  refine sw_loopg (α := List Int × List Int × Option Addr × Nat) (fun z => [(7, .slice (some ⟨u, 0, none⟩) s.size cu), (8, .int .i64 s.size), (9, .int .i64 z.1.length), (3, .slice z.2.2.1 z.1.length z.2.2.2)]) (fun z => .own 3 1 z.2.2.1 z.1.length z.2.2.2 (ints z.1) :: .obj u (bytesObj 5 (nums s) (cu - s.size)) :: H)
    (fun z => nums s = z.1 ++ z.2.1) (fun z => z.2.1.length) ([], nums s, none, 0) rfl (by repeat (first | exact Le.nil _ | refine Le.cons (by first | rfl | (exact congrArg some (congrArg (Value.int _) (by omega)))) ?_)) (fun _ hw => (hw.nilrow _ _).subs (by repeat (first | refine Subs.cons (by repeat constructor) ?_ | exact Subs.sub (by repeat (first | exact List.Sublist.refl _ | exact List.nil_sublist _ | refine List.Sublist.cons _ ?_))))) ?_
  rintro ⟨X, Y, a, c⟩ hq
  dsimp only at hq ⊢
  have hlq := hl
  rw [hq, List.length_append] at hlq
  cases Y with
  | cons x Y =>
    rw [List.length_cons] at hlq
    have hx : (octs (nums s))[((X.length : Nat) : Int).toNat * 1]? = some (.int .u8 x) := by
      rw [Int.toNat_natCast, Nat.mul_one, hq]
      unfold octs
      rw [List.map_append, List.getElem?_append_right (by rw [List.length_map]; exact Nat.le_refl _), List.length_map, Nat.sub_self]
      rfl
    have hxb := hb x (by rw [hq]; exact List.mem_append_right _ List.mem_cons_self)
    have Hq := Lib.hid hq
    clear hq hb
    repeat' (first | (apply g_sl; first | (apply ks_nil; refine sl_nil ?_) | (apply ks_move; refine s_move rfl rfl ?_) | (apply ks_bin; refine s_bin rfl rfl rfl ?_; first | first | (refine s_indexA (c_indexAddr rfl rfl rfl hlo (by omega) (by omega)) rfl ?_) | (refine s_load rfl rfl ?_; refine ld_elem hx ?_) | (first | (apply kb_add; first | refine bb_add ⟨by omega, by omega⟩ ?_ | refine bb_of rfl ?_) | refine bb_of rfl ?_)) | (apply ks_load; first | (refine s_load rfl rfl ?_; first | refine ld_cell rfl ?_ | refine ld_whole rfl ?_ | refine ld_elem rfl ?_ | refine ld_part rfl rfl ?_) | first | (refine s_indexA (c_indexAddr rfl rfl rfl hlo (by omega) (by omega)) rfl ?_) | (refine s_load rfl rfl ?_; refine ld_elem hx ?_)) | (apply ks_asgn; refine s_asgn rfl rfl ?_) | (apply ks_conv; first | first | (refine s_indexA (c_indexAddr rfl rfl rfl hlo (by omega) (by omega)) rfl ?_) | (refine s_load rfl rfl ?_; refine ld_elem hx ?_) | refine s_conv (c_conv (k := .i64) rfl rfl ⟨by omega, by omega⟩) rfl ?_ | refine s_conv (c_conv (k := .u8) rfl rfl ⟨by omega, by omega⟩) rfl ?_ | refine s_conv (c_conv (k := .u64) rfl rfl ⟨by omega, by omega⟩) rfl ?_ | refine s_conv (c_convw rfl rfl) rfl ?_) | (apply ks_indexA; first | refine s_indexA (c_indexAddr rfl rfl rfl rfl (by omega) (by omega)) rfl ?_ | first | (refine s_indexA (c_indexAddr rfl rfl rfl hlo (by omega) (by omega)) rfl ?_) | (refine s_load rfl rfl ?_; refine ld_elem hx ?_)) | (apply ks_bi; first | first | (refine s_indexA (c_indexAddr rfl rfl rfl hlo (by omega) (by omega)) rfl ?_) | (refine s_load rfl rfl ?_; refine ld_elem hx ?_) | refine s_call (c_len rfl rfl) rfl ?_ | refine s_call (c_len_str rfl rfl) rfl ?_ | refine s_call (c_bi rfl rfl rfl rfl) rfl ?_ | refine c_append rfl rfl rfl rfl (by first | rfl | simp [ints]) (by first | rfl | exact ints_one _ | exact octs_one _ | exact strs_one _) (by omega) rfl rfl (fun _ _ => ?_) | refine c_append_nil rfl rfl rfl rfl (by first | rfl | simp [ints]) (by first | rfl | exact ints_one _ | exact octs_one _ | exact strs_one _) (by omega) rfl rfl (fun _ _ => ?_)) | (apply ks_bs; first | refine c_buildSlice rfl rfl rfl rfl rfl rfl rfl rfl rfl rfl (fun _ => ?_) | first | (refine s_indexA (c_indexAddr rfl rfl rfl hlo (by omega) (by omega)) rfl ?_) | (refine s_load rfl rfl ?_; refine ld_elem hx ?_)) | first | (refine s_indexA (c_indexAddr rfl rfl rfl hlo (by omega) (by omega)) rfl ?_) | (refine s_load rfl rfl ?_; refine ld_elem hx ?_)) | (apply sw_seq) | (apply at_srd) | (apply sw_skip) | (apply sw_ret) | (apply sw_exit) | (apply sw_block) | (apply sw_region) | (refine sw_cd rfl ?_; first | (apply gd_t) | (apply gd_ft) | (apply gd_tf) | (apply gd_dec_t <;> intro hq <;> (try (exfalso; omega))) | (apply gd_dec_f <;> intro hq <;> (try (exfalso; omega))) | (apply gd_beq_t <;> intro hq <;> (try (exfalso; omega))) | (apply gd_beq_f <;> intro hq <;> (try (exfalso; omega))) | (apply gd_bne_t <;> intro hq <;> (try (exfalso; omega))) | (apply gd_bne_f <;> intro hq <;> (try (exfalso; omega))) | (apply gd_not_t <;> intro hq) | (apply gd_not_f <;> intro hq) | (apply gd_raw_t <;> intro hq) | (apply gd_raw_f <;> intro hq)) | (apply at_thn) | (apply at_thn_ret) | (apply at_thn_exit) | (apply at_inb) | (apply at_inb_ret) | (apply at_inb_exit) | refine at_inb_pass rfl ?_ | refine c_drawn (by kernel_rfl) ?_)
    rename_i b5 a5 c5
    refine at_meet (X ++ [x], Y, a5, c5) ⟨by dsimp only; rw [Hq.out, List.append_assoc]; rfl, by dsimp only; exact Nat.lt_succ_self _⟩ (by dsimp only; rw [List.length_append]; exact (by repeat (first | exact Le.nil _ | refine Le.cons (by first | rfl | (exact congrArg some (congrArg (Value.int _) (by omega)))) ?_))) ?_
    dsimp only
    rw [ints_snoc, List.length_append]
    exact (fun _ hw => hw.subs (by repeat (first | refine Subs.cons (by repeat constructor) ?_ | exact Subs.sub (by repeat (first | exact List.Sublist.refl _ | exact List.nil_sublist _ | refine List.Sublist.cons _ ?_)))))
  | nil =>
    rw [List.append_nil] at hq
    rw [hq]
    clear hb
    simp only [List.length_nil, Nat.add_zero] at hlq
    repeat' (first | (apply g_sl; first | (apply ks_nil; refine sl_nil ?_) | (apply ks_move; refine s_move rfl rfl ?_) | (apply ks_bin; refine s_bin rfl rfl rfl ?_; first | fail | (first | (apply kb_add; first | refine bb_add ⟨by omega, by omega⟩ ?_ | refine bb_of rfl ?_) | refine bb_of rfl ?_)) | (apply ks_load; first | (refine s_load rfl rfl ?_; first | refine ld_cell rfl ?_ | refine ld_whole rfl ?_ | refine ld_elem rfl ?_ | refine ld_part rfl rfl ?_) | fail) | (apply ks_asgn; refine s_asgn rfl rfl ?_) | (apply ks_conv; first | fail | refine s_conv (c_conv (k := .i64) rfl rfl ⟨by omega, by omega⟩) rfl ?_ | refine s_conv (c_conv (k := .u8) rfl rfl ⟨by omega, by omega⟩) rfl ?_ | refine s_conv (c_conv (k := .u64) rfl rfl ⟨by omega, by omega⟩) rfl ?_ | refine s_conv (c_convw rfl rfl) rfl ?_) | (apply ks_indexA; first | refine s_indexA (c_indexAddr rfl rfl rfl rfl (by omega) (by omega)) rfl ?_ | fail) | (apply ks_bi; first | fail | refine s_call (c_len rfl rfl) rfl ?_ | refine s_call (c_len_str rfl rfl) rfl ?_ | refine s_call (c_bi rfl rfl rfl rfl) rfl ?_ | refine c_append rfl rfl rfl rfl (by first | rfl | simp [ints]) (by first | rfl | exact ints_one _ | exact octs_one _ | exact strs_one _) (by omega) rfl rfl (fun _ _ => ?_) | refine c_append_nil rfl rfl rfl rfl (by first | rfl | simp [ints]) (by first | rfl | exact ints_one _ | exact octs_one _ | exact strs_one _) (by omega) rfl rfl (fun _ _ => ?_)) | (apply ks_bs; first | refine c_buildSlice rfl rfl rfl rfl rfl rfl rfl rfl rfl rfl (fun _ => ?_) | fail) | fail) | (apply sw_seq) | (apply at_srd) | (apply sw_skip) | (apply sw_ret) | (apply sw_exit) | (apply sw_block) | (apply sw_region) | (refine sw_cd rfl ?_; first | (apply gd_t) | (apply gd_ft) | (apply gd_tf) | (apply gd_dec_t <;> intro hq <;> (try (exfalso; omega))) | (apply gd_dec_f <;> intro hq <;> (try (exfalso; omega))) | (apply gd_beq_t <;> intro hq <;> (try (exfalso; omega))) | (apply gd_beq_f <;> intro hq <;> (try (exfalso; omega))) | (apply gd_bne_t <;> intro hq <;> (try (exfalso; omega))) | (apply gd_bne_f <;> intro hq <;> (try (exfalso; omega))) | (apply gd_not_t <;> intro hq) | (apply gd_not_f <;> intro hq) | (apply gd_raw_t <;> intro hq) | (apply gd_raw_f <;> intro hq)) | (apply at_thn) | (apply at_thn_ret) | (apply at_thn_exit) | (apply at_inb) | (apply at_inb_ret) | (apply at_inb_exit) | refine at_inb_pass rfl ?_ | refine c_drawn (by kernel_rfl) ?_)
    refine e_scf (.own 3 1 a X.length c (ints X) :: H) (by first | exact .inl rfl | exact .inr rfl) rfl (fun _ hw => hw.subs (by repeat (first | refine Subs.cons (by repeat constructor) ?_ | exact Subs.sub (by repeat (first | exact List.Sublist.refl _ | exact List.nil_sublist _ | refine List.Sublist.cons _ ?_))))) ⟨_, _, rfl, rfl⟩
theorem code_sv (G : Ctx) (H : List Ent) (c : Int) : SV Tryd.prog G 34 [.int .i64 c] H (.bool (codeB c)) := by
  have cW := fun H n l h => pWithin_sv G H n l h
  refine sv_enter1 Tryd.func34 rfl rfl rfl rfl rfl ?_
  repeat' (first | (apply g_sl; first | (apply ks_nil; refine sl_nil ?_) | (apply ks_move; refine s_move rfl rfl ?_) | (apply ks_asgn; refine s_asgn rfl rfl ?_) | (apply ks_pick; refine s_pick rfl rfl ?_; first | (apply kp_t; refine pk_t rfl ?_) | (apply kp_f; refine pk_f rfl ?_) | refine pk_s rfl rfl ?_) | (apply ks_un; refine s_un (y_un rfl rfl rfl) rfl ?_) | (apply ks_fn; first | refine c_callv rfl rfl rfl (cW _ _ _ _) rfl rfl ?_) | (apply ks_guard; first | (refine sl_gd rfl rfl rfl rfl ?_; first | (apply gd_t) | (apply gd_ft) | (apply gd_tf) | (apply gd_dec_t <;> intro hq <;> (try (exfalso; omega))) | (apply gd_dec_f <;> intro hq <;> (try (exfalso; omega))) | (apply gd_beq_t <;> intro hq <;> (try (exfalso; omega))) | (apply gd_beq_f <;> intro hq <;> (try (exfalso; omega))) | (apply gd_bne_t <;> intro hq <;> (try (exfalso; omega))) | (apply gd_bne_f <;> intro hq <;> (try (exfalso; omega))) | (apply gd_not_t <;> intro hq) | (apply gd_not_f <;> intro hq) | (apply gd_raw_t <;> intro hq) | (apply gd_raw_f <;> intro hq)) | refine sl_skip_u rfl rfl rfl rfl rfl rfl ?_) | fail) | (apply sw_seq) | (apply at_srd) | (apply sw_skip) | (apply sw_ret) | (apply sw_exit) | (apply sw_block) | (apply sw_region) | (refine sw_cd rfl ?_; first | (apply gd_t) | (apply gd_ft) | (apply gd_tf) | (apply gd_dec_t <;> intro hq <;> (try (exfalso; omega))) | (apply gd_dec_f <;> intro hq <;> (try (exfalso; omega))) | (apply gd_beq_t <;> intro hq <;> (try (exfalso; omega))) | (apply gd_beq_f <;> intro hq <;> (try (exfalso; omega))) | (apply gd_bne_t <;> intro hq <;> (try (exfalso; omega))) | (apply gd_bne_f <;> intro hq <;> (try (exfalso; omega))) | (apply gd_not_t <;> intro hq) | (apply gd_not_f <;> intro hq) | (apply gd_raw_t <;> intro hq) | (apply gd_raw_f <;> intro hq)) | (apply at_thn) | (apply at_thn_ret) | (apply at_thn_exit) | (apply at_inb) | (apply at_inb_ret) | (apply at_inb_exit) | refine at_inb_pass rfl ?_ | refine c_drawn (by kernel_rfl) ?_)
  all_goals
    refine e_sv (by first | exact .inl rfl | exact .inr rfl) rfl (by repeat (first | exact List.Sublist.refl _ | exact List.nil_sublist _ | refine List.Sublist.cons _ ?_)) ?_
    refine congrArg Value.bool ?_
    try simp only [decide_eq_true_eq, decide_eq_false_iff_not] at *
    unfold codeB
    rw [Bool.eq_iff_iff, decide_eq_true_eq]
    unfold isR
    simp only [Bool.not_eq_true', decide_eq_false_iff_not, Bool.false_eq_true, false_iff]
    omega
theorem plain_sv (G : Ctx) (H : List Ent) (k c m : Int) (i : ByteArray) (a : Option Addr) (n cp : Nat) (t : ByteArray) : SV Tryd.prog G 33 [acV k c m i a n cp t] H (.bool (plB k c m i n t)) := by
  refine sv_enter1 Tryd.func33 rfl rfl rfl rfl rfl ?_
  repeat' (first | (apply g_sl; first | (apply ks_nil; refine sl_nil ?_) | (apply ks_move; refine s_move rfl rfl ?_) | (apply ks_bin; refine s_bin rfl rfl rfl ?_; first | first | (refine bb_seq ?_) | (refine bb_sne ?_) | (first | refine bb_of rfl ?_)) | (apply ks_load; first | (refine s_load rfl rfl ?_; first | refine ld_cell rfl ?_ | refine ld_whole rfl ?_ | refine ld_elem rfl ?_ | refine ld_part rfl rfl ?_) | first | (refine bb_seq ?_) | (refine bb_sne ?_)) | (apply ks_asgn; refine s_asgn rfl rfl ?_) | (apply ks_pick; refine s_pick rfl rfl ?_; first | (apply kp_t; refine pk_t rfl ?_) | (apply kp_f; refine pk_f rfl ?_) | refine pk_s rfl rfl ?_) | (apply ks_field; first | refine s_field (c_field0 rfl rfl) rfl ?_ | refine s_field (c_field rfl rfl) rfl ?_) | (apply ks_un; refine s_un (y_un rfl rfl rfl) rfl ?_) | (apply ks_bi; first | first | (refine bb_seq ?_) | (refine bb_sne ?_) | refine s_call (c_len rfl rfl) rfl ?_ | refine s_call (c_len_str rfl rfl) rfl ?_ | refine s_call (c_bi rfl rfl rfl rfl) rfl ?_ | refine c_append rfl rfl rfl rfl (by first | rfl | simp [ints]) (by first | rfl | exact ints_one _ | exact octs_one _ | exact strs_one _) (by omega) rfl rfl (fun _ _ => ?_) | refine c_append_nil rfl rfl rfl rfl (by first | rfl | simp [ints]) (by first | rfl | exact ints_one _ | exact octs_one _ | exact strs_one _) (by omega) rfl rfl (fun _ _ => ?_)) | (apply ks_box; refine c_box rfl rfl rfl rfl rfl rfl (fun _ => ?_)) | (apply ks_guard; first | (refine sl_gd rfl rfl rfl rfl ?_; first | (apply gd_t) | (apply gd_ft) | (apply gd_tf) | (apply gd_dec_t <;> intro hq <;> (try (exfalso; omega))) | (apply gd_dec_f <;> intro hq <;> (try (exfalso; omega))) | (apply gd_beq_t <;> intro hq <;> (try (exfalso; omega))) | (apply gd_beq_f <;> intro hq <;> (try (exfalso; omega))) | (apply gd_bne_t <;> intro hq <;> (try (exfalso; omega))) | (apply gd_bne_f <;> intro hq <;> (try (exfalso; omega))) | (apply gd_not_t <;> intro hq) | (apply gd_not_f <;> intro hq) | (apply gd_raw_t <;> intro hq) | (apply gd_raw_f <;> intro hq)) | refine sl_skip_u rfl rfl rfl rfl rfl rfl ?_) | first | (refine bb_seq ?_) | (refine bb_sne ?_)) | (apply g_sq; first | (apply kq_nil; refine sq_nil ?_) | (apply kq_move; refine q_move rfl rfl ?_) | (apply kq_bin; refine q_bin rfl rfl rfl ?_; first | first | (refine bb_seq ?_) | (refine bb_sne ?_) | (first | refine bb_of rfl ?_)) | (apply kq_load; first | (refine q_load rfl rfl ?_; first | refine ld_cell rfl ?_ | refine ld_whole rfl ?_ | refine ld_elem rfl ?_ | refine ld_part rfl rfl ?_) | first | (refine bb_seq ?_) | (refine bb_sne ?_)) | (apply kq_asgn; refine q_asgn rfl rfl ?_) | (apply kq_pick; refine q_pick rfl rfl ?_; first | (apply kp_t; refine pk_t rfl ?_) | (apply kp_f; refine pk_f rfl ?_) | refine pk_s rfl rfl ?_) | (apply kq_field; first | refine q_field (c_field0 rfl rfl) rfl ?_ | refine q_field (c_field rfl rfl) rfl ?_) | (apply kq_un; refine q_un (y_un rfl rfl rfl) rfl ?_) | (apply kq_bi; first | first | (refine bb_seq ?_) | (refine bb_sne ?_) | refine q_call (c_len rfl rfl) rfl ?_ | refine q_call (c_len_str rfl rfl) rfl ?_) | (apply kq_guard; first | (refine sq_gd rfl rfl rfl rfl ?_; first | (apply gd_t) | (apply gd_ft) | (apply gd_tf) | (apply gd_dec_t <;> intro hq <;> (try (exfalso; omega))) | (apply gd_dec_f <;> intro hq <;> (try (exfalso; omega))) | (apply gd_beq_t <;> intro hq <;> (try (exfalso; omega))) | (apply gd_beq_f <;> intro hq <;> (try (exfalso; omega))) | (apply gd_bne_t <;> intro hq <;> (try (exfalso; omega))) | (apply gd_bne_f <;> intro hq <;> (try (exfalso; omega))) | (apply gd_not_t <;> intro hq) | (apply gd_not_f <;> intro hq) | (apply gd_raw_t <;> intro hq) | (apply gd_raw_f <;> intro hq)) | refine sq_skip_u rfl rfl rfl rfl rfl rfl ?_) | first | (refine bb_seq ?_) | (refine bb_sne ?_)) | (apply sw_seq) | (apply at_srd) | (apply sw_skip) | (apply sw_ret) | (apply sw_exit) | (apply sw_block) | (apply sw_region) | (refine sw_cd rfl ?_; first | (apply gd_t) | (apply gd_ft) | (apply gd_tf) | (apply gd_dec_t <;> intro hq <;> (try (exfalso; omega))) | (apply gd_dec_f <;> intro hq <;> (try (exfalso; omega))) | (apply gd_beq_t <;> intro hq <;> (try (exfalso; omega))) | (apply gd_beq_f <;> intro hq <;> (try (exfalso; omega))) | (apply gd_bne_t <;> intro hq <;> (try (exfalso; omega))) | (apply gd_bne_f <;> intro hq <;> (try (exfalso; omega))) | (apply gd_not_t <;> intro hq) | (apply gd_not_f <;> intro hq) | (apply gd_raw_t <;> intro hq) | (apply gd_raw_f <;> intro hq)) | (apply at_thn) | (apply at_thn_ret) | (apply at_thn_exit) | (apply at_inb) | (apply at_inb_ret) | (apply at_inb_exit) | refine at_inb_pass rfl ?_ | refine c_drawn (by kernel_rfl) ?_)
  all_goals
    refine e_sv (by first | exact .inl rfl | exact .inr rfl) rfl (by repeat (first | exact List.Sublist.refl _ | exact List.nil_sublist _ | refine List.Sublist.cons _ ?_)) ?_
    refine congrArg Value.bool ?_
    unfold plB
    first | (simp [*]; done) | (simp [*]; intro h; omega) | (simp [*]; rw [Bool.eq_iff_iff]; simp)
end Go.Proofs.YtflmckoolagikaaDoor
end
section
namespace Go.Proofs.YtflmckoolagikaaDoor
open Go Go.RowKit Go.Fw Go.Sx
set_option maxRecDepth 100000
set_option maxHeartbeats 2000000
/-- What is answered of an act. -/
def WrR (G : Ctx) (H : List Ent) (y : Pa) (v : Value) (H' : List Ent) : Prop :=
  ∃ (F : List Ent) (l : List Int) (a' : Option Addr) (c' : Nat) (e : Int), v = .tuple #[.slice a' l.length c', .int .i64 e] ∧ l.length ≤ 4000000 ∧ Sl ints G F (a', c', l) ∧ H' = F ++ H ∧ ((goodW y ∧ l = runesW y ∧ e = 0) ∨ (¬ goodW y ∧ l = [] ∧ e = 1))
theorem WrR.no {G : Ctx} {H : List Ent} {y : Pa} (h : ¬ goodW y) : WrR G H y (.tuple #[.slice none 0 0, .int .i64 1]) H :=
  ⟨[], [], none, 0, 1, rfl, Nat.zero_le _, fun _ _ => ⟨Nat.zero_le _, Nat.zero_le _, .inl rfl⟩, rfl, .inr ⟨h, rfl, rfl⟩⟩
theorem WrR.yes {G : Ctx} {H : List Ent} {y : Pa} {a' : Option Addr} {n c' : Nat} {l : List Int} (h : goodW y) (hl : l = runesW y) (hn : n = l.length) (hm : n ≤ 100000) : WrR G H y (.tuple #[.slice a' n c', .int .i64 0]) (.own 3 1 a' n c' (ints l) :: H) := by
  subst hn
  exact ⟨[.own 3 1 a' l.length c' (ints l)], l, a', c', 0, rfl, by omega, Sl.own List.mem_cons_self rfl rfl, rfl, .inl ⟨h, hl, rfl⟩⟩
theorem WrR.yes2 {G : Ctx} {H : List Ent} {y : Pa} {a' : Option Addr} {n c' : Nat} {xs : List Value} (l : List Int) (h : goodW y) (hl : l = runesW y) (hx : xs = ints l) (hn : n = l.length) (hm : n ≤ 100000) : WrR G H y (.tuple #[.slice a' n c', .int .i64 0]) (.own 3 1 a' n c' xs :: H) := by
  subst hx
  exact WrR.yes h hl hn hm
theorem goodW_pl {k c m : Int} {i : ByteArray} {L : List Int} {t : ByteArray} (h : goodW (k, c, m, i, L, t)) : plB k c m i L.length t = true := by
  unfold plB
  rw [decide_eq_true_eq]
  rcases h.1 with ⟨c, e, _⟩ | ⟨c, e, _⟩ | ⟨c, i, e, _⟩ | ⟨c, m, i, L, e, _⟩ | ⟨t, e, _⟩ | e
  all_goals
    simp only [Prod.mk.injEq] at e
    obtain ⟨rfl, rfl, rfl, rfl, rfl, rfl⟩ := e
    simp
theorem goodW_1 {c : Int} : goodW (1, c, 0, e0, [], e0) ↔ cpR c := by
  constructor
  · intro h
    have h2 := h.2.2.1 rfl
    refine ⟨h2, ?_⟩
    rcases h.1 with ⟨c, e, h⟩ | ⟨c, e, _⟩ | ⟨c, i, e, _⟩ | ⟨c, m, i, L, e, _⟩ | ⟨t, e, _⟩ | e
    all_goals simp only [Prod.mk.injEq] at e
    · obtain ⟨-, rfl, -⟩ := e
      omega
    all_goals exact absurd e.1 (by decide)
  · intro h
    exact ⟨.inl ⟨c, rfl, cp_rng h⟩, fun e => absurd (Prod.mk.inj e).1 (by decide), fun _ => h.1, fun e => absurd (show (1 : Int) = 4 from e) (by decide)⟩
theorem goodW_2 {c : Int} : goodW (2, c, 0, e0, [], e0) ↔ (0 ≤ c ∧ c ≤ 31 ∧ c ≠ 24 ∧ c ≠ 26 ∧ c ≠ 27) := by
  constructor
  · intro h
    rcases h.1 with ⟨c, e, h⟩ | ⟨c, e, h⟩ | ⟨c, i, e, _⟩ | ⟨c, m, i, L, e, _⟩ | ⟨t, e, _⟩ | e
    all_goals simp only [Prod.mk.injEq] at e
    · exact absurd e.1 (by decide)
    · obtain ⟨-, rfl, -⟩ := e
      exact h
    all_goals exact absurd e.1 (by decide)
  · intro h
    exact ⟨.inr (.inl ⟨c, rfl, h⟩), fun e => absurd (Prod.mk.inj e).1 (by decide), fun e => absurd (show (2 : Int) = 1 from e) (by decide), fun e => absurd (show (2 : Int) = 4 from e) (by decide)⟩
theorem goodW_3 {c : Int} {i : ByteArray} : goodW (3, c, 0, i, [], e0) ↔ (48 ≤ c ∧ c ≤ 126 ∧ (0 < i.size ∨ ¬ (c = 91 ∨ c = 93 ∨ c = 80 ∨ c = 88 ∨ c = 94 ∨ c = 95)) ∧ inOk i) := by
  constructor
  · intro h
    rcases h.1 with ⟨c, e, h⟩ | ⟨c, e, h⟩ | ⟨c, i, e, h⟩ | ⟨c, m, i, L, e, _⟩ | ⟨t, e, _⟩ | e
    all_goals simp only [Prod.mk.injEq] at e
    · exact absurd e.1 (by decide)
    · exact absurd e.1 (by decide)
    · obtain ⟨-, rfl, -, rfl, -⟩ := e
      exact h
    all_goals exact absurd e.1 (by decide)
  · intro h
    exact ⟨.inr (.inr (.inl ⟨c, i, rfl, h⟩)), fun e => absurd (Prod.mk.inj e).1 (by decide), fun e => absurd (show (3 : Int) = 1 from e) (by decide), fun e => absurd (show (3 : Int) = 4 from e) (by decide)⟩
theorem goodW_4 {c m : Int} {i : ByteArray} {L : List Int} : goodW (4, c, m, i, L, e0) ↔ ((64 ≤ c ∧ c ≤ 126 ∧ (m = 0 ∨ (60 ≤ m ∧ m ≤ 63)) ∧ inOk i) ∧ (writeA L).2 = 0 ∧ (writeA L).1.size ≤ 100) := by
  constructor
  · intro h
    refine ⟨?_, h.2.2.2 rfl⟩
    rcases h.1 with ⟨c, e, h⟩ | ⟨c, e, h⟩ | ⟨c, i, e, h⟩ | ⟨c, m, i, L, e, h⟩ | ⟨t, e, _⟩ | e
    all_goals simp only [Prod.mk.injEq] at e
    · exact absurd e.1 (by decide)
    · exact absurd e.1 (by decide)
    · exact absurd e.1 (by decide)
    · obtain ⟨-, rfl, rfl, rfl, -⟩ := e
      exact h
    all_goals exact absurd e.1 (by decide)
  · intro h
    exact ⟨.inr (.inr (.inr (.inl ⟨c, m, i, L, rfl, h.1⟩))), fun e => absurd (Prod.mk.inj e).1 (by decide), fun e => absurd (show (4 : Int) = 1 from e) (by decide), fun _ => h.2⟩
theorem goodW_5 {t : ByteArray} : goodW (5, 0, 0, e0, [], t) ↔ okT t := by
  constructor
  · intro h
    rcases h.1 with ⟨c, e, h⟩ | ⟨c, e, h⟩ | ⟨c, i, e, h⟩ | ⟨c, m, i, L, e, h⟩ | ⟨t, e, h⟩ | e
    all_goals simp only [Prod.mk.injEq] at e
    · exact absurd e.1 (by decide)
    · exact absurd e.1 (by decide)
    · exact absurd e.1 (by decide)
    · exact absurd e.1 (by decide)
    · obtain ⟨-, -, -, -, -, rfl⟩ := e
      exact h
    all_goals exact absurd e.1 (by decide)
  · intro h
    exact ⟨.inr (.inr (.inr (.inr (.inl ⟨t, rfl, h⟩)))), fun e => absurd (Prod.mk.inj e).1 (by decide), fun e => absurd (show (5 : Int) = 1 from e) (by decide), fun e => absurd (show (5 : Int) = 4 from e) (by decide)⟩
theorem goodW_kind {k c m : Int} {i : ByteArray} {L : List Int} {t : ByteArray} (h : goodW (k, c, m, i, L, t)) : k = 1 ∨ k = 2 ∨ k = 3 ∨ k = 4 ∨ k = 5 := by
  rcases h.1 with ⟨c, e, h1⟩ | ⟨c, e, h1⟩ | ⟨c, i, e, h1⟩ | ⟨c, m, i, L, e, h1⟩ | ⟨t, e, h1⟩ | e
  all_goals (have h2 := (Prod.mk.inj e).1)
  · omega
  · omega
  · omega
  · omega
  · omega
  · exact absurd e h.2.1
theorem inI2_iff (i : ByteArray) : inI i 2 = 1 ↔ inOk i := by
  unfold inI inOk
  rw [← List.all_eq_true]
  by_cases h : (nums i).all inB = true ∧ (i.size : Int) ≤ 2
  · rw [if_pos h]; exact ⟨fun _ => ⟨h.1, by omega⟩, fun _ => rfl⟩
  · rw [if_neg h]; exact ⟨fun e => absurd e (by decide), fun e => absurd ⟨e.1, by omega⟩ h⟩
theorem enc_ascii : ∀ (N : List Int), (∀ x ∈ N, 0 ≤ x ∧ x < 128) → encL N = N
  | [], _ => rfl
  | x :: N, h => by
    have hx := h x List.mem_cons_self
    rw [encL_cons, enc_ascii N (fun y hy => h y (List.mem_cons_of_mem _ hy)), fixR_isR (isR_byte (by omega))]
    unfold runeL
    rw [if_pos hx.2]
    rfl
attribute [local irreducible] SW SL SQ AtQ SV SC BB LD PK Yields SO SOT SOA SY
/-- A text of low bytes. -/
theorem runesA_sc (G : Ctx) (H : List Ent) (s : ByteArray) (hlow : ∀ x ∈ nums s, 0 ≤ x ∧ x < 128) (hz : s.size ≤ 2000000) : SC Tryd.prog G 36 [.string s] H (fun v H' => ∃ a' c', v = .slice a' (nums s).length c' ∧ H' = .own 3 1 a' (nums s).length c' (ints (nums s)) :: H) :=
  runes_sc G H (nums s) (fun x hx => isR_byte (by have := hlow x hx; omega)) s (by rw [enc_ascii _ hlow, strOf_nums]) hz
def finI (x : Int) : Int := if x = 91 then 0 else if x = 93 then 1 else if x = 80 then 2 else if x = 88 then 3 else if x = 94 then 4 else if x = 95 then 5 else -1
theorem finI_neg (c : Int) : finI c < 0 ↔ ¬ (c = 91 ∨ c = 93 ∨ c = 80 ∨ c = 88 ∨ c = 94 ∨ c = 95) := by
  unfold finI
  repeat' split
  all_goals omega
theorem fin_ix (G : Ctx) (H : List Ent) (x : Int) (hx : 0 ≤ x ∧ x ≤ 255) : SV Tryd.prog G 35 [.string ⟨#[91, 93, 80, 88, 94, 95]⟩, .int .u8 x] H (.int .i64 (finI x)) := by
  unfold finI
  have h := fun w => indexByte_any ⟨#[91, 93, 80, 88, 94, 95]⟩ x w
  have e : ∀ n : Nat, n < 256 → (Lib.indexByte (⟨#[91, 93, 80, 88, 94, 95]⟩ : ByteArray).data.toList (n : Int).toNat.toUInt8) = (if (n : Int) = 91 then 0 else if (n : Int) = 93 then 1 else if (n : Int) = 80 then 2 else if (n : Int) = 88 then 3 else if (n : Int) = 94 then 4 else if (n : Int) = 95 then 5 else -1) := by decide +kernel
  obtain ⟨n, rfl⟩ := Int.eq_ofNat_of_zero_le hx.1
  have e := e n (by omega)
  refine sv_of_calls (callee_of Tryd.func35 rfl rfl) fun w hw => (h w).mono ?_
  rintro _ _ ⟨rfl, rfl⟩
  exact ⟨congrArg (fun z => Ending.returned (.int .i64 z)) e, Below.refl _ _⟩
theorem write_no (G : Ctx) (H : List Ent) (hT : ∀ H, Pow10 G H) (k c m : Int) (i : ByteArray) (L : List Int) (t : ByteArray) (a : Option Addr) (cp : Nat) [h1 : ∀ H, RdC G H a (ints L)] (hp : plB k c m i L.length t = false) : SC Tryd.prog G 13 [acV k c m i a L.length cp t] H (WrR G H (k, c, m, i, L, t)) := by
  have cP := fun H => plain_sv G H k c m i a L.length cp t
  rw [hp] at cP
  have hno : ¬ goodW (k, c, m, i, L, t) := fun h => by rw [goodW_pl h] at hp; cases hp
  have Hno := Lib.hid hno
  clear hp hno
  refine sc_enter1 Tryd.func13 rfl rfl rfl rfl rfl ?_
  repeat' (first | (apply g_sl; first | (apply ks_nil; refine sl_nil ?_) | (apply ks_move; refine s_move rfl rfl ?_) | (apply ks_bin; refine s_bin rfl rfl rfl ?_; first | fail | (first | (apply kb_add; first | refine bb_add ⟨by omega, by omega⟩ ?_ | refine bb_of rfl ?_) | refine bb_of rfl ?_)) | (apply ks_load; first | (refine s_load rfl rfl ?_; first | refine ld_cell rfl ?_ | refine ld_whole rfl ?_ | refine ld_elem rfl ?_ | refine ld_part rfl rfl ?_) | fail) | (apply ks_asgn; refine s_asgn rfl rfl ?_) | (apply ks_pick; refine s_pick rfl rfl ?_; first | (apply kp_t; refine pk_t rfl ?_) | (apply kp_f; refine pk_f rfl ?_) | refine pk_s rfl rfl ?_) | (apply ks_field; first | refine s_field (c_field0 rfl rfl) rfl ?_ | refine s_field (c_field rfl rfl) rfl ?_) | (apply ks_un; refine s_un (y_un rfl rfl rfl) rfl ?_) | (apply ks_extr; refine s_extr (y_extract rfl rfl rfl) rfl ?_) | (apply ks_conv; first | fail | refine s_conv (c_conv (k := .i64) rfl rfl ⟨by omega, by omega⟩) rfl ?_ | refine s_conv (c_conv (k := .u8) rfl rfl ⟨by omega, by omega⟩) rfl ?_ | refine s_conv (c_conv (k := .u64) rfl rfl ⟨by omega, by omega⟩) rfl ?_ | refine s_conv (c_convw rfl rfl) rfl ?_) | (apply ks_fn; first | refine c_callv rfl rfl rfl (cP _) rfl rfl ?_) | (apply ks_bi; first | fail | refine s_call (c_len rfl rfl) rfl ?_ | refine s_call (c_len_str rfl rfl) rfl ?_ | refine s_call (c_bi rfl rfl rfl rfl) rfl ?_ | refine c_append rfl rfl rfl rfl (by first | rfl | simp [ints]) (by first | rfl | exact ints_one _ | exact octs_one _ | exact strs_one _) (by omega) rfl rfl (fun _ _ => ?_) | refine c_append_nil rfl rfl rfl rfl (by first | rfl | simp [ints]) (by first | rfl | exact ints_one _ | exact octs_one _ | exact strs_one _) (by omega) rfl rfl (fun _ _ => ?_)) | (apply ks_box; refine c_box rfl rfl rfl rfl rfl rfl (fun _ => ?_)) | (apply ks_bs; first | refine c_buildSlice rfl rfl rfl rfl rfl rfl rfl rfl rfl rfl (fun _ => ?_) | fail) | (apply ks_guard; first | (refine sl_gd rfl rfl rfl rfl ?_; first | (apply gd_t) | (apply gd_ft) | (apply gd_tf) | (apply gd_dec_t <;> intro hq <;> (try (exfalso; omega))) | (apply gd_dec_f <;> intro hq <;> (try (exfalso; omega))) | (apply gd_beq_t <;> intro hq <;> (try (exfalso; omega))) | (apply gd_beq_f <;> intro hq <;> (try (exfalso; omega))) | (apply gd_bne_t <;> intro hq <;> (try (exfalso; omega))) | (apply gd_bne_f <;> intro hq <;> (try (exfalso; omega))) | (apply gd_not_t <;> intro hq) | (apply gd_not_f <;> intro hq) | (apply gd_raw_t <;> intro hq) | (apply gd_raw_f <;> intro hq)) | refine sl_skip_u rfl rfl rfl rfl rfl rfl ?_) | fail) | (apply sw_seq) | (apply at_srd) | (apply sw_skip) | (apply sw_ret) | (apply sw_exit) | (apply sw_block) | (apply sw_region) | (refine sw_cd rfl ?_; first | (apply gd_t) | (apply gd_ft) | (apply gd_tf) | (apply gd_dec_t <;> intro hq <;> (try (exfalso; omega))) | (apply gd_dec_f <;> intro hq <;> (try (exfalso; omega))) | (apply gd_beq_t <;> intro hq <;> (try (exfalso; omega))) | (apply gd_beq_f <;> intro hq <;> (try (exfalso; omega))) | (apply gd_bne_t <;> intro hq <;> (try (exfalso; omega))) | (apply gd_bne_f <;> intro hq <;> (try (exfalso; omega))) | (apply gd_not_t <;> intro hq) | (apply gd_not_f <;> intro hq) | (apply gd_raw_t <;> intro hq) | (apply gd_raw_f <;> intro hq)) | (apply at_thn) | (apply at_thn_ret) | (apply at_thn_exit) | (apply at_inb) | (apply at_inb_ret) | (apply at_inb_exit) | refine at_inb_pass rfl ?_ | refine c_drawn (by kernel_rfl) ?_)
  all_goals first | exact absurd rfl (by assumption) | skip
  refine e_scf _ (by first | exact .inl rfl | exact .inr rfl) rfl ?_ (WrR.no Hno.out)
  exact (fun _ hw => hw.subs (by repeat (first | refine Subs.cons (by repeat constructor) ?_ | exact Subs.sub (by repeat (first | exact List.Sublist.refl _ | exact List.nil_sublist _ | refine List.Sublist.cons _ ?_)))))
theorem write_1 (G : Ctx) (H : List Ent) (c : Int) (a : Option Addr) (cp : Nat) : SC Tryd.prog G 13 [acV 1 c 0 e0 a 0 cp e0] H (WrR G H (1, c, 0, e0, [], e0)) := by
  have cP := fun H => plain_sv G H 1 c 0 e0 a 0 cp e0
  rw [show plB 1 c 0 e0 ((0 : Nat) : Int) e0 = true from rfl] at cP
  have cW := fun H n l h => pWithin_sv G H n l h
  have cC := fun H => code_sv G H c
  unfold codeB at cC
  have hg := goodW_1 (c := c)
  unfold cpR at hg
  have Hg := Lib.hid hg
  clear hg
  refine sc_enter1 Tryd.func13 rfl rfl rfl rfl rfl ?_
  repeat' (first | (apply g_sl; first | (apply ks_nil; refine sl_nil ?_) | (apply ks_move; refine s_move rfl rfl ?_) | (apply ks_bin; refine s_bin rfl rfl rfl ?_; first | fail | (first | (apply kb_add; first | refine bb_add ⟨by omega, by omega⟩ ?_ | refine bb_of rfl ?_) | refine bb_of rfl ?_)) | (apply ks_load; first | (refine s_load rfl rfl ?_; first | refine ld_cell rfl ?_ | refine ld_whole rfl ?_ | refine ld_elem rfl ?_ | refine ld_part rfl rfl ?_) | fail) | (apply ks_asgn; refine s_asgn rfl rfl ?_) | (apply ks_pick; refine s_pick rfl rfl ?_; first | (apply kp_t; refine pk_t rfl ?_) | (apply kp_f; refine pk_f rfl ?_) | refine pk_s rfl rfl ?_) | (apply ks_field; first | refine s_field (c_field0 rfl rfl) rfl ?_ | refine s_field (c_field rfl rfl) rfl ?_) | (apply ks_un; refine s_un (y_un rfl rfl rfl) rfl ?_) | (apply ks_extr; refine s_extr (y_extract rfl rfl rfl) rfl ?_) | (apply ks_conv; first | fail | refine s_conv (c_conv (k := .i64) rfl rfl ⟨by omega, by omega⟩) rfl ?_ | refine s_conv (c_conv (k := .u8) rfl rfl ⟨by omega, by omega⟩) rfl ?_ | refine s_conv (c_conv (k := .u64) rfl rfl ⟨by omega, by omega⟩) rfl ?_ | refine s_conv (c_convw rfl rfl) rfl ?_) | (apply ks_fn; first | first | refine c_callv rfl rfl rfl (cP _) rfl rfl ?_ | refine c_callv rfl rfl rfl (cW _ _ _ _) rfl rfl ?_ | refine c_callv rfl rfl rfl (cC _) rfl rfl ?_) | (apply ks_bi; first | fail | refine s_call (c_len rfl rfl) rfl ?_ | refine s_call (c_len_str rfl rfl) rfl ?_ | refine s_call (c_bi rfl rfl rfl rfl) rfl ?_ | refine c_append rfl rfl rfl rfl (by first | rfl | simp [ints]) (by first | rfl | exact ints_one _ | exact octs_one _ | exact strs_one _) (by omega) rfl rfl (fun _ _ => ?_) | refine c_append_nil rfl rfl rfl rfl (by first | rfl | simp [ints]) (by first | rfl | exact ints_one _ | exact octs_one _ | exact strs_one _) (by omega) rfl rfl (fun _ _ => ?_)) | (apply ks_box; refine c_box rfl rfl rfl rfl rfl rfl (fun _ => ?_)) | (apply ks_bs; first | refine c_buildSlice rfl rfl rfl rfl rfl rfl rfl rfl rfl rfl (fun _ => ?_) | fail) | (apply ks_guard; first | (refine sl_gd rfl rfl rfl rfl ?_; first | (apply gd_t) | (apply gd_ft) | (apply gd_tf) | (apply gd_dec_t <;> intro hq <;> (try (exfalso; omega))) | (apply gd_dec_f <;> intro hq <;> (try (exfalso; omega))) | (apply gd_beq_t <;> intro hq <;> (try (exfalso; omega))) | (apply gd_beq_f <;> intro hq <;> (try (exfalso; omega))) | (apply gd_bne_t <;> intro hq <;> (try (exfalso; omega))) | (apply gd_bne_f <;> intro hq <;> (try (exfalso; omega))) | (apply gd_not_t <;> intro hq) | (apply gd_not_f <;> intro hq) | (apply gd_raw_t <;> intro hq) | (apply gd_raw_f <;> intro hq)) | refine sl_skip_u rfl rfl rfl rfl rfl rfl ?_) | fail) | (apply sw_seq) | (apply at_srd) | (apply sw_skip) | (apply sw_ret) | (apply sw_exit) | (apply sw_block) | (apply sw_region) | (refine sw_cd rfl ?_; first | (apply gd_t) | (apply gd_ft) | (apply gd_tf) | (apply gd_dec_t <;> intro hq <;> (try (exfalso; omega))) | (apply gd_dec_f <;> intro hq <;> (try (exfalso; omega))) | (apply gd_beq_t <;> intro hq <;> (try (exfalso; omega))) | (apply gd_beq_f <;> intro hq <;> (try (exfalso; omega))) | (apply gd_bne_t <;> intro hq <;> (try (exfalso; omega))) | (apply gd_bne_f <;> intro hq <;> (try (exfalso; omega))) | (apply gd_not_t <;> intro hq) | (apply gd_not_f <;> intro hq) | (apply gd_raw_t <;> intro hq) | (apply gd_raw_f <;> intro hq)) | (apply at_thn) | (apply at_thn_ret) | (apply at_thn_exit) | (apply at_inb) | (apply at_inb_ret) | (apply at_inb_exit) | refine at_inb_pass rfl ?_ | refine c_drawn (by kernel_rfl) ?_)
  all_goals (try simp only [decide_eq_true_eq, decide_eq_false_iff_not] at *)
  · exact e_scf (.own 3 1 _ 1 1 (ints [c]) :: H) (by first | exact .inl rfl | exact .inr rfl) rfl (fun _ hw => hw.subs (by repeat (first | refine Subs.cons (by repeat constructor) ?_ | exact Subs.sub (by repeat (first | exact List.Sublist.refl _ | exact List.nil_sublist _ | refine List.Sublist.cons _ ?_))))) (WrR.yes (l := [c]) (Hg.out.2 ⟨by assumption, by omega⟩) rfl rfl (by decide))
  all_goals
    refine e_scf H (by first | exact .inl rfl | exact .inr rfl) rfl (fun _ hw => hw.subs (by repeat (first | refine Subs.cons (by repeat constructor) ?_ | exact Subs.sub (by repeat (first | exact List.Sublist.refl _ | exact List.nil_sublist _ | refine List.Sublist.cons _ ?_))))) (WrR.no fun h => ?_)
    have h2 := Hg.out.1 h
    first | (exact absurd h2.1 (by assumption)) | omega
theorem write_2 (G : Ctx) (H : List Ent) (c : Int) (a : Option Addr) (cp : Nat) : SC Tryd.prog G 13 [acV 2 c 0 e0 a 0 cp e0] H (WrR G H (2, c, 0, e0, [], e0)) := by
  have cP := fun H => plain_sv G H 2 c 0 e0 a 0 cp e0
  rw [show plB 2 c 0 e0 ((0 : Nat) : Int) e0 = true from rfl] at cP
  have cW := fun H n l h => pWithin_sv G H n l h
  have Hg := Lib.hid (goodW_2 (c := c))
  refine sc_enter1 Tryd.func13 rfl rfl rfl rfl rfl ?_
  repeat' (first | (apply g_sl; first | (apply ks_nil; refine sl_nil ?_) | (apply ks_move; refine s_move rfl rfl ?_) | (apply ks_bin; refine s_bin rfl rfl rfl ?_; first | fail | (first | (apply kb_add; first | refine bb_add ⟨by omega, by omega⟩ ?_ | refine bb_of rfl ?_) | refine bb_of rfl ?_)) | (apply ks_load; first | (refine s_load rfl rfl ?_; first | refine ld_cell rfl ?_ | refine ld_whole rfl ?_ | refine ld_elem rfl ?_ | refine ld_part rfl rfl ?_) | fail) | (apply ks_asgn; refine s_asgn rfl rfl ?_) | (apply ks_pick; refine s_pick rfl rfl ?_; first | (apply kp_t; refine pk_t rfl ?_) | (apply kp_f; refine pk_f rfl ?_) | refine pk_s rfl rfl ?_) | (apply ks_field; first | refine s_field (c_field0 rfl rfl) rfl ?_ | refine s_field (c_field rfl rfl) rfl ?_) | (apply ks_un; refine s_un (y_un rfl rfl rfl) rfl ?_) | (apply ks_extr; refine s_extr (y_extract rfl rfl rfl) rfl ?_) | (apply ks_conv; first | fail | refine s_conv (c_conv (k := .i64) rfl rfl ⟨by omega, by omega⟩) rfl ?_ | refine s_conv (c_conv (k := .u8) rfl rfl ⟨by omega, by omega⟩) rfl ?_ | refine s_conv (c_conv (k := .u64) rfl rfl ⟨by omega, by omega⟩) rfl ?_ | refine s_conv (c_convw rfl rfl) rfl ?_) | (apply ks_fn; first | first | refine c_callv rfl rfl rfl (cP _) rfl rfl ?_ | refine c_callv rfl rfl rfl (cW _ _ _ _) rfl rfl ?_) | (apply ks_bi; first | fail | refine s_call (c_len rfl rfl) rfl ?_ | refine s_call (c_len_str rfl rfl) rfl ?_ | refine s_call (c_bi rfl rfl rfl rfl) rfl ?_ | refine c_append rfl rfl rfl rfl (by first | rfl | simp [ints]) (by first | rfl | exact ints_one _ | exact octs_one _ | exact strs_one _) (by omega) rfl rfl (fun _ _ => ?_) | refine c_append_nil rfl rfl rfl rfl (by first | rfl | simp [ints]) (by first | rfl | exact ints_one _ | exact octs_one _ | exact strs_one _) (by omega) rfl rfl (fun _ _ => ?_)) | (apply ks_box; refine c_box rfl rfl rfl rfl rfl rfl (fun _ => ?_)) | (apply ks_bs; first | refine c_buildSlice rfl rfl rfl rfl rfl rfl rfl rfl rfl rfl (fun _ => ?_) | fail) | (apply ks_guard; first | (refine sl_gd rfl rfl rfl rfl ?_; first | (apply gd_t) | (apply gd_ft) | (apply gd_tf) | (apply gd_dec_t <;> intro hq <;> (try (exfalso; omega))) | (apply gd_dec_f <;> intro hq <;> (try (exfalso; omega))) | (apply gd_beq_t <;> intro hq <;> (try (exfalso; omega))) | (apply gd_beq_f <;> intro hq <;> (try (exfalso; omega))) | (apply gd_bne_t <;> intro hq <;> (try (exfalso; omega))) | (apply gd_bne_f <;> intro hq <;> (try (exfalso; omega))) | (apply gd_not_t <;> intro hq) | (apply gd_not_f <;> intro hq) | (apply gd_raw_t <;> intro hq) | (apply gd_raw_f <;> intro hq)) | refine sl_skip_u rfl rfl rfl rfl rfl rfl ?_) | fail) | (apply sw_seq) | (apply at_srd) | (apply sw_skip) | (apply sw_ret) | (apply sw_exit) | (apply sw_block) | (apply sw_region) | (refine sw_cd rfl ?_; first | (apply gd_t) | (apply gd_ft) | (apply gd_tf) | (apply gd_dec_t <;> intro hq <;> (try (exfalso; omega))) | (apply gd_dec_f <;> intro hq <;> (try (exfalso; omega))) | (apply gd_beq_t <;> intro hq <;> (try (exfalso; omega))) | (apply gd_beq_f <;> intro hq <;> (try (exfalso; omega))) | (apply gd_bne_t <;> intro hq <;> (try (exfalso; omega))) | (apply gd_bne_f <;> intro hq <;> (try (exfalso; omega))) | (apply gd_not_t <;> intro hq) | (apply gd_not_f <;> intro hq) | (apply gd_raw_t <;> intro hq) | (apply gd_raw_f <;> intro hq)) | (apply at_thn) | (apply at_thn_ret) | (apply at_thn_exit) | (apply at_inb) | (apply at_inb_ret) | (apply at_inb_exit) | refine at_inb_pass rfl ?_ | refine c_drawn (by kernel_rfl) ?_)
  all_goals first
    | exact e_scf (.own 3 1 _ 1 1 (ints [c]) :: H) (by first | exact .inl rfl | exact .inr rfl) rfl (fun _ hw => hw.subs (by repeat (first | refine Subs.cons (by repeat constructor) ?_ | exact Subs.sub (by repeat (first | exact List.Sublist.refl _ | exact List.nil_sublist _ | refine List.Sublist.cons _ ?_))))) (WrR.yes (l := [c]) (Hg.out.2 (by omega)) rfl rfl (by decide))
    | (refine e_scf H (by first | exact .inl rfl | exact .inr rfl) rfl (fun _ hw => hw.subs (by repeat (first | refine Subs.cons (by repeat constructor) ?_ | exact Subs.sub (by repeat (first | exact List.Sublist.refl _ | exact List.nil_sublist _ | refine List.Sublist.cons _ ?_))))) (WrR.no fun h => ?_)
       have h2 := Hg.out.1 h
       omega)
theorem low_of {i : ByteArray} (h : inI i 2 = 1) : ∀ x ∈ nums i, 0 ≤ x ∧ x < 128 := fun x hx => by
  have := inB_rng (((inI2_iff i).1 h).1 x hx)
  omega
theorem write_3 (G : Ctx) (H : List Ent) (c : Int) (i : ByteArray) (hi : i.size ≤ 2000000) (a : Option Addr) (cp : Nat) : SC Tryd.prog G 13 [acV 3 c 0 i a 0 cp e0] H (WrR G H (3, c, 0, i, [], e0)) := by
  have cP := fun H => plain_sv G H 3 c 0 i a 0 cp e0
  rw [show plB 3 c 0 i ((0 : Nat) : Int) e0 = true from by unfold plB; simp] at cP
  have cW := fun H n l h => pWithin_sv G H n l h
  have cI := fun H => inters_sv G H i 2 (by omega)
  have cX := fun H hx => fin_ix G H c hx
  have hg := goodW_3 (c := c) (i := i)
  rw [← inI2_iff] at hg
  have hlz : i.size = 0 ↔ i = e0 := ⟨fun h => (nil_e0 h).1, fun h => by rw [h]; rfl⟩
  have Hg := Lib.hid hg
  clear hg
  by_cases hin : inI i 2 = 1
  · have cR := fun H => runesA_sc G H i (low_of hin) (by omega)
    have hsz : i.size ≤ 2 := ((inI2_iff i).1 hin).2
    have hl := nums_length i
    have hli : (ints (nums i)).length = i.size * 1 := by simp [ints, hl]
    have hone : (ints (nums i)).all (·.oneCell') = true := by simp [ints, Value.oneCell']
    rw [decide_eq_true hin] at cI
    rw [hl] at cR
    refine sc_enter1 Tryd.func13 rfl rfl rfl rfl rfl ?_
    repeat' (first | (apply g_sl; first | (apply ks_nil; refine sl_nil ?_) | (apply ks_move; refine s_move rfl rfl ?_) | (apply ks_bin; refine s_bin rfl rfl rfl ?_; first | first | (refine bb_sne ?_) | (refine s_conv (c_conv (k := .u8) rfl rfl ⟨by omega, by omega⟩) rfl ?_) | (refine c_append rfl rfl rfl rfl hli hone (by omega) rfl rfl (fun _ _ => ?_)) | (first | (apply kb_add; first | refine bb_add ⟨by omega, by omega⟩ ?_ | refine bb_of rfl ?_) | refine bb_of rfl ?_)) | (apply ks_load; first | (refine s_load rfl rfl ?_; first | refine ld_cell rfl ?_ | refine ld_whole rfl ?_ | refine ld_elem rfl ?_ | refine ld_part rfl rfl ?_) | first | (refine bb_sne ?_) | (refine s_conv (c_conv (k := .u8) rfl rfl ⟨by omega, by omega⟩) rfl ?_) | (refine c_append rfl rfl rfl rfl hli hone (by omega) rfl rfl (fun _ _ => ?_))) | (apply ks_asgn; refine s_asgn rfl rfl ?_) | (apply ks_pick; refine s_pick rfl rfl ?_; first | (apply kp_t; refine pk_t rfl ?_) | (apply kp_f; refine pk_f rfl ?_) | refine pk_s rfl rfl ?_) | (apply ks_field; first | refine s_field (c_field0 rfl rfl) rfl ?_ | refine s_field (c_field rfl rfl) rfl ?_) | (apply ks_un; refine s_un (y_un rfl rfl rfl) rfl ?_) | (apply ks_extr; refine s_extr (y_extract rfl rfl rfl) rfl ?_) | (apply ks_conv; first | first | (refine bb_sne ?_) | (refine s_conv (c_conv (k := .u8) rfl rfl ⟨by omega, by omega⟩) rfl ?_) | (refine c_append rfl rfl rfl rfl hli hone (by omega) rfl rfl (fun _ _ => ?_)) | refine s_conv (c_conv (k := .i64) rfl rfl ⟨by omega, by omega⟩) rfl ?_ | refine s_conv (c_conv (k := .u8) rfl rfl ⟨by omega, by omega⟩) rfl ?_ | refine s_conv (c_conv (k := .u64) rfl rfl ⟨by omega, by omega⟩) rfl ?_ | refine s_conv (c_convw rfl rfl) rfl ?_) | (apply ks_fn; first | first | refine c_callv rfl rfl rfl (cP _) rfl rfl ?_ | refine c_callv rfl rfl rfl (cW _ _ _ _) rfl rfl ?_ | refine c_callv rfl rfl rfl (cI _) rfl rfl ?_ | refine c_callv rfl rfl rfl (cX _ (by omega)) rfl rfl ?_ | (refine c_call rfl rfl rfl (cR _) rfl rfl ?_; rintro _ _ ⟨_, _, rfl, rfl⟩)) | (apply ks_bi; first | first | (refine bb_sne ?_) | (refine s_conv (c_conv (k := .u8) rfl rfl ⟨by omega, by omega⟩) rfl ?_) | (refine c_append rfl rfl rfl rfl hli hone (by omega) rfl rfl (fun _ _ => ?_)) | refine s_call (c_len rfl rfl) rfl ?_ | refine s_call (c_len_str rfl rfl) rfl ?_ | refine s_call (c_bi rfl rfl rfl rfl) rfl ?_ | refine c_append rfl rfl rfl rfl (by first | rfl | simp [ints]) (by first | rfl | exact ints_one _ | exact octs_one _ | exact strs_one _) (by omega) rfl rfl (fun _ _ => ?_) | refine c_append_nil rfl rfl rfl rfl (by first | rfl | simp [ints]) (by first | rfl | exact ints_one _ | exact octs_one _ | exact strs_one _) (by omega) rfl rfl (fun _ _ => ?_)) | (apply ks_box; refine c_box rfl rfl rfl rfl rfl rfl (fun _ => ?_)) | (apply ks_bs; first | refine c_buildSlice rfl rfl rfl rfl rfl rfl rfl rfl rfl rfl (fun _ => ?_) | first | (refine bb_sne ?_) | (refine s_conv (c_conv (k := .u8) rfl rfl ⟨by omega, by omega⟩) rfl ?_) | (refine c_append rfl rfl rfl rfl hli hone (by omega) rfl rfl (fun _ _ => ?_))) | (apply ks_guard; first | (refine sl_gd rfl rfl rfl rfl ?_; first | (apply gd_t) | (apply gd_ft) | (apply gd_tf) | (apply gd_dec_t <;> intro hq <;> (try (exfalso; omega))) | (apply gd_dec_f <;> intro hq <;> (try (exfalso; omega))) | (apply gd_beq_t <;> intro hq <;> (try (exfalso; omega))) | (apply gd_beq_f <;> intro hq <;> (try (exfalso; omega))) | (apply gd_bne_t <;> intro hq <;> (try (exfalso; omega))) | (apply gd_bne_f <;> intro hq <;> (try (exfalso; omega))) | (apply gd_not_t <;> intro hq) | (apply gd_not_f <;> intro hq) | (apply gd_raw_t <;> intro hq) | (apply gd_raw_f <;> intro hq)) | refine sl_skip_u rfl rfl rfl rfl rfl rfl ?_) | first | (refine bb_sne ?_) | (refine s_conv (c_conv (k := .u8) rfl rfl ⟨by omega, by omega⟩) rfl ?_) | (refine c_append rfl rfl rfl rfl hli hone (by omega) rfl rfl (fun _ _ => ?_))) | (apply sw_seq) | (apply at_srd) | (apply sw_skip) | (apply sw_ret) | (apply sw_exit) | (apply sw_block) | (apply sw_region) | (refine sw_cd rfl ?_; first | (apply gd_t) | (apply gd_ft) | (apply gd_tf) | (apply gd_dec_t <;> intro hq <;> (try (exfalso; omega))) | (apply gd_dec_f <;> intro hq <;> (try (exfalso; omega))) | (apply gd_beq_t <;> intro hq <;> (try (exfalso; omega))) | (apply gd_beq_f <;> intro hq <;> (try (exfalso; omega))) | (apply gd_bne_t <;> intro hq <;> (try (exfalso; omega))) | (apply gd_bne_f <;> intro hq <;> (try (exfalso; omega))) | (apply gd_not_t <;> intro hq) | (apply gd_not_f <;> intro hq) | (apply gd_raw_t <;> intro hq) | (apply gd_raw_f <;> intro hq)) | (apply at_thn) | (apply at_thn_ret) | (apply at_thn_exit) | (apply at_inb) | (apply at_inb_ret) | (apply at_inb_exit) | refine at_inb_pass rfl ?_ | refine c_drawn (by kernel_rfl) ?_)
    all_goals (try simp only [decide_eq_true_eq, decide_eq_false_iff_not] at *)
    all_goals first
      | (refine e_scf (.own 3 1 _ (1 + i.size + 1) _ ([.int .i64 27] ++ ints (nums i) ++ [.int .i64 c]) :: H) (by first | exact .inl rfl | exact .inr rfl) rfl (fun _ hw => hw.subs (by repeat (first | refine Subs.cons (by repeat constructor) ?_ | exact Subs.sub (by repeat (first | exact List.Sublist.refl _ | exact List.nil_sublist _ | refine List.Sublist.cons _ ?_))))) (WrR.yes2 (27 :: (nums i ++ [c])) (Hg.out.2 ⟨by omega, by omega, ?_, hin⟩) rfl (by simp [ints]) (by simp only [List.length_cons, List.length_append, List.length_nil, hl]; omega) (by omega))
         first | exact .inr ((finI_neg c).1 (by assumption)) | exact .inl (Nat.pos_of_ne_zero fun e => absurd (hlz.1 e) (by assumption)))
      | (refine e_scf H (by first | exact .inl rfl | exact .inr rfl) rfl (fun _ hw => hw.subs (by repeat (first | refine Subs.cons (by repeat constructor) ?_ | exact Subs.sub (by repeat (first | exact List.Sublist.refl _ | exact List.nil_sublist _ | refine List.Sublist.cons _ ?_))))) (WrR.no fun h => ?_)
         have h2 := Hg.out.1 h
         first | omega | (rcases h2.2.2.1 with h3 | h3; (have h4 := hlz.2 (by assumption); omega); exact absurd ((finI_neg c).2 h3) (by assumption)))
  · rw [decide_eq_false hin] at cI
    refine sc_enter1 Tryd.func13 rfl rfl rfl rfl rfl ?_
    repeat' (first | (apply g_sl; first | (apply ks_nil; refine sl_nil ?_) | (apply ks_move; refine s_move rfl rfl ?_) | (apply ks_bin; refine s_bin rfl rfl rfl ?_; first | fail | (first | (apply kb_add; first | refine bb_add ⟨by omega, by omega⟩ ?_ | refine bb_of rfl ?_) | refine bb_of rfl ?_)) | (apply ks_load; first | (refine s_load rfl rfl ?_; first | refine ld_cell rfl ?_ | refine ld_whole rfl ?_ | refine ld_elem rfl ?_ | refine ld_part rfl rfl ?_) | fail) | (apply ks_asgn; refine s_asgn rfl rfl ?_) | (apply ks_pick; refine s_pick rfl rfl ?_; first | (apply kp_t; refine pk_t rfl ?_) | (apply kp_f; refine pk_f rfl ?_) | refine pk_s rfl rfl ?_) | (apply ks_field; first | refine s_field (c_field0 rfl rfl) rfl ?_ | refine s_field (c_field rfl rfl) rfl ?_) | (apply ks_un; refine s_un (y_un rfl rfl rfl) rfl ?_) | (apply ks_extr; refine s_extr (y_extract rfl rfl rfl) rfl ?_) | (apply ks_conv; first | fail | refine s_conv (c_conv (k := .i64) rfl rfl ⟨by omega, by omega⟩) rfl ?_ | refine s_conv (c_conv (k := .u8) rfl rfl ⟨by omega, by omega⟩) rfl ?_ | refine s_conv (c_conv (k := .u64) rfl rfl ⟨by omega, by omega⟩) rfl ?_ | refine s_conv (c_convw rfl rfl) rfl ?_) | (apply ks_fn; first | first | refine c_callv rfl rfl rfl (cP _) rfl rfl ?_ | refine c_callv rfl rfl rfl (cW _ _ _ _) rfl rfl ?_ | refine c_callv rfl rfl rfl (cI _) rfl rfl ?_) | (apply ks_bi; first | fail | refine s_call (c_len rfl rfl) rfl ?_ | refine s_call (c_len_str rfl rfl) rfl ?_ | refine s_call (c_bi rfl rfl rfl rfl) rfl ?_ | refine c_append rfl rfl rfl rfl (by first | rfl | simp [ints]) (by first | rfl | exact ints_one _ | exact octs_one _ | exact strs_one _) (by omega) rfl rfl (fun _ _ => ?_) | refine c_append_nil rfl rfl rfl rfl (by first | rfl | simp [ints]) (by first | rfl | exact ints_one _ | exact octs_one _ | exact strs_one _) (by omega) rfl rfl (fun _ _ => ?_)) | (apply ks_box; refine c_box rfl rfl rfl rfl rfl rfl (fun _ => ?_)) | (apply ks_bs; first | refine c_buildSlice rfl rfl rfl rfl rfl rfl rfl rfl rfl rfl (fun _ => ?_) | fail) | (apply ks_guard; first | (refine sl_gd rfl rfl rfl rfl ?_; first | (apply gd_t) | (apply gd_ft) | (apply gd_tf) | (apply gd_dec_t <;> intro hq <;> (try (exfalso; omega))) | (apply gd_dec_f <;> intro hq <;> (try (exfalso; omega))) | (apply gd_beq_t <;> intro hq <;> (try (exfalso; omega))) | (apply gd_beq_f <;> intro hq <;> (try (exfalso; omega))) | (apply gd_bne_t <;> intro hq <;> (try (exfalso; omega))) | (apply gd_bne_f <;> intro hq <;> (try (exfalso; omega))) | (apply gd_not_t <;> intro hq) | (apply gd_not_f <;> intro hq) | (apply gd_raw_t <;> intro hq) | (apply gd_raw_f <;> intro hq)) | refine sl_skip_u rfl rfl rfl rfl rfl rfl ?_) | fail) | (apply sw_seq) | (apply at_srd) | (apply sw_skip) | (apply sw_ret) | (apply sw_exit) | (apply sw_block) | (apply sw_region) | (refine sw_cd rfl ?_; first | (apply gd_t) | (apply gd_ft) | (apply gd_tf) | (apply gd_dec_t <;> intro hq <;> (try (exfalso; omega))) | (apply gd_dec_f <;> intro hq <;> (try (exfalso; omega))) | (apply gd_beq_t <;> intro hq <;> (try (exfalso; omega))) | (apply gd_beq_f <;> intro hq <;> (try (exfalso; omega))) | (apply gd_bne_t <;> intro hq <;> (try (exfalso; omega))) | (apply gd_bne_f <;> intro hq <;> (try (exfalso; omega))) | (apply gd_not_t <;> intro hq) | (apply gd_not_f <;> intro hq) | (apply gd_raw_t <;> intro hq) | (apply gd_raw_f <;> intro hq)) | (apply at_thn) | (apply at_thn_ret) | (apply at_thn_exit) | (apply at_inb) | (apply at_inb_ret) | (apply at_inb_exit) | refine at_inb_pass rfl ?_ | refine c_drawn (by kernel_rfl) ?_)
    all_goals
      refine e_scf H (by first | exact .inl rfl | exact .inr rfl) rfl (fun _ hw => hw.subs (by repeat (first | refine Subs.cons (by repeat constructor) ?_ | exact Subs.sub (by repeat (first | exact List.Sublist.refl _ | exact List.nil_sublist _ | refine List.Sublist.cons _ ?_))))) (WrR.no fun h => ?_)
      exact absurd (Hg.out.1 h).2.2.2 hin
theorem okA_low {S : ByteArray} (h : ∀ x ∈ nums S, okA x = true) : ∀ x ∈ nums S, 0 ≤ x ∧ x < 128 := fun x hx => by
  have := okA_rng (h x hx)
  omega
theorem write_4 (G : Ctx) (H : List Ent) (hT : ∀ H, Pow10 G H) (c m : Int) (i : ByteArray) (hi : i.size ≤ 2000000) (L : List Int) (a : Option Addr) (cp : Nat) [h1 : ∀ H, RdC G H a (ints L)] (hmn : L.length ≤ 2000000) : SC Tryd.prog G 13 [acV 4 c m i a L.length cp e0] H (WrR G H (4, c, m, i, L, e0)) := by
  have cP := fun H => plain_sv G H 4 c m i a L.length cp e0
  rw [show plB 4 c m i ((L.length : Nat) : Int) e0 = true from by unfold plB; simp] at cP
  have cW := fun H n l h => pWithin_sv G H n l h
  have cI := fun H => inters_sv G H i 2 (by omega)
  have cA := fun H => argsWrite_sv G H hT L a L.length cp rfl hmn
  have hg := goodW_4 (c := c) (m := m) (i := i) (L := L)
  rw [← inI2_iff] at hg
  have hcsi : runesW (4, c, m, i, L, e0) = 27 :: 91 :: ((if m ≠ 0 then [m] else []) ++ (nums ((writeA L).1 ++ i) ++ [c])) := rfl
  have hok : (writeA L).2 = 0 → ∀ x ∈ nums (writeA L).1, 0 ≤ x ∧ x < 128 := fun h => by
    obtain ⟨hw, w1, w2, w3⟩ := writeA_ok h
    rw [hw]
    exact okA_low (readA_text L w1 w2 w3).1
  generalize (writeA L).1 = S at *
  generalize (writeA L).2 = E at *
  have Hg := Lib.hid hg
  have Hcsi := Lib.hid hcsi
  clear hg hcsi hmn hT
  by_cases hin : inI i 2 = 1 ∧ E = 0 ∧ S.size ≤ 100
  · obtain ⟨hin, rfl, hS⟩ := hin
    have hsz : i.size ≤ 2 := ((inI2_iff i).1 hin).2
    obtain ⟨T, hTt⟩ : ∃ T, S ++ i = T := ⟨_, rfl⟩
    have hTz : T.size ≤ 102 := by rw [← hTt, size_cat]; omega
    have hlow : ∀ x ∈ nums T, 0 ≤ x ∧ x < 128 := fun x hx => by
      rw [← hTt, nums_append] at hx
      rcases List.mem_append.1 hx with hx | hx
      · exact hok rfl x hx
      · exact low_of hin x hx
    have cR := fun H => runesA_sc G H T hlow (by omega)
    have hl := nums_length T
    have hli : (ints (nums T)).length = T.size * 1 := by simp [ints, hl]
    have hone : (ints (nums T)).all (·.oneCell') = true := by simp [ints, Value.oneCell']
    have hcat : S.size + i.size ≤ 9223372036854775807 := by omega
    rw [decide_eq_true hin] at cI
    rw [hl] at cR
    have Hcsi2 := Hcsi.out
    rw [hTt] at Hcsi2
    clear Hcsi hlow hok
    have Hcsi := Lib.hid Hcsi2
    clear Hcsi2
    by_cases hm0 : m = 0
    · subst hm0
      refine sc_enter1 Tryd.func13 rfl rfl rfl rfl rfl ?_
      repeat' (first | (apply g_sl; first | (apply ks_nil; refine sl_nil ?_) | (apply ks_move; refine s_move rfl rfl ?_) | (apply ks_bin; refine s_bin rfl rfl rfl ?_; first | first | (refine bb_catV hTt hcat ?_) | (refine c_append rfl rfl rfl rfl hli hone (by omega) rfl rfl (fun _ _ => ?_)) | (first | (apply kb_add; first | refine bb_add ⟨by omega, by omega⟩ ?_ | refine bb_of rfl ?_) | refine bb_of rfl ?_)) | (apply ks_load; first | (refine s_load rfl rfl ?_; first | refine ld_cell rfl ?_ | refine ld_whole rfl ?_ | refine ld_elem rfl ?_ | refine ld_part rfl rfl ?_) | first | (refine bb_catV hTt hcat ?_) | (refine c_append rfl rfl rfl rfl hli hone (by omega) rfl rfl (fun _ _ => ?_))) | (apply ks_asgn; refine s_asgn rfl rfl ?_) | (apply ks_pick; refine s_pick rfl rfl ?_; first | (apply kp_t; refine pk_t rfl ?_) | (apply kp_f; refine pk_f rfl ?_) | refine pk_s rfl rfl ?_) | (apply ks_field; first | refine s_field (c_field0 rfl rfl) rfl ?_ | refine s_field (c_field rfl rfl) rfl ?_) | (apply ks_un; refine s_un (y_un rfl rfl rfl) rfl ?_) | (apply ks_extr; refine s_extr (y_extract rfl rfl rfl) rfl ?_) | (apply ks_conv; first | first | (refine bb_catV hTt hcat ?_) | (refine c_append rfl rfl rfl rfl hli hone (by omega) rfl rfl (fun _ _ => ?_)) | refine s_conv (c_conv (k := .i64) rfl rfl ⟨by omega, by omega⟩) rfl ?_ | refine s_conv (c_conv (k := .u8) rfl rfl ⟨by omega, by omega⟩) rfl ?_ | refine s_conv (c_conv (k := .u64) rfl rfl ⟨by omega, by omega⟩) rfl ?_ | refine s_conv (c_convw rfl rfl) rfl ?_) | (apply ks_fn; first | first | refine c_callv rfl rfl rfl (cP _) rfl rfl ?_ | refine c_callv rfl rfl rfl (cW _ _ _ _) rfl rfl ?_ | refine c_callv rfl rfl rfl (cI _) rfl rfl ?_ | refine c_callv rfl rfl rfl (cA _) rfl rfl ?_ | (refine c_call rfl rfl rfl (cR _) rfl rfl ?_; rintro _ _ ⟨_, _, rfl, rfl⟩)) | (apply ks_bi; first | first | (refine bb_catV hTt hcat ?_) | (refine c_append rfl rfl rfl rfl hli hone (by omega) rfl rfl (fun _ _ => ?_)) | refine s_call (c_len rfl rfl) rfl ?_ | refine s_call (c_len_str rfl rfl) rfl ?_ | refine s_call (c_bi rfl rfl rfl rfl) rfl ?_ | refine c_append rfl rfl rfl rfl (by first | rfl | simp [ints]) (by first | rfl | exact ints_one _ | exact octs_one _ | exact strs_one _) (by omega) rfl rfl (fun _ _ => ?_) | refine c_append_nil rfl rfl rfl rfl (by first | rfl | simp [ints]) (by first | rfl | exact ints_one _ | exact octs_one _ | exact strs_one _) (by omega) rfl rfl (fun _ _ => ?_)) | (apply ks_box; refine c_box rfl rfl rfl rfl rfl rfl (fun _ => ?_)) | (apply ks_bs; first | refine c_buildSlice rfl rfl rfl rfl rfl rfl rfl rfl rfl rfl (fun _ => ?_) | first | (refine bb_catV hTt hcat ?_) | (refine c_append rfl rfl rfl rfl hli hone (by omega) rfl rfl (fun _ _ => ?_))) | (apply ks_guard; first | (refine sl_gd rfl rfl rfl rfl ?_; first | (apply gd_t) | (apply gd_ft) | (apply gd_tf) | (apply gd_dec_t <;> intro hq <;> (try (exfalso; omega))) | (apply gd_dec_f <;> intro hq <;> (try (exfalso; omega))) | (apply gd_beq_t <;> intro hq <;> (try (exfalso; omega))) | (apply gd_beq_f <;> intro hq <;> (try (exfalso; omega))) | (apply gd_bne_t <;> intro hq <;> (try (exfalso; omega))) | (apply gd_bne_f <;> intro hq <;> (try (exfalso; omega))) | (apply gd_not_t <;> intro hq) | (apply gd_not_f <;> intro hq) | (apply gd_raw_t <;> intro hq) | (apply gd_raw_f <;> intro hq)) | refine sl_skip_u rfl rfl rfl rfl rfl rfl ?_) | first | (refine bb_catV hTt hcat ?_) | (refine c_append rfl rfl rfl rfl hli hone (by omega) rfl rfl (fun _ _ => ?_))) | (apply sw_seq) | (apply at_srd) | (apply sw_skip) | (apply sw_ret) | (apply sw_exit) | (apply sw_block) | (apply sw_region) | (refine sw_cd rfl ?_; first | (apply gd_t) | (apply gd_ft) | (apply gd_tf) | (apply gd_dec_t <;> intro hq <;> (try (exfalso; omega))) | (apply gd_dec_f <;> intro hq <;> (try (exfalso; omega))) | (apply gd_beq_t <;> intro hq <;> (try (exfalso; omega))) | (apply gd_beq_f <;> intro hq <;> (try (exfalso; omega))) | (apply gd_bne_t <;> intro hq <;> (try (exfalso; omega))) | (apply gd_bne_f <;> intro hq <;> (try (exfalso; omega))) | (apply gd_not_t <;> intro hq) | (apply gd_not_f <;> intro hq) | (apply gd_raw_t <;> intro hq) | (apply gd_raw_f <;> intro hq)) | (apply at_thn) | (apply at_thn_ret) | (apply at_thn_exit) | (apply at_inb) | (apply at_inb_ret) | (apply at_inb_exit) | refine at_inb_pass rfl ?_ | refine c_drawn (by kernel_rfl) ?_)
      all_goals first
        | (refine e_scf (.own 3 1 _ (2 + T.size + 1) _ ([.int .i64 27, .int .i64 91] ++ ints (nums T) ++ [.int .i64 c]) :: H) (by first | exact .inl rfl | exact .inr rfl) rfl (fun _ hw => hw.subs (by repeat (first | refine Subs.cons (by repeat constructor) ?_ | exact Subs.sub (by repeat (first | exact List.Sublist.refl _ | exact List.nil_sublist _ | refine List.Sublist.cons _ ?_))))) (WrR.yes2 (27 :: 91 :: (nums T ++ [c])) (Hg.out.2 ⟨⟨by omega, by omega, .inl rfl, hin⟩, rfl, hS⟩) (by rw [Hcsi.out]; rfl) (by simp [ints]) (by simp only [List.length_cons, List.length_append, List.length_nil, hl]; omega) (by omega)))
        | (refine e_scf H (by first | exact .inl rfl | exact .inr rfl) rfl (fun _ hw => hw.subs (by repeat (first | refine Subs.cons (by repeat constructor) ?_ | exact Subs.sub (by repeat (first | exact List.Sublist.refl _ | exact List.nil_sublist _ | refine List.Sublist.cons _ ?_))))) (WrR.no fun h => ?_)
           have h2 := Hg.out.1 h
           omega)
    · by_cases hm1 : 60 ≤ m ∧ m ≤ 63
      · have hcs : runesW (4, c, m, i, L, e0) = 27 :: 91 :: m :: (nums T ++ [c]) := by
          rw [Hcsi.out, if_pos hm0]
          rfl
        refine sc_enter1 Tryd.func13 rfl rfl rfl rfl rfl ?_
        repeat' (first | (apply g_sl; first | (apply ks_nil; refine sl_nil ?_) | (apply ks_move; refine s_move rfl rfl ?_) | (apply ks_bin; refine s_bin rfl rfl rfl ?_; first | first | (refine bb_catV hTt hcat ?_) | (refine c_append rfl rfl rfl rfl hli hone (by omega) rfl rfl (fun _ _ => ?_)) | (first | (apply kb_add; first | refine bb_add ⟨by omega, by omega⟩ ?_ | refine bb_of rfl ?_) | refine bb_of rfl ?_)) | (apply ks_load; first | (refine s_load rfl rfl ?_; first | refine ld_cell rfl ?_ | refine ld_whole rfl ?_ | refine ld_elem rfl ?_ | refine ld_part rfl rfl ?_) | first | (refine bb_catV hTt hcat ?_) | (refine c_append rfl rfl rfl rfl hli hone (by omega) rfl rfl (fun _ _ => ?_))) | (apply ks_asgn; refine s_asgn rfl rfl ?_) | (apply ks_pick; refine s_pick rfl rfl ?_; first | (apply kp_t; refine pk_t rfl ?_) | (apply kp_f; refine pk_f rfl ?_) | refine pk_s rfl rfl ?_) | (apply ks_field; first | refine s_field (c_field0 rfl rfl) rfl ?_ | refine s_field (c_field rfl rfl) rfl ?_) | (apply ks_un; refine s_un (y_un rfl rfl rfl) rfl ?_) | (apply ks_extr; refine s_extr (y_extract rfl rfl rfl) rfl ?_) | (apply ks_conv; first | first | (refine bb_catV hTt hcat ?_) | (refine c_append rfl rfl rfl rfl hli hone (by omega) rfl rfl (fun _ _ => ?_)) | refine s_conv (c_conv (k := .i64) rfl rfl ⟨by omega, by omega⟩) rfl ?_ | refine s_conv (c_conv (k := .u8) rfl rfl ⟨by omega, by omega⟩) rfl ?_ | refine s_conv (c_conv (k := .u64) rfl rfl ⟨by omega, by omega⟩) rfl ?_ | refine s_conv (c_convw rfl rfl) rfl ?_) | (apply ks_fn; first | first | refine c_callv rfl rfl rfl (cP _) rfl rfl ?_ | refine c_callv rfl rfl rfl (cW _ _ _ _) rfl rfl ?_ | refine c_callv rfl rfl rfl (cI _) rfl rfl ?_ | refine c_callv rfl rfl rfl (cA _) rfl rfl ?_ | (refine c_call rfl rfl rfl (cR _) rfl rfl ?_; rintro _ _ ⟨_, _, rfl, rfl⟩)) | (apply ks_bi; first | first | (refine bb_catV hTt hcat ?_) | (refine c_append rfl rfl rfl rfl hli hone (by omega) rfl rfl (fun _ _ => ?_)) | refine s_call (c_len rfl rfl) rfl ?_ | refine s_call (c_len_str rfl rfl) rfl ?_ | refine s_call (c_bi rfl rfl rfl rfl) rfl ?_ | refine c_append rfl rfl rfl rfl (by first | rfl | simp [ints]) (by first | rfl | exact ints_one _ | exact octs_one _ | exact strs_one _) (by omega) rfl rfl (fun _ _ => ?_) | refine c_append_nil rfl rfl rfl rfl (by first | rfl | simp [ints]) (by first | rfl | exact ints_one _ | exact octs_one _ | exact strs_one _) (by omega) rfl rfl (fun _ _ => ?_)) | (apply ks_box; refine c_box rfl rfl rfl rfl rfl rfl (fun _ => ?_)) | (apply ks_bs; first | refine c_buildSlice rfl rfl rfl rfl rfl rfl rfl rfl rfl rfl (fun _ => ?_) | first | (refine bb_catV hTt hcat ?_) | (refine c_append rfl rfl rfl rfl hli hone (by omega) rfl rfl (fun _ _ => ?_))) | (apply ks_guard; first | (refine sl_gd rfl rfl rfl rfl ?_; first | (apply gd_t) | (apply gd_ft) | (apply gd_tf) | (apply gd_dec_t <;> intro hq <;> (try (exfalso; omega))) | (apply gd_dec_f <;> intro hq <;> (try (exfalso; omega))) | (apply gd_beq_t <;> intro hq <;> (try (exfalso; omega))) | (apply gd_beq_f <;> intro hq <;> (try (exfalso; omega))) | (apply gd_bne_t <;> intro hq <;> (try (exfalso; omega))) | (apply gd_bne_f <;> intro hq <;> (try (exfalso; omega))) | (apply gd_not_t <;> intro hq) | (apply gd_not_f <;> intro hq) | (apply gd_raw_t <;> intro hq) | (apply gd_raw_f <;> intro hq)) | refine sl_skip_u rfl rfl rfl rfl rfl rfl ?_) | first | (refine bb_catV hTt hcat ?_) | (refine c_append rfl rfl rfl rfl hli hone (by omega) rfl rfl (fun _ _ => ?_))) | (apply sw_seq) | (apply at_srd) | (apply sw_skip) | (apply sw_ret) | (apply sw_exit) | (apply sw_block) | (apply sw_region) | (refine sw_cd rfl ?_; first | (apply gd_t) | (apply gd_ft) | (apply gd_tf) | (apply gd_dec_t <;> intro hq <;> (try (exfalso; omega))) | (apply gd_dec_f <;> intro hq <;> (try (exfalso; omega))) | (apply gd_beq_t <;> intro hq <;> (try (exfalso; omega))) | (apply gd_beq_f <;> intro hq <;> (try (exfalso; omega))) | (apply gd_bne_t <;> intro hq <;> (try (exfalso; omega))) | (apply gd_bne_f <;> intro hq <;> (try (exfalso; omega))) | (apply gd_not_t <;> intro hq) | (apply gd_not_f <;> intro hq) | (apply gd_raw_t <;> intro hq) | (apply gd_raw_f <;> intro hq)) | (apply at_thn) | (apply at_thn_ret) | (apply at_thn_exit) | (apply at_inb) | (apply at_inb_ret) | (apply at_inb_exit) | refine at_inb_pass rfl ?_ | refine c_drawn (by kernel_rfl) ?_)
        all_goals first
          | (exfalso; omega)
          | (refine e_scf (.own 3 1 _ (2 + 1 + T.size + 1) _ ([.int .i64 27, .int .i64 91] ++ [.int .i64 m] ++ ints (nums T) ++ [.int .i64 c]) :: H) (by first | exact .inl rfl | exact .inr rfl) rfl (fun _ hw => hw.subs (by repeat (first | refine Subs.cons (by repeat constructor) ?_ | exact Subs.sub (by repeat (first | exact List.Sublist.refl _ | exact List.nil_sublist _ | refine List.Sublist.cons _ ?_))))) (WrR.yes2 (27 :: 91 :: m :: (nums T ++ [c])) (Hg.out.2 ⟨⟨by omega, by omega, .inr hm1, hin⟩, rfl, hS⟩) hcs.symm (by simp [ints]) (by simp only [List.length_cons, List.length_append, List.length_nil, hl]; omega) (by omega)))
          | (refine e_scf H (by first | exact .inl rfl | exact .inr rfl) rfl (fun _ hw => hw.subs (by repeat (first | refine Subs.cons (by repeat constructor) ?_ | exact Subs.sub (by repeat (first | exact List.Sublist.refl _ | exact List.nil_sublist _ | refine List.Sublist.cons _ ?_))))) (WrR.no fun h => ?_)
             have h2 := Hg.out.1 h
             omega)
      · have cM := fun H => cW H m 60 63
        rw [decide_eq_false hm1] at cM
        refine sc_enter1 Tryd.func13 rfl rfl rfl rfl rfl ?_
        repeat' (first | (apply g_sl; first | (apply ks_nil; refine sl_nil ?_) | (apply ks_move; refine s_move rfl rfl ?_) | (apply ks_bin; refine s_bin rfl rfl rfl ?_; first | fail | (first | (apply kb_add; first | refine bb_add ⟨by omega, by omega⟩ ?_ | refine bb_of rfl ?_) | refine bb_of rfl ?_)) | (apply ks_load; first | (refine s_load rfl rfl ?_; first | refine ld_cell rfl ?_ | refine ld_whole rfl ?_ | refine ld_elem rfl ?_ | refine ld_part rfl rfl ?_) | fail) | (apply ks_asgn; refine s_asgn rfl rfl ?_) | (apply ks_pick; refine s_pick rfl rfl ?_; first | (apply kp_t; refine pk_t rfl ?_) | (apply kp_f; refine pk_f rfl ?_) | refine pk_s rfl rfl ?_) | (apply ks_field; first | refine s_field (c_field0 rfl rfl) rfl ?_ | refine s_field (c_field rfl rfl) rfl ?_) | (apply ks_un; refine s_un (y_un rfl rfl rfl) rfl ?_) | (apply ks_extr; refine s_extr (y_extract rfl rfl rfl) rfl ?_) | (apply ks_conv; first | fail | refine s_conv (c_conv (k := .i64) rfl rfl ⟨by omega, by omega⟩) rfl ?_ | refine s_conv (c_conv (k := .u8) rfl rfl ⟨by omega, by omega⟩) rfl ?_ | refine s_conv (c_conv (k := .u64) rfl rfl ⟨by omega, by omega⟩) rfl ?_ | refine s_conv (c_convw rfl rfl) rfl ?_) | (apply ks_fn; first | first | refine c_callv rfl rfl rfl (cP _) rfl rfl ?_ | refine c_callv rfl rfl rfl (cM _) rfl rfl ?_ | refine c_callv rfl rfl rfl (cA _) rfl rfl ?_) | (apply ks_bi; first | fail | refine s_call (c_len rfl rfl) rfl ?_ | refine s_call (c_len_str rfl rfl) rfl ?_ | refine s_call (c_bi rfl rfl rfl rfl) rfl ?_ | refine c_append rfl rfl rfl rfl (by first | rfl | simp [ints]) (by first | rfl | exact ints_one _ | exact octs_one _ | exact strs_one _) (by omega) rfl rfl (fun _ _ => ?_) | refine c_append_nil rfl rfl rfl rfl (by first | rfl | simp [ints]) (by first | rfl | exact ints_one _ | exact octs_one _ | exact strs_one _) (by omega) rfl rfl (fun _ _ => ?_)) | (apply ks_box; refine c_box rfl rfl rfl rfl rfl rfl (fun _ => ?_)) | (apply ks_bs; first | refine c_buildSlice rfl rfl rfl rfl rfl rfl rfl rfl rfl rfl (fun _ => ?_) | fail) | (apply ks_guard; first | (refine sl_gd rfl rfl rfl rfl ?_; first | (apply gd_t) | (apply gd_ft) | (apply gd_tf) | (apply gd_dec_t <;> intro hq <;> (try (exfalso; omega))) | (apply gd_dec_f <;> intro hq <;> (try (exfalso; omega))) | (apply gd_beq_t <;> intro hq <;> (try (exfalso; omega))) | (apply gd_beq_f <;> intro hq <;> (try (exfalso; omega))) | (apply gd_bne_t <;> intro hq <;> (try (exfalso; omega))) | (apply gd_bne_f <;> intro hq <;> (try (exfalso; omega))) | (apply gd_not_t <;> intro hq) | (apply gd_not_f <;> intro hq) | (apply gd_raw_t <;> intro hq) | (apply gd_raw_f <;> intro hq)) | refine sl_skip_u rfl rfl rfl rfl rfl rfl ?_) | fail) | (apply sw_seq) | (apply at_srd) | (apply sw_skip) | (apply sw_ret) | (apply sw_exit) | (apply sw_block) | (apply sw_region) | (refine sw_cd rfl ?_; first | (apply gd_t) | (apply gd_ft) | (apply gd_tf) | (apply gd_dec_t <;> intro hq <;> (try (exfalso; omega))) | (apply gd_dec_f <;> intro hq <;> (try (exfalso; omega))) | (apply gd_beq_t <;> intro hq <;> (try (exfalso; omega))) | (apply gd_beq_f <;> intro hq <;> (try (exfalso; omega))) | (apply gd_bne_t <;> intro hq <;> (try (exfalso; omega))) | (apply gd_bne_f <;> intro hq <;> (try (exfalso; omega))) | (apply gd_not_t <;> intro hq) | (apply gd_not_f <;> intro hq) | (apply gd_raw_t <;> intro hq) | (apply gd_raw_f <;> intro hq)) | (apply at_thn) | (apply at_thn_ret) | (apply at_thn_exit) | (apply at_inb) | (apply at_inb_ret) | (apply at_inb_exit) | refine at_inb_pass rfl ?_ | refine c_drawn (by kernel_rfl) ?_)
        all_goals first
          | (exfalso; omega)
          | (refine e_scf H (by first | exact .inl rfl | exact .inr rfl) rfl (fun _ hw => hw.subs (by repeat (first | refine Subs.cons (by repeat constructor) ?_ | exact Subs.sub (by repeat (first | exact List.Sublist.refl _ | exact List.nil_sublist _ | refine List.Sublist.cons _ ?_))))) (WrR.no fun h => ?_)
             have h2 := Hg.out.1 h
             omega)
  · refine sc_enter1 Tryd.func13 rfl rfl rfl rfl rfl ?_
    repeat' (first | (apply g_sl; first | (apply ks_nil; refine sl_nil ?_) | (apply ks_move; refine s_move rfl rfl ?_) | (apply ks_bin; refine s_bin rfl rfl rfl ?_; first | fail | (first | (apply kb_add; first | refine bb_add ⟨by omega, by omega⟩ ?_ | refine bb_of rfl ?_) | refine bb_of rfl ?_)) | (apply ks_load; first | (refine s_load rfl rfl ?_; first | refine ld_cell rfl ?_ | refine ld_whole rfl ?_ | refine ld_elem rfl ?_ | refine ld_part rfl rfl ?_) | fail) | (apply ks_asgn; refine s_asgn rfl rfl ?_) | (apply ks_pick; refine s_pick rfl rfl ?_; first | (apply kp_t; refine pk_t rfl ?_) | (apply kp_f; refine pk_f rfl ?_) | refine pk_s rfl rfl ?_) | (apply ks_field; first | refine s_field (c_field0 rfl rfl) rfl ?_ | refine s_field (c_field rfl rfl) rfl ?_) | (apply ks_un; refine s_un (y_un rfl rfl rfl) rfl ?_) | (apply ks_extr; refine s_extr (y_extract rfl rfl rfl) rfl ?_) | (apply ks_conv; first | fail | refine s_conv (c_conv (k := .i64) rfl rfl ⟨by omega, by omega⟩) rfl ?_ | refine s_conv (c_conv (k := .u8) rfl rfl ⟨by omega, by omega⟩) rfl ?_ | refine s_conv (c_conv (k := .u64) rfl rfl ⟨by omega, by omega⟩) rfl ?_ | refine s_conv (c_convw rfl rfl) rfl ?_) | (apply ks_fn; first | first | refine c_callv rfl rfl rfl (cP _) rfl rfl ?_ | refine c_callv rfl rfl rfl (cW _ _ _ _) rfl rfl ?_ | refine c_callv rfl rfl rfl (cI _) rfl rfl ?_ | refine c_callv rfl rfl rfl (cA _) rfl rfl ?_) | (apply ks_bi; first | fail | refine s_call (c_len rfl rfl) rfl ?_ | refine s_call (c_len_str rfl rfl) rfl ?_ | refine s_call (c_bi rfl rfl rfl rfl) rfl ?_ | refine c_append rfl rfl rfl rfl (by first | rfl | simp [ints]) (by first | rfl | exact ints_one _ | exact octs_one _ | exact strs_one _) (by omega) rfl rfl (fun _ _ => ?_) | refine c_append_nil rfl rfl rfl rfl (by first | rfl | simp [ints]) (by first | rfl | exact ints_one _ | exact octs_one _ | exact strs_one _) (by omega) rfl rfl (fun _ _ => ?_)) | (apply ks_box; refine c_box rfl rfl rfl rfl rfl rfl (fun _ => ?_)) | (apply ks_bs; first | refine c_buildSlice rfl rfl rfl rfl rfl rfl rfl rfl rfl rfl (fun _ => ?_) | fail) | (apply ks_guard; first | (refine sl_gd rfl rfl rfl rfl ?_; first | (apply gd_t) | (apply gd_ft) | (apply gd_tf) | (apply gd_dec_t <;> intro hq <;> (try (exfalso; omega))) | (apply gd_dec_f <;> intro hq <;> (try (exfalso; omega))) | (apply gd_beq_t <;> intro hq <;> (try (exfalso; omega))) | (apply gd_beq_f <;> intro hq <;> (try (exfalso; omega))) | (apply gd_bne_t <;> intro hq <;> (try (exfalso; omega))) | (apply gd_bne_f <;> intro hq <;> (try (exfalso; omega))) | (apply gd_not_t <;> intro hq) | (apply gd_not_f <;> intro hq) | (apply gd_raw_t <;> intro hq) | (apply gd_raw_f <;> intro hq)) | refine sl_skip_u rfl rfl rfl rfl rfl rfl ?_) | fail) | (apply sw_seq) | (apply at_srd) | (apply sw_skip) | (apply sw_ret) | (apply sw_exit) | (apply sw_block) | (apply sw_region) | (refine sw_cd rfl ?_; first | (apply gd_t) | (apply gd_ft) | (apply gd_tf) | (apply gd_dec_t <;> intro hq <;> (try (exfalso; omega))) | (apply gd_dec_f <;> intro hq <;> (try (exfalso; omega))) | (apply gd_beq_t <;> intro hq <;> (try (exfalso; omega))) | (apply gd_beq_f <;> intro hq <;> (try (exfalso; omega))) | (apply gd_bne_t <;> intro hq <;> (try (exfalso; omega))) | (apply gd_bne_f <;> intro hq <;> (try (exfalso; omega))) | (apply gd_not_t <;> intro hq) | (apply gd_not_f <;> intro hq) | (apply gd_raw_t <;> intro hq) | (apply gd_raw_f <;> intro hq)) | (apply at_thn) | (apply at_thn_ret) | (apply at_thn_exit) | (apply at_inb) | (apply at_inb_ret) | (apply at_inb_exit) | refine at_inb_pass rfl ?_ | refine c_drawn (by kernel_rfl) ?_)
    all_goals first
      | (exfalso; exact hin ⟨by assumption, by assumption, by omega⟩)
      | exact e_scf H (by first | exact .inl rfl | exact .inr rfl) rfl (fun _ hw => hw.subs (by repeat (first | refine Subs.cons (by repeat constructor) ?_ | exact Subs.sub (by repeat (first | exact List.Sublist.refl _ | exact List.nil_sublist _ | refine List.Sublist.cons _ ?_))))) (WrR.no fun h => hin ⟨(Hg.out.1 h).1.2.2.2, (Hg.out.1 h).2⟩)
theorem write_5 (G : Ctx) (H : List Ent) (hU : ∀ H w, Holds G H w → Lib.Utf8Tabs 0 1 w) (t : ByteArray) (ht : t.size ≤ 2000000) (a : Option Addr) (cp : Nat) : SC Tryd.prog G 13 [acV 5 0 0 e0 a 0 cp t] H (WrR G H (5, 0, 0, e0, [], t)) := by
  have cP := fun H => plain_sv G H 5 0 0 e0 a 0 cp t
  rw [show plB 5 0 0 e0 ((0 : Nat) : Int) t = true from by unfold plB; simp] at cP
  have Hg := Lib.hid (goodW_5 (t := t))
  by_cases hT : okT t
  · have cT := fun H => title_sv G H hU t ht true ⟨fun _ => hT, fun _ => rfl⟩
    have hT2 := hT
    obtain ⟨hz, R, hR, he⟩ := hT2
    have hRr : ∀ x ∈ R, isR x := fun x hx => (hR x hx).1
    have cR := fun H => runes_sc G H R hRr t he (by omega)
    have hrw : runesW (5, 0, 0, e0, [], t) = 27 :: 93 :: (R ++ [7]) := by
      show 27 :: 93 :: (runT t ++ [7]) = _
      rw [he, runT_enc hRr]
    have hli : (ints R).length = R.length * 1 := by simp [ints]
    have hone : (ints R).all (·.oneCell') = true := by simp [ints, Value.oneCell']
    have hRl : R.length ≤ 256 := by
      have h1 : (encL R).length = t.size := by rw [he, strOfNums_size]
      have h2 : ∀ R : List Int, R.length ≤ (encL R).length := fun R => by
        induction R with
        | nil => exact Nat.zero_le _
        | cons x R ih =>
          have hp := runeL_pos (fixR x)
          rw [encL_cons, List.length_append, List.length_cons]
          omega
      have := h2 R
      omega
    have Hrw := Lib.hid hrw
    clear hrw hR he hRr hU
    refine sc_enter1 Tryd.func13 rfl rfl rfl rfl rfl ?_
    repeat' (first | (apply g_sl; first | (apply ks_nil; refine sl_nil ?_) | (apply ks_move; refine s_move rfl rfl ?_) | (apply ks_bin; refine s_bin rfl rfl rfl ?_; first | first | (refine c_append rfl rfl rfl rfl hli hone (by omega) rfl rfl (fun _ _ => ?_)) | (first | (apply kb_add; first | refine bb_add ⟨by omega, by omega⟩ ?_ | refine bb_of rfl ?_) | refine bb_of rfl ?_)) | (apply ks_load; first | (refine s_load rfl rfl ?_; first | refine ld_cell rfl ?_ | refine ld_whole rfl ?_ | refine ld_elem rfl ?_ | refine ld_part rfl rfl ?_) | first | (refine c_append rfl rfl rfl rfl hli hone (by omega) rfl rfl (fun _ _ => ?_))) | (apply ks_asgn; refine s_asgn rfl rfl ?_) | (apply ks_pick; refine s_pick rfl rfl ?_; first | (apply kp_t; refine pk_t rfl ?_) | (apply kp_f; refine pk_f rfl ?_) | refine pk_s rfl rfl ?_) | (apply ks_field; first | refine s_field (c_field0 rfl rfl) rfl ?_ | refine s_field (c_field rfl rfl) rfl ?_) | (apply ks_un; refine s_un (y_un rfl rfl rfl) rfl ?_) | (apply ks_extr; refine s_extr (y_extract rfl rfl rfl) rfl ?_) | (apply ks_conv; first | first | (refine c_append rfl rfl rfl rfl hli hone (by omega) rfl rfl (fun _ _ => ?_)) | refine s_conv (c_conv (k := .i64) rfl rfl ⟨by omega, by omega⟩) rfl ?_ | refine s_conv (c_conv (k := .u8) rfl rfl ⟨by omega, by omega⟩) rfl ?_ | refine s_conv (c_conv (k := .u64) rfl rfl ⟨by omega, by omega⟩) rfl ?_ | refine s_conv (c_convw rfl rfl) rfl ?_) | (apply ks_fn; first | first | refine c_callv rfl rfl rfl (cP _) rfl rfl ?_ | refine c_callv rfl rfl rfl (cT _) rfl rfl ?_ | (refine c_call rfl rfl rfl (cR _) rfl rfl ?_; rintro _ _ ⟨_, _, rfl, rfl⟩)) | (apply ks_bi; first | first | (refine c_append rfl rfl rfl rfl hli hone (by omega) rfl rfl (fun _ _ => ?_)) | refine s_call (c_len rfl rfl) rfl ?_ | refine s_call (c_len_str rfl rfl) rfl ?_ | refine s_call (c_bi rfl rfl rfl rfl) rfl ?_ | refine c_append rfl rfl rfl rfl (by first | rfl | simp [ints]) (by first | rfl | exact ints_one _ | exact octs_one _ | exact strs_one _) (by omega) rfl rfl (fun _ _ => ?_) | refine c_append_nil rfl rfl rfl rfl (by first | rfl | simp [ints]) (by first | rfl | exact ints_one _ | exact octs_one _ | exact strs_one _) (by omega) rfl rfl (fun _ _ => ?_)) | (apply ks_box; refine c_box rfl rfl rfl rfl rfl rfl (fun _ => ?_)) | (apply ks_bs; first | refine c_buildSlice rfl rfl rfl rfl rfl rfl rfl rfl rfl rfl (fun _ => ?_) | first | (refine c_append rfl rfl rfl rfl hli hone (by omega) rfl rfl (fun _ _ => ?_))) | (apply ks_guard; first | (refine sl_gd rfl rfl rfl rfl ?_; first | (apply gd_t) | (apply gd_ft) | (apply gd_tf) | (apply gd_dec_t <;> intro hq <;> (try (exfalso; omega))) | (apply gd_dec_f <;> intro hq <;> (try (exfalso; omega))) | (apply gd_beq_t <;> intro hq <;> (try (exfalso; omega))) | (apply gd_beq_f <;> intro hq <;> (try (exfalso; omega))) | (apply gd_bne_t <;> intro hq <;> (try (exfalso; omega))) | (apply gd_bne_f <;> intro hq <;> (try (exfalso; omega))) | (apply gd_not_t <;> intro hq) | (apply gd_not_f <;> intro hq) | (apply gd_raw_t <;> intro hq) | (apply gd_raw_f <;> intro hq)) | refine sl_skip_u rfl rfl rfl rfl rfl rfl ?_) | first | (refine c_append rfl rfl rfl rfl hli hone (by omega) rfl rfl (fun _ _ => ?_))) | (apply sw_seq) | (apply at_srd) | (apply sw_skip) | (apply sw_ret) | (apply sw_exit) | (apply sw_block) | (apply sw_region) | (refine sw_cd rfl ?_; first | (apply gd_t) | (apply gd_ft) | (apply gd_tf) | (apply gd_dec_t <;> intro hq <;> (try (exfalso; omega))) | (apply gd_dec_f <;> intro hq <;> (try (exfalso; omega))) | (apply gd_beq_t <;> intro hq <;> (try (exfalso; omega))) | (apply gd_beq_f <;> intro hq <;> (try (exfalso; omega))) | (apply gd_bne_t <;> intro hq <;> (try (exfalso; omega))) | (apply gd_bne_f <;> intro hq <;> (try (exfalso; omega))) | (apply gd_not_t <;> intro hq) | (apply gd_not_f <;> intro hq) | (apply gd_raw_t <;> intro hq) | (apply gd_raw_f <;> intro hq)) | (apply at_thn) | (apply at_thn_ret) | (apply at_thn_exit) | (apply at_inb) | (apply at_inb_ret) | (apply at_inb_exit) | refine at_inb_pass rfl ?_ | refine c_drawn (by kernel_rfl) ?_)
    all_goals first
      | exact absurd rfl (by assumption)
      | exact e_scf (.own 3 1 _ (2 + R.length + 1) _ ([.int .i64 27, .int .i64 93] ++ ints R ++ [.int .i64 7]) :: H) (by first | exact .inl rfl | exact .inr rfl) rfl (fun _ hw => hw.subs (by repeat (first | refine Subs.cons (by repeat constructor) ?_ | exact Subs.sub (by repeat (first | exact List.Sublist.refl _ | exact List.nil_sublist _ | refine List.Sublist.cons _ ?_))))) (WrR.yes2 (27 :: 93 :: (R ++ [7])) (Hg.out.2 hT) Hrw.out.symm (by simp [ints]) (by simp only [List.length_cons, List.length_append, List.length_nil]; omega) (by omega))
  · have cT := fun H => title_sv G H hU t ht false ⟨fun h => (nomatch h), fun h => absurd h hT⟩
    clear hU
    refine sc_enter1 Tryd.func13 rfl rfl rfl rfl rfl ?_
    repeat' (first | (apply g_sl; first | (apply ks_nil; refine sl_nil ?_) | (apply ks_move; refine s_move rfl rfl ?_) | (apply ks_bin; refine s_bin rfl rfl rfl ?_; first | fail | (first | (apply kb_add; first | refine bb_add ⟨by omega, by omega⟩ ?_ | refine bb_of rfl ?_) | refine bb_of rfl ?_)) | (apply ks_load; first | (refine s_load rfl rfl ?_; first | refine ld_cell rfl ?_ | refine ld_whole rfl ?_ | refine ld_elem rfl ?_ | refine ld_part rfl rfl ?_) | fail) | (apply ks_asgn; refine s_asgn rfl rfl ?_) | (apply ks_pick; refine s_pick rfl rfl ?_; first | (apply kp_t; refine pk_t rfl ?_) | (apply kp_f; refine pk_f rfl ?_) | refine pk_s rfl rfl ?_) | (apply ks_field; first | refine s_field (c_field0 rfl rfl) rfl ?_ | refine s_field (c_field rfl rfl) rfl ?_) | (apply ks_un; refine s_un (y_un rfl rfl rfl) rfl ?_) | (apply ks_extr; refine s_extr (y_extract rfl rfl rfl) rfl ?_) | (apply ks_conv; first | fail | refine s_conv (c_conv (k := .i64) rfl rfl ⟨by omega, by omega⟩) rfl ?_ | refine s_conv (c_conv (k := .u8) rfl rfl ⟨by omega, by omega⟩) rfl ?_ | refine s_conv (c_conv (k := .u64) rfl rfl ⟨by omega, by omega⟩) rfl ?_ | refine s_conv (c_convw rfl rfl) rfl ?_) | (apply ks_fn; first | first | refine c_callv rfl rfl rfl (cP _) rfl rfl ?_ | refine c_callv rfl rfl rfl (cT _) rfl rfl ?_) | (apply ks_bi; first | fail | refine s_call (c_len rfl rfl) rfl ?_ | refine s_call (c_len_str rfl rfl) rfl ?_ | refine s_call (c_bi rfl rfl rfl rfl) rfl ?_ | refine c_append rfl rfl rfl rfl (by first | rfl | simp [ints]) (by first | rfl | exact ints_one _ | exact octs_one _ | exact strs_one _) (by omega) rfl rfl (fun _ _ => ?_) | refine c_append_nil rfl rfl rfl rfl (by first | rfl | simp [ints]) (by first | rfl | exact ints_one _ | exact octs_one _ | exact strs_one _) (by omega) rfl rfl (fun _ _ => ?_)) | (apply ks_box; refine c_box rfl rfl rfl rfl rfl rfl (fun _ => ?_)) | (apply ks_bs; first | refine c_buildSlice rfl rfl rfl rfl rfl rfl rfl rfl rfl rfl (fun _ => ?_) | fail) | (apply ks_guard; first | (refine sl_gd rfl rfl rfl rfl ?_; first | (apply gd_t) | (apply gd_ft) | (apply gd_tf) | (apply gd_dec_t <;> intro hq <;> (try (exfalso; omega))) | (apply gd_dec_f <;> intro hq <;> (try (exfalso; omega))) | (apply gd_beq_t <;> intro hq <;> (try (exfalso; omega))) | (apply gd_beq_f <;> intro hq <;> (try (exfalso; omega))) | (apply gd_bne_t <;> intro hq <;> (try (exfalso; omega))) | (apply gd_bne_f <;> intro hq <;> (try (exfalso; omega))) | (apply gd_not_t <;> intro hq) | (apply gd_not_f <;> intro hq) | (apply gd_raw_t <;> intro hq) | (apply gd_raw_f <;> intro hq)) | refine sl_skip_u rfl rfl rfl rfl rfl rfl ?_) | fail) | (apply sw_seq) | (apply at_srd) | (apply sw_skip) | (apply sw_ret) | (apply sw_exit) | (apply sw_block) | (apply sw_region) | (refine sw_cd rfl ?_; first | (apply gd_t) | (apply gd_ft) | (apply gd_tf) | (apply gd_dec_t <;> intro hq <;> (try (exfalso; omega))) | (apply gd_dec_f <;> intro hq <;> (try (exfalso; omega))) | (apply gd_beq_t <;> intro hq <;> (try (exfalso; omega))) | (apply gd_beq_f <;> intro hq <;> (try (exfalso; omega))) | (apply gd_bne_t <;> intro hq <;> (try (exfalso; omega))) | (apply gd_bne_f <;> intro hq <;> (try (exfalso; omega))) | (apply gd_not_t <;> intro hq) | (apply gd_not_f <;> intro hq) | (apply gd_raw_t <;> intro hq) | (apply gd_raw_f <;> intro hq)) | (apply at_thn) | (apply at_thn_ret) | (apply at_thn_exit) | (apply at_inb) | (apply at_inb_ret) | (apply at_inb_exit) | refine at_inb_pass rfl ?_ | refine c_drawn (by kernel_rfl) ?_)
    all_goals first
      | exact absurd rfl (by assumption)
      | exact e_scf H (by first | exact .inl rfl | exact .inr rfl) rfl (fun _ hw => hw.subs (by repeat (first | refine Subs.cons (by repeat constructor) ?_ | exact Subs.sub (by repeat (first | exact List.Sublist.refl _ | exact List.nil_sublist _ | refine List.Sublist.cons _ ?_))))) (WrR.no fun h => hT (Hg.out.1 h))
theorem write_6 (G : Ctx) (H : List Ent) (k c m : Int) (hk : ¬ (k = 1 ∨ k = 2 ∨ k = 3 ∨ k = 4 ∨ k = 5)) (i : ByteArray) (L : List Int) (t : ByteArray) (a : Option Addr) (cp : Nat) : SC Tryd.prog G 13 [acV k c m i a L.length cp t] H (WrR G H (k, c, m, i, L, t)) := by
  have cP := fun H => plain_sv G H k c m i a L.length cp t
  have Hk := Lib.hid hk
  have h1 : ¬ k = 1 := fun e => hk (.inl e)
  have h2 : ¬ k = 2 := fun e => hk (.inr (.inl e))
  have h3 : ¬ k = 3 := fun e => hk (.inr (.inr (.inl e)))
  have h4 : ¬ k = 4 := fun e => hk (.inr (.inr (.inr (.inl e))))
  have h5 : ¬ k = 5 := fun e => hk (.inr (.inr (.inr (.inr e))))
  clear hk
  generalize plB k c m i L.length t = B at *
  refine sc_enter1 Tryd.func13 rfl rfl rfl rfl rfl ?_
  repeat' (first | (apply g_sl; first | (apply ks_nil; refine sl_nil ?_) | (apply ks_move; refine s_move rfl rfl ?_) | (apply ks_bin; refine s_bin rfl rfl rfl ?_; first | fail | (first | (apply kb_add; first | refine bb_add ⟨by omega, by omega⟩ ?_ | refine bb_of rfl ?_) | refine bb_of rfl ?_)) | (apply ks_load; first | (refine s_load rfl rfl ?_; first | refine ld_cell rfl ?_ | refine ld_whole rfl ?_ | refine ld_elem rfl ?_ | refine ld_part rfl rfl ?_) | fail) | (apply ks_asgn; refine s_asgn rfl rfl ?_) | (apply ks_pick; refine s_pick rfl rfl ?_; first | (apply kp_t; refine pk_t rfl ?_) | (apply kp_f; refine pk_f rfl ?_) | refine pk_s rfl rfl ?_) | (apply ks_field; first | refine s_field (c_field0 rfl rfl) rfl ?_ | refine s_field (c_field rfl rfl) rfl ?_) | (apply ks_un; refine s_un (y_un rfl rfl rfl) rfl ?_) | (apply ks_extr; refine s_extr (y_extract rfl rfl rfl) rfl ?_) | (apply ks_conv; first | fail | refine s_conv (c_conv (k := .i64) rfl rfl ⟨by omega, by omega⟩) rfl ?_ | refine s_conv (c_conv (k := .u8) rfl rfl ⟨by omega, by omega⟩) rfl ?_ | refine s_conv (c_conv (k := .u64) rfl rfl ⟨by omega, by omega⟩) rfl ?_ | refine s_conv (c_convw rfl rfl) rfl ?_) | (apply ks_fn; first | refine c_callv rfl rfl rfl (cP _) rfl rfl ?_) | (apply ks_bi; first | fail | refine s_call (c_len rfl rfl) rfl ?_ | refine s_call (c_len_str rfl rfl) rfl ?_ | refine s_call (c_bi rfl rfl rfl rfl) rfl ?_ | refine c_append rfl rfl rfl rfl (by first | rfl | simp [ints]) (by first | rfl | exact ints_one _ | exact octs_one _ | exact strs_one _) (by omega) rfl rfl (fun _ _ => ?_) | refine c_append_nil rfl rfl rfl rfl (by first | rfl | simp [ints]) (by first | rfl | exact ints_one _ | exact octs_one _ | exact strs_one _) (by omega) rfl rfl (fun _ _ => ?_)) | (apply ks_box; refine c_box rfl rfl rfl rfl rfl rfl (fun _ => ?_)) | (apply ks_bs; first | refine c_buildSlice rfl rfl rfl rfl rfl rfl rfl rfl rfl rfl (fun _ => ?_) | fail) | (apply ks_guard; first | (refine sl_gd rfl rfl rfl rfl ?_; first | (apply gd_t) | (apply gd_ft) | (apply gd_tf) | (apply gd_dec_t <;> intro hq <;> (try (exfalso; omega))) | (apply gd_dec_f <;> intro hq <;> (try (exfalso; omega))) | (apply gd_beq_t <;> intro hq <;> (try (exfalso; omega))) | (apply gd_beq_f <;> intro hq <;> (try (exfalso; omega))) | (apply gd_bne_t <;> intro hq <;> (try (exfalso; omega))) | (apply gd_bne_f <;> intro hq <;> (try (exfalso; omega))) | (apply gd_not_t <;> intro hq) | (apply gd_not_f <;> intro hq) | (apply gd_raw_t <;> intro hq) | (apply gd_raw_f <;> intro hq)) | refine sl_skip_u rfl rfl rfl rfl rfl rfl ?_) | fail) | (apply sw_seq) | (apply at_srd) | (apply sw_skip) | (apply sw_ret) | (apply sw_exit) | (apply sw_block) | (apply sw_region) | (refine sw_cd rfl ?_; first | (apply gd_t) | (apply gd_ft) | (apply gd_tf) | (apply gd_dec_t <;> intro hq <;> (try (exfalso; omega))) | (apply gd_dec_f <;> intro hq <;> (try (exfalso; omega))) | (apply gd_beq_t <;> intro hq <;> (try (exfalso; omega))) | (apply gd_beq_f <;> intro hq <;> (try (exfalso; omega))) | (apply gd_bne_t <;> intro hq <;> (try (exfalso; omega))) | (apply gd_bne_f <;> intro hq <;> (try (exfalso; omega))) | (apply gd_not_t <;> intro hq) | (apply gd_not_f <;> intro hq) | (apply gd_raw_t <;> intro hq) | (apply gd_raw_f <;> intro hq)) | (apply at_thn) | (apply at_thn_ret) | (apply at_thn_exit) | (apply at_inb) | (apply at_inb_ret) | (apply at_inb_exit) | refine at_inb_pass rfl ?_ | refine c_drawn (by kernel_rfl) ?_)
  all_goals first
    | (exfalso; omega)
    | exact e_scf H (by first | exact .inl rfl | exact .inr rfl) rfl (fun _ hw => hw.subs (by repeat (first | refine Subs.cons (by repeat constructor) ?_ | exact Subs.sub (by repeat (first | exact List.Sublist.refl _ | exact List.nil_sublist _ | refine List.Sublist.cons _ ?_))))) (WrR.no fun h => Hk.out (goodW_kind h))
/-- Whatever is handed in. -/
theorem write_sc (G : Ctx) (H : List Ent) (hT : ∀ H, Pow10 G H) (hU : ∀ H w, Holds G H w → Lib.Utf8Tabs 0 1 w) (k c m : Int) (i : ByteArray) (hi : i.size ≤ 2000000) (L : List Int) (t : ByteArray) (ht : t.size ≤ 2000000) (a : Option Addr) (cp : Nat) [h1 : ∀ H, RdC G H a (ints L)] (hmn : L.length ≤ 2000000) : SC Tryd.prog G 13 [acV k c m i a L.length cp t] H (WrR G H (k, c, m, i, L, t)) := by
  cases hp : plB k c m i L.length t with
  | false => exact write_no G H hT k c m i L t a cp hp
  | true =>
    unfold plB at hp
    rw [decide_eq_true_eq] at hp
    obtain ⟨p1, p2, p3, p4⟩ := hp
    have hL : L.length = 0 → L = [] := List.eq_nil_of_length_eq_zero
    by_cases hk : k = 1 ∨ k = 2 ∨ k = 3 ∨ k = 4 ∨ k = 5
    · rcases hk with rfl | rfl | rfl | rfl | rfl
      · obtain ⟨rfl, hn⟩ := p1.resolve_left (by decide)
        obtain rfl := hL (by omega)
        obtain rfl := (p2.resolve_left (by decide)).resolve_left (by decide)
        obtain rfl := p3.resolve_left (by decide)
        exact write_1 G H c a cp
      · obtain ⟨rfl, hn⟩ := p1.resolve_left (by decide)
        obtain rfl := hL (by omega)
        obtain rfl := (p2.resolve_left (by decide)).resolve_left (by decide)
        obtain rfl := p3.resolve_left (by decide)
        exact write_2 G H c a cp
      · obtain ⟨rfl, hn⟩ := p1.resolve_left (by decide)
        obtain rfl := hL (by omega)
        obtain rfl := p3.resolve_left (by decide)
        exact write_3 G H c i hi a cp
      · obtain rfl := p3.resolve_left (by decide)
        exact write_4 G H hT c m i hi L a cp hmn
      · obtain ⟨rfl, hn⟩ := p1.resolve_left (by decide)
        obtain rfl := hL (by omega)
        obtain rfl := (p2.resolve_left (by decide)).resolve_left (by decide)
        obtain rfl := p4.resolve_left (fun h => h rfl)
        exact write_5 G H hU t ht a cp
    · exact write_6 G H k c m hk i L t a cp
end Go.Proofs.YtflmckoolagikaaDoor
end
section
namespace Go.Proofs.YtflmckoolagikaaDoor
open Go Go.RowKit Go.Fw Go.Sx
set_option maxRecDepth 100000
set_option maxHeartbeats 2000000
/-- What the runes make of a parser. -/
def RunR (G : Ctx) (H : List Ent) (Z : Ps × List Pa) (W : Value → Value) (H' : List Ent) (v : Value) : Prop :=
  ∃ (F : List Ent) (X : List Ac) (a : Option Addr) (c : Nat), v = W (.slice a X.length c) ∧ X.length ≤ 9000000 ∧ X.map plA = Z.2 ∧ (∀ y ∈ X, Sl ints G F y.2.2.2.2.1) ∧ Sl acs G F (a, c, X) ∧ H' = F ++ H
theorem sl_left {f : List Int → List Value} {G : Ctx} {F E : List Ent} {x : Rx Int} (h : Sl f G F x) : Sl f G (F ++ E) x := h.mono fun _ hw => hw.sub (List.sublist_append_left F E)
attribute [local irreducible] SW SL SQ AtQ SV SC BB LD PK Yields SO SOT SOA SY
theorem parsed_sc (G : Ctx) (H : List Ent) (M : Int) (hM : ∀ H w, Holds G H w → w.cell? ⟨2, 0, none⟩ = some (.int .i64 M)) (s m : Int) (i g t : ByteArray) (hp : okP (s, m, i, g, t)) (L : List Int) (ao : Option Addr) (n co : Nat) [h1 : RdC G H ao (ints L)] (hn : n = L.length) (hmn : n ≤ 4000000) : SC Tryd.prog G 11 [psV s m i g t, .slice ao n co] H (fun v H' => RunR G H (runP (s, m, i, g, t) L) (fun r => .tuple #[psV (runP (s, m, i, g, t) L).1.1 (runP (s, m, i, g, t) L).1.2.1 (runP (s, m, i, g, t) L).1.2.2.1 (runP (s, m, i, g, t) L).1.2.2.2.1 (runP (s, m, i, g, t) L).1.2.2.2.2, r]) H' v) := by
  have hlx : (ints L).length = n * 1 := by rw [hn]; simp [ints]
  have hel : ∀ (k : Nat) x, L[k]? = some x → (ints L)[(k : Int).toNat * 1]? = some (.int .i64 x) := fun k x hx => by simp [ints, hx]
  have Hn := Lib.hid hn
  have Hel := Lib.hid hel
  have Hp := Lib.hid hp
  clear hel hn hp
  refine sc_enter2 Tryd.func11 rfl rfl rfl rfl rfl ?_
  repeat' (first | (apply g_sl; first | (apply ks_nil; refine sl_nil ?_) | (apply ks_move; refine s_move rfl rfl ?_) | (apply ks_bin; refine s_bin rfl rfl rfl ?_; first | fail | (first | (apply kb_add; first | refine bb_add ⟨by omega, by omega⟩ ?_ | refine bb_of rfl ?_) | refine bb_of rfl ?_)) | (apply ks_load; first | (refine s_load rfl rfl ?_; first | refine ld_cell rfl ?_ | refine ld_whole rfl ?_ | refine ld_elem rfl ?_ | refine ld_part rfl rfl ?_) | fail) | (apply ks_asgn; refine s_asgn rfl rfl ?_) | (apply ks_extr; refine s_extr (y_extract rfl rfl rfl) rfl ?_) | (apply ks_indexA; first | refine s_indexA (c_indexAddr rfl rfl rfl rfl (by omega) (by omega)) rfl ?_ | fail) | (apply ks_fn; first | fail) | (apply ks_bi; first | fail | refine s_call (c_len rfl rfl) rfl ?_ | refine s_call (c_len_str rfl rfl) rfl ?_ | refine s_call (c_bi rfl rfl rfl rfl) rfl ?_ | refine c_append rfl rfl rfl rfl (by first | rfl | simp [ints]) (by first | rfl | exact ints_one _ | exact octs_one _ | exact strs_one _) (by omega) rfl rfl (fun _ _ => ?_) | refine c_append_nil rfl rfl rfl rfl (by first | rfl | simp [ints]) (by first | rfl | exact ints_one _ | exact octs_one _ | exact strs_one _) (by omega) rfl rfl (fun _ _ => ?_)) | (apply ks_store; first | first | refine c_store rfl rfl rfl rfl rfl rfl rfl ?_ | refine c_storew rfl rfl rfl rfl rfl rfl rfl rfl ?_ | refine c_storee rfl rfl rfl rfl rfl (by omega) rfl ?_ | fail) | (apply ks_box; refine c_box rfl rfl rfl rfl rfl rfl (fun _ => ?_)) | (apply ks_alloc; refine c_alloc rfl rfl rfl rfl (fun _ => ?_)) | fail) | (apply sw_seq) | (apply at_srd) | (apply sw_skip) | (apply sw_ret) | (apply sw_exit) | (apply sw_block) | (apply sw_region) | (refine sw_cd rfl ?_; first | (apply gd_t) | (apply gd_ft) | (apply gd_tf) | (apply gd_dec_t <;> intro hq <;> (try (exfalso; omega))) | (apply gd_dec_f <;> intro hq <;> (try (exfalso; omega))) | (apply gd_beq_t <;> intro hq <;> (try (exfalso; omega))) | (apply gd_beq_f <;> intro hq <;> (try (exfalso; omega))) | (apply gd_bne_t <;> intro hq <;> (try (exfalso; omega))) | (apply gd_bne_f <;> intro hq <;> (try (exfalso; omega))) | (apply gd_not_t <;> intro hq) | (apply gd_not_f <;> intro hq) | (apply gd_raw_t <;> intro hq) | (apply gd_raw_f <;> intro hq)) | (apply at_thn) | (apply at_thn_ret) | (apply at_thn_exit) | (apply at_inb) | (apply at_inb_ret) | (apply at_inb_exit) | refine at_inb_pass rfl ?_ | refine c_drawn (by kernel_rfl) ?_)
  rename_i b2 b4
  refine sw_loopg (α := Nat × Ps × List Ac × List Ent × Option Addr × Nat) (fun z => [(2, .pointer (some ⟨b2, 0, none⟩)), (4, .pointer (some ⟨b4, 0, none⟩)), (6, .slice z.2.2.2.2.1 z.2.2.1.length z.2.2.2.2.2), (11, .slice ao n co), (12, .int .i64 n), (13, .int .i64 z.1)])
    (fun z => .own 35 6 z.2.2.2.2.1 z.2.2.1.length z.2.2.2.2.2 (acs z.2.2.1) :: .blk b2 23 [.int .i64 z.2.1.1, .int .i64 z.2.1.2.1, .string z.2.1.2.2.1, .string z.2.1.2.2.2.1, .string z.2.1.2.2.2.2] :: .blk b4 23 [.int .i64 0, .int .i64 0, .string e0, .string e0, .string e0] :: (z.2.2.2.1 ++ H))
    (fun z => z.1 ≤ n ∧ z.2.2.1.length ≤ 2 * z.1 ∧ okP z.2.1 ∧ z.2.1 = (runP (s, m, i, g, t) (L.take z.1)).1 ∧ z.2.2.1.map plA = (runP (s, m, i, g, t) (L.take z.1)).2 ∧ ∀ y ∈ z.2.2.1, Sl ints G z.2.2.2.1 y.2.2.2.2.1) (fun z => n - z.1) (0, (s, m, i, g, t), [], [], none, 0)
    ⟨Nat.zero_le _, Nat.zero_le _, Hp.out, rfl, rfl, fun _ h => nomatch h⟩ (by repeat (first | exact Le.nil _ | refine Le.cons (by first | rfl | (exact congrArg some (congrArg (Value.int _) (by omega)))) ?_)) (fun _ hw => (hw.nilrow 35 6).subs (by repeat (first | refine Subs.cons (by repeat constructor) ?_ | exact Subs.sub (by repeat (first | exact List.Sublist.refl _ | exact List.nil_sublist _ | refine List.Sublist.cons _ ?_))))) ?_
  rintro ⟨k, p, X, E, a, c⟩ ⟨hk, hX, hp, hz1, hz2, hz3⟩
  dsimp only at hk hX hp hz1 hz2 hz3 ⊢
  obtain ⟨s', m', i', g', t'⟩ := p
  dsimp only
  have Hz1 := Lib.hid hz1
  have Hz2 := Lib.hid hz2
  have Hp2 := Lib.hid hp
  have hp3 := (ok_mk _ _ _ _ _).1 hp
  have hs' := hp3.1
  have hi' : i'.size ≤ 3 := by omega
  have hg' : g'.size ≤ 100 := by omega
  have ht' : t'.size ≤ 256 := by omega
  clear hz1 hz2 hp hp3
  by_cases hlt : (k : Int) < n
  · obtain ⟨x, hx⟩ := get_of (X := L) (k := k) (by rw [← Hn.out]; omega)
    have hxi := Hel.out k x hx
    have c2 := fun K => parseStep_sc G K M hM s' m' i' g' t' x hs' hi' hg' ht'
    have hrun := runP_take (p := (s, m, i, g, t)) hx
    rw [← Hz1.out, ← Hz2.out] at hrun
    have hok := stepP_ok (s', m', i', g', t') x Hp2.out
    have hul := stepP_len (s', m', i', g', t') x
    have Hrun := Lib.hid hrun
    have Hok := Lib.hid hok
    clear hrun hx hok Hz1 Hz2 Hp2
    generalize stepP (s', m', i', g', t') x = U at *
    repeat' (first | (apply g_sl; first | (apply ks_nil; refine sl_nil ?_) | (apply ks_move; refine s_move rfl rfl ?_) | (apply ks_bin; refine s_bin rfl rfl rfl ?_; first | first | (refine s_indexA (c_indexAddr rfl rfl rfl hlx (by omega) (by omega)) rfl ?_) | (refine s_load rfl rfl ?_; refine ld_elem hxi ?_) | (refine c_storew rfl rfl rfl rfl rfl rfl rfl rfl ?_) | (first | (apply kb_add; first | refine bb_add ⟨by omega, by omega⟩ ?_ | refine bb_of rfl ?_) | refine bb_of rfl ?_)) | (apply ks_load; first | (refine s_load rfl rfl ?_; first | refine ld_cell rfl ?_ | refine ld_whole rfl ?_ | refine ld_elem rfl ?_ | refine ld_part rfl rfl ?_) | first | (refine s_indexA (c_indexAddr rfl rfl rfl hlx (by omega) (by omega)) rfl ?_) | (refine s_load rfl rfl ?_; refine ld_elem hxi ?_) | (refine c_storew rfl rfl rfl rfl rfl rfl rfl rfl ?_)) | (apply ks_asgn; refine s_asgn rfl rfl ?_) | (apply ks_extr; refine s_extr (y_extract rfl rfl rfl) rfl ?_) | (apply ks_indexA; first | refine s_indexA (c_indexAddr rfl rfl rfl rfl (by omega) (by omega)) rfl ?_ | first | (refine s_indexA (c_indexAddr rfl rfl rfl hlx (by omega) (by omega)) rfl ?_) | (refine s_load rfl rfl ?_; refine ld_elem hxi ?_) | (refine c_storew rfl rfl rfl rfl rfl rfl rfl rfl ?_)) | (apply ks_fn; first | (refine c_call rfl rfl rfl (c2 _) rfl rfl ?_; rintro _ _ ⟨F, Y, a3, c3, rfl, hY1, hY2, hY3, rfl⟩)) | (apply ks_bi; first | first | (refine s_indexA (c_indexAddr rfl rfl rfl hlx (by omega) (by omega)) rfl ?_) | (refine s_load rfl rfl ?_; refine ld_elem hxi ?_) | (refine c_storew rfl rfl rfl rfl rfl rfl rfl rfl ?_) | refine s_call (c_len rfl rfl) rfl ?_ | refine s_call (c_len_str rfl rfl) rfl ?_ | refine s_call (c_bi rfl rfl rfl rfl) rfl ?_ | refine c_append rfl rfl rfl rfl (by first | rfl | simp [ints]) (by first | rfl | exact ints_one _ | exact octs_one _ | exact strs_one _) (by omega) rfl rfl (fun _ _ => ?_) | refine c_append_nil rfl rfl rfl rfl (by first | rfl | simp [ints]) (by first | rfl | exact ints_one _ | exact octs_one _ | exact strs_one _) (by omega) rfl rfl (fun _ _ => ?_)) | (apply ks_store; first | first | refine c_store rfl rfl rfl rfl rfl rfl rfl ?_ | refine c_storew rfl rfl rfl rfl rfl rfl rfl rfl ?_ | refine c_storee rfl rfl rfl rfl rfl (by omega) rfl ?_ | first | (refine s_indexA (c_indexAddr rfl rfl rfl hlx (by omega) (by omega)) rfl ?_) | (refine s_load rfl rfl ?_; refine ld_elem hxi ?_) | (refine c_storew rfl rfl rfl rfl rfl rfl rfl rfl ?_)) | (apply ks_box; refine c_box rfl rfl rfl rfl rfl rfl (fun _ => ?_)) | (apply ks_alloc; refine c_alloc rfl rfl rfl rfl (fun _ => ?_)) | first | (refine s_indexA (c_indexAddr rfl rfl rfl hlx (by omega) (by omega)) rfl ?_) | (refine s_load rfl rfl ?_; refine ld_elem hxi ?_) | (refine c_storew rfl rfl rfl rfl rfl rfl rfl rfl ?_)) | (apply sw_seq) | (apply at_srd) | (apply sw_skip) | (apply sw_ret) | (apply sw_exit) | (apply sw_block) | ((fail_if_success (refine g_reg (id := 6) ?_)); apply sw_region) | (refine sw_cd rfl ?_; first | (apply gd_t) | (apply gd_ft) | (apply gd_tf) | (apply gd_dec_t <;> intro hq <;> (try (exfalso; omega))) | (apply gd_dec_f <;> intro hq <;> (try (exfalso; omega))) | (apply gd_beq_t <;> intro hq <;> (try (exfalso; omega))) | (apply gd_beq_f <;> intro hq <;> (try (exfalso; omega))) | (apply gd_bne_t <;> intro hq <;> (try (exfalso; omega))) | (apply gd_bne_f <;> intro hq <;> (try (exfalso; omega))) | (apply gd_not_t <;> intro hq) | (apply gd_not_f <;> intro hq) | (apply gd_raw_t <;> intro hq) | (apply gd_raw_f <;> intro hq)) | (apply at_thn) | (apply at_thn_ret) | (apply at_thn_exit) | (apply at_inb) | (apply at_inb_ret) | (apply at_inb_exit) | refine at_inb_pass rfl ?_ | ((fail_if_success (refine g_reg (id := 6) ?_)); refine c_drawn (by kernel_rfl) ?_))
    clear c2
    rename_i b9
    have hYl : Y.length ≤ 2 := by rw [← List.length_map (f := plA), hY1]; exact hul
    have hlX := acs_len X
    have hlY := acs_len Y
    have hone := acs_one Y
    haveI : RdC G ((F ++ E) ++ H) a3 (acs Y) := (hY3.mono fun w hw => hw.sub ((List.sublist_append_left F E).trans (List.sublist_append_left _ H))).rd
    refine sw_held (.own 35 6 a X.length c (acs X) :: .blk b2 23 [.int .i64 s', .int .i64 m', .string i', .string g', .string t'] :: .blk b9 23 [.int .i64 U.1.1, .int .i64 U.1.2.1, .string U.1.2.2.1, .string U.1.2.2.2.1, .string U.1.2.2.2.2] :: .blk b4 23 [.int .i64 0, .int .i64 0, .string e0, .string e0, .string e0] :: ((F ++ E) ++ H)) (fun w hw => hw.perm ?_) ?_
    · rw [List.append_assoc]
      refine List.Perm.trans ?_ ((List.Perm.swap _ _ _).trans ((List.Perm.swap _ _ _).cons _))
      refine List.Perm.cons _ ?_
      exact List.perm_middle.trans ((List.perm_middle.trans ((List.perm_middle).cons _)).cons _)
    refine c_drawno (.blk b9 23 [.int .i64 U.1.1, .int .i64 U.1.2.1, .string U.1.2.2.1, .string U.1.2.2.2.1, .string U.1.2.2.2.2] :: .blk b4 23 [.int .i64 0, .int .i64 0, .string e0, .string e0, .string e0] :: ((F ++ E) ++ H)) (fun _ hw => hw.subs (by repeat (first | refine Subs.cons (by repeat constructor) ?_ | exact Subs.sub (by repeat (first | exact List.Sublist.refl _ | exact List.nil_sublist _ | refine List.Sublist.cons _ ?_))))) ?_
    repeat' (first | (apply g_sl; first | (apply ks_nil; refine sl_nil ?_) | (apply ks_move; refine s_move rfl rfl ?_) | (apply ks_bin; refine s_bin rfl rfl rfl ?_; first | first | (refine c_append rfl rfl rfl rfl hlY hone (by omega) rfl rfl (fun _ _ => ?_)) | (refine c_storew rfl rfl rfl rfl rfl rfl rfl rfl ?_) | (first | (apply kb_add; first | refine bb_add ⟨by omega, by omega⟩ ?_ | refine bb_of rfl ?_) | refine bb_of rfl ?_)) | (apply ks_load; first | (refine s_load rfl rfl ?_; first | refine ld_cell rfl ?_ | refine ld_whole rfl ?_ | refine ld_elem rfl ?_ | refine ld_part rfl rfl ?_) | first | (refine c_append rfl rfl rfl rfl hlY hone (by omega) rfl rfl (fun _ _ => ?_)) | (refine c_storew rfl rfl rfl rfl rfl rfl rfl rfl ?_)) | (apply ks_asgn; refine s_asgn rfl rfl ?_) | (apply ks_extr; refine s_extr (y_extract rfl rfl rfl) rfl ?_) | (apply ks_indexA; first | refine s_indexA (c_indexAddr rfl rfl rfl rfl (by omega) (by omega)) rfl ?_ | first | (refine c_append rfl rfl rfl rfl hlY hone (by omega) rfl rfl (fun _ _ => ?_)) | (refine c_storew rfl rfl rfl rfl rfl rfl rfl rfl ?_)) | (apply ks_fn; first | fail) | (apply ks_bi; first | first | (refine c_append rfl rfl rfl rfl hlY hone (by omega) rfl rfl (fun _ _ => ?_)) | (refine c_storew rfl rfl rfl rfl rfl rfl rfl rfl ?_) | refine s_call (c_len rfl rfl) rfl ?_ | refine s_call (c_len_str rfl rfl) rfl ?_ | refine s_call (c_bi rfl rfl rfl rfl) rfl ?_ | refine c_append rfl rfl rfl rfl (by first | rfl | simp [ints]) (by first | rfl | exact ints_one _ | exact octs_one _ | exact strs_one _) (by omega) rfl rfl (fun _ _ => ?_) | refine c_append_nil rfl rfl rfl rfl (by first | rfl | simp [ints]) (by first | rfl | exact ints_one _ | exact octs_one _ | exact strs_one _) (by omega) rfl rfl (fun _ _ => ?_)) | (apply ks_store; first | first | refine c_store rfl rfl rfl rfl rfl rfl rfl ?_ | refine c_storew rfl rfl rfl rfl rfl rfl rfl rfl ?_ | refine c_storee rfl rfl rfl rfl rfl (by omega) rfl ?_ | first | (refine c_append rfl rfl rfl rfl hlY hone (by omega) rfl rfl (fun _ _ => ?_)) | (refine c_storew rfl rfl rfl rfl rfl rfl rfl rfl ?_)) | (apply ks_box; refine c_box rfl rfl rfl rfl rfl rfl (fun _ => ?_)) | (apply ks_alloc; refine c_alloc rfl rfl rfl rfl (fun _ => ?_)) | first | (refine c_append rfl rfl rfl rfl hlY hone (by omega) rfl rfl (fun _ _ => ?_)) | (refine c_storew rfl rfl rfl rfl rfl rfl rfl rfl ?_)) | (apply g_sq; first | (apply kq_nil; refine sq_nil ?_) | (apply kq_move; refine q_move rfl rfl ?_) | (apply kq_bin; refine q_bin rfl rfl rfl ?_; first | fail | (first | (apply kb_add; first | refine bb_add ⟨by omega, by omega⟩ ?_ | refine bb_of rfl ?_) | refine bb_of rfl ?_)) | (apply kq_load; first | (refine q_load rfl rfl ?_; first | refine ld_cell rfl ?_ | refine ld_whole rfl ?_ | refine ld_elem rfl ?_ | refine ld_part rfl rfl ?_) | fail) | (apply kq_asgn; refine q_asgn rfl rfl ?_) | (apply kq_extr; refine q_extr (y_extract rfl rfl rfl) rfl ?_) | (apply kq_indexA; first | refine q_indexA (c_indexAddr rfl rfl rfl rfl (by omega) (by omega)) rfl ?_ | fail) | (apply kq_fn; first | fail) | (apply kq_bi; first | fail | refine q_call (c_len rfl rfl) rfl ?_ | refine q_call (c_len_str rfl rfl) rfl ?_) | fail) | (apply g_atso; refine so_back (k := 0) (fun _ hw => hw.subs (by repeat (first | refine Subs.cons (by repeat constructor) ?_ | exact Subs.sub (by repeat (first | exact List.Sublist.refl _ | exact List.nil_sublist _ | refine List.Sublist.cons _ ?_))))) ?_) | (apply g_sot; first | (refine sot_skip rfl ?_) | (refine sot_take rfl rfl rfl rfl (by kernel_rfl) (by decide +kernel) (by decide +kernel) ?_; (first | (apply ky_move; refine sy_val (y_move rfl rfl) ?_) | (apply ky_bin; refine sy_bin rfl rfl ?_; first | fail | (first | (apply kb_add; first | refine bb_add ⟨by omega, by omega⟩ ?_ | refine bb_of rfl ?_) | refine bb_of rfl ?_)) | (apply ky_load; first | (refine sy_load rfl ?_; first | refine ld_cell rfl ?_ | refine ld_whole rfl ?_ | refine ld_elem rfl ?_ | refine ld_part rfl rfl ?_) | fail) | (apply ky_asgn; refine sy_val (y_assign rfl rfl) ?_) | (apply ky_extr; refine sy_val (y_extract rfl rfl rfl) ?_) | (apply ky_indexA; first | refine sy_val (c_indexAddr rfl rfl rfl rfl (by omega) (by omega)) ?_ | fail) | (apply ky_bi; first | fail | refine sy_val (c_len rfl rfl) ?_ | refine sy_val (c_len_str rfl rfl) ?_) | fail)) | (refine sot_takeg rfl rfl rfl rfl rfl (by kernel_rfl) (by decide +kernel) (by decide +kernel) ?_; first | (apply gd_t) | (apply gd_ft) | (apply gd_tf) | (apply gd_dec_t <;> intro hq <;> (try (exfalso; omega))) | (apply gd_dec_f <;> intro hq <;> (try (exfalso; omega))) | (apply gd_beq_t <;> intro hq <;> (try (exfalso; omega))) | (apply gd_beq_f <;> intro hq <;> (try (exfalso; omega))) | (apply gd_bne_t <;> intro hq <;> (try (exfalso; omega))) | (apply gd_bne_f <;> intro hq <;> (try (exfalso; omega))) | (apply gd_not_t <;> intro hq) | (apply gd_not_f <;> intro hq) | (apply gd_raw_t <;> intro hq) | (apply gd_raw_f <;> intro hq)) | (refine sot_next rfl ?_) | (refine so_done (by decide +kernel) ?_) | (refine sot_all (by kernel_rfl) ?_)) | (apply g_soa; first | (refine soa_end rfl) | (refine soa_no (by decide +kernel) ?_) | (refine soa_yes rfl ?_ ?_)) | (apply g_sy; (first | (apply ky_move; refine sy_val (y_move rfl rfl) ?_) | (apply ky_bin; refine sy_bin rfl rfl ?_; first | fail | (first | (apply kb_add; first | refine bb_add ⟨by omega, by omega⟩ ?_ | refine bb_of rfl ?_) | refine bb_of rfl ?_)) | (apply ky_load; first | (refine sy_load rfl ?_; first | refine ld_cell rfl ?_ | refine ld_whole rfl ?_ | refine ld_elem rfl ?_ | refine ld_part rfl rfl ?_) | fail) | (apply ky_asgn; refine sy_val (y_assign rfl rfl) ?_) | (apply ky_extr; refine sy_val (y_extract rfl rfl rfl) ?_) | (apply ky_indexA; first | refine sy_val (c_indexAddr rfl rfl rfl rfl (by omega) (by omega)) ?_ | fail) | (apply ky_bi; first | fail | refine sy_val (c_len rfl rfl) ?_ | refine sy_val (c_len_str rfl rfl) ?_) | fail)) | (apply sw_seq) | (apply at_srd) | (apply sw_skip) | (apply sw_ret) | (apply sw_exit) | (apply sw_block) | (apply sw_region) | (refine sw_cd rfl ?_; first | (apply gd_t) | (apply gd_ft) | (apply gd_tf) | (apply gd_dec_t <;> intro hq <;> (try (exfalso; omega))) | (apply gd_dec_f <;> intro hq <;> (try (exfalso; omega))) | (apply gd_beq_t <;> intro hq <;> (try (exfalso; omega))) | (apply gd_beq_f <;> intro hq <;> (try (exfalso; omega))) | (apply gd_bne_t <;> intro hq <;> (try (exfalso; omega))) | (apply gd_bne_f <;> intro hq <;> (try (exfalso; omega))) | (apply gd_not_t <;> intro hq) | (apply gd_not_f <;> intro hq) | (apply gd_raw_t <;> intro hq) | (apply gd_raw_f <;> intro hq)) | (apply at_thn) | (apply at_thn_ret) | (apply at_thn_exit) | (apply at_inb) | (apply at_inb_ret) | (apply at_inb_exit) | refine at_inb_pass rfl ?_ | (fail) | refine c_drawn (by kernel_rfl) ?_)
    all_goals
      rename_i a5 c5
      refine at_meet (k + 1, U.1, X ++ Y, F ++ E, a5, c5) ⟨⟨by dsimp only; omega, ?_, ?_, ?_, ?_, ?_⟩, by dsimp only; omega⟩ (by dsimp only; rw [List.length_append]; exact (by repeat (first | exact Le.nil _ | refine Le.cons (by first | rfl | (exact congrArg some (congrArg (Value.int _) (by omega)))) ?_))) ?_
      · dsimp only; rw [List.length_append]; omega
      · exact Hok.out
      · dsimp only; rw [Hrun.out]
      · dsimp only; rw [List.map_append, hY1, Hrun.out]
      · dsimp only
        intro y hy
        rcases List.mem_append.1 hy with hy | hy
        · exact (hz3 y hy).app
        · exact sl_left (hY2 y hy)
      · dsimp only
        rw [List.length_append, show acs (X ++ Y) = acs X ++ acs Y from by unfold acs; rw [List.flatMap_append]]
        exact (fun _ hw => hw.subs (by repeat (first | refine Subs.cons (by repeat constructor) ?_ | exact Subs.sub (by repeat (first | exact List.Sublist.refl _ | exact List.nil_sublist _ | refine List.Sublist.cons _ ?_)))))
  · obtain rfl : n = k := by omega
    have hz1 := Hz1.out
    have hz2 := Hz2.out
    rw [Hn.out, List.take_length] at hz1 hz2
    have Hy1 := Lib.hid hz1
    have Hy2 := Lib.hid hz2
    clear hz1 hz2 Hz1 Hz2
    repeat' (first | (apply g_sl; first | (apply ks_nil; refine sl_nil ?_) | (apply ks_move; refine s_move rfl rfl ?_) | (apply ks_bin; refine s_bin rfl rfl rfl ?_; first | first | (refine c_storew rfl rfl rfl rfl rfl rfl rfl rfl ?_) | (first | (apply kb_add; first | refine bb_add ⟨by omega, by omega⟩ ?_ | refine bb_of rfl ?_) | refine bb_of rfl ?_)) | (apply ks_load; first | (refine s_load rfl rfl ?_; first | refine ld_cell rfl ?_ | refine ld_whole rfl ?_ | refine ld_elem rfl ?_ | refine ld_part rfl rfl ?_) | first | (refine c_storew rfl rfl rfl rfl rfl rfl rfl rfl ?_)) | (apply ks_asgn; refine s_asgn rfl rfl ?_) | (apply ks_extr; refine s_extr (y_extract rfl rfl rfl) rfl ?_) | (apply ks_indexA; first | refine s_indexA (c_indexAddr rfl rfl rfl rfl (by omega) (by omega)) rfl ?_ | first | (refine c_storew rfl rfl rfl rfl rfl rfl rfl rfl ?_)) | (apply ks_fn; first | fail) | (apply ks_bi; first | first | (refine c_storew rfl rfl rfl rfl rfl rfl rfl rfl ?_) | refine s_call (c_len rfl rfl) rfl ?_ | refine s_call (c_len_str rfl rfl) rfl ?_ | refine s_call (c_bi rfl rfl rfl rfl) rfl ?_ | refine c_append rfl rfl rfl rfl (by first | rfl | simp [ints]) (by first | rfl | exact ints_one _ | exact octs_one _ | exact strs_one _) (by omega) rfl rfl (fun _ _ => ?_) | refine c_append_nil rfl rfl rfl rfl (by first | rfl | simp [ints]) (by first | rfl | exact ints_one _ | exact octs_one _ | exact strs_one _) (by omega) rfl rfl (fun _ _ => ?_)) | (apply ks_store; first | first | refine c_store rfl rfl rfl rfl rfl rfl rfl ?_ | refine c_storew rfl rfl rfl rfl rfl rfl rfl rfl ?_ | refine c_storee rfl rfl rfl rfl rfl (by omega) rfl ?_ | first | (refine c_storew rfl rfl rfl rfl rfl rfl rfl rfl ?_)) | (apply ks_box; refine c_box rfl rfl rfl rfl rfl rfl (fun _ => ?_)) | (apply ks_alloc; refine c_alloc rfl rfl rfl rfl (fun _ => ?_)) | first | (refine c_storew rfl rfl rfl rfl rfl rfl rfl rfl ?_)) | (apply sw_seq) | (apply at_srd) | (apply sw_skip) | (apply sw_ret) | (apply sw_exit) | (apply sw_block) | (apply sw_region) | (refine sw_cd rfl ?_; first | (apply gd_t) | (apply gd_ft) | (apply gd_tf) | (apply gd_dec_t <;> intro hq <;> (try (exfalso; omega))) | (apply gd_dec_f <;> intro hq <;> (try (exfalso; omega))) | (apply gd_beq_t <;> intro hq <;> (try (exfalso; omega))) | (apply gd_beq_f <;> intro hq <;> (try (exfalso; omega))) | (apply gd_bne_t <;> intro hq <;> (try (exfalso; omega))) | (apply gd_bne_f <;> intro hq <;> (try (exfalso; omega))) | (apply gd_not_t <;> intro hq) | (apply gd_not_f <;> intro hq) | (apply gd_raw_t <;> intro hq) | (apply gd_raw_f <;> intro hq)) | (apply at_thn) | (apply at_thn_ret) | (apply at_thn_exit) | (apply at_inb) | (apply at_inb_ret) | (apply at_inb_exit) | refine at_inb_pass rfl ?_ | refine c_drawn (by kernel_rfl) ?_)
    refine e_scc (.own 35 6 a X.length c (acs X) :: (E ++ H)) (by first | exact .inl rfl | exact .inr rfl) rfl rfl rfl (fun _ hw => hw.subs (by repeat (first | refine Subs.cons (by repeat constructor) ?_ | exact Subs.sub (by repeat (first | exact List.Sublist.refl _ | exact List.nil_sublist _ | refine List.Sublist.cons _ ?_))))) ?_
    refine ⟨.own 35 6 a X.length c (acs X) :: E, X, a, c, ?_, by omega, Hy2.out, fun y hy => (hz3 y hy).cons, Sl.own List.mem_cons_self rfl rfl, rfl⟩
    rw [← Hy1.out]
    rfl
end Go.Proofs.YtflmckoolagikaaDoor
end
