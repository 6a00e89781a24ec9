/- Texts of this claim, merged: Env5 Env6 SxD SxR Env7. -/
import Derived.Test.YtflmckoolagikaaDoorEn4
import Derived.WalkKit
import Derived.WalkSpells
import Derived.WalkLawsBesides
import Derived.Handy
import Derived.Lib.Hide
import Derived.Laws.BitsAllLaws
import Derived.Deep.MidRow
import Derived.Deep.WholeRow
import Derived.BigQuiet
import Derived.Laws.CopyOwn
import Derived.Deep.QuietTactic
import Derived.Laws.AppendOwnNone
import Derived.Laws.MakeOwn
import Derived.Laws.IdiomStrings
import Derived.OrdersHeld
import Derived.Lib.SliceRun
import Derived.ChangeKeysEq
import Derived.Laws.CopyRow
import Derived.Lib.Replace
import Derived.Test.YtflmckoolagikaaDoorRows
import Derived.Lib.AppendStr
import Derived.ArgAppend
import Derived.Lib.Join
import Derived.Lib.IndexLaws
import Derived.Shelf.Strings.Builder1
import Derived.Shelf.Strings.Builder2
import Derived.Shelf.Strings.OnBuilder
import Derived.Shelf.Strings.Trim
import Derived.Shelf.Small.Utf8
import Derived.Shelf.Small.Strs
import Derived.Shelf.Strings.BuilderF
import Derived.Shelf.Strconv.Atoi
import Derived.Shelf.Strconv.Itoa0
import Derived.Shelf.Strconv.Itoa1
import Derived.Shelf.LaysM
import Derived.Shelf.Strconv.Itoa2
import Derived.Shelf.Strconv.Itoa3
import Derived.Shelf.Strconv.AtoiErrFast
import Derived.Shelf.Strconv.ParseIntEmpty
import Derived.Shelf.Strconv.AtoiFail
import Derived.Shelf.Strconv.Clone
import Derived.Shelf.Strconv.SyntaxError
import Derived.Shelf.LaysC
import Derived.Shelf.Strconv.ToError
import Derived.Shelf.Strconv.AtoiErr
import Derived.Shelf.Strconv.Lower
import Derived.Shelf.Strconv.ParseUint10
import Derived.Shelf.Strconv.ParseUint10Empty
import Derived.Shelf.Strconv.ParseUint10Any
import Derived.Shelf.Strconv.ParseInt10
import Derived.Shelf.Strconv.AtoiLong
import Derived.Shelf.Strconv.AtoiInnerAll
import Derived.Shelf.Strconv.RangeError
import Derived.Shelf.Strconv.ToErrorRange
import Derived.Shelf.Strconv.AtoiAll
import Derived.Shelf.Strconv.ErrVarAll
import Derived.Shelf.Strings.Search1
import Derived.Shelf.Strings.Search2
import Derived.Shelf.Strings.Search3
import Derived.Shelf.Strings.Count
import Derived.Shelf.Strings.Shaped
import Derived.Shelf.Strings.Prefix
import Derived.Shelf.Strings.Split
import Derived.Shelf.Strings.Replace
import Derived.Shelf.Strings.SplitShaped
import Derived.Shelf.Strings.Runes
import Derived.Shelf.Strings.AsciiSet
import Derived.Shelf.Bits.Mul64
import Derived.Shelf.Strings.Repeat
import Derived.Shelf.Unicode.DecodeSlow
import Derived.Shelf.Unicode.DecodeAny
import Derived.Shelf.Slices.Equal
import Derived.Shelf.Unicode.ValidAny
import Derived.Test.YtflmckoolagikaaDoorProg
import Derived.Laws.RangeAny
import Derived.RangeFuncRecord
import Derived.RangeFuncFrom
import Derived.TacticsIn
section
namespace Go.Fw
open Go Go.RowKit Go.Sx
theorem stepP_bad {x : Int} {t : List Int} (h : ¬ x = 0) (h3 : ¬ x = 3) : stepP (x :: t) = none := by
  unfold stepP; simp [h, h3]
theorem stepP_n1 {x : Int} {t : List Int} (hw : pieceI t = none) : stepP (x :: t) = none := by
  unfold stepP; simp only [hw]; split <;> rfl
theorem stepP_n2 {x : Int} {t t2 W1 : List Int} (hw : pieceI t = some (W1, 1 :: t2)) (h2 : pieceI t2 = none) : stepP (x :: t) = none := by
  unfold stepP; simp only [hw]
  split
  · rfl
  · simp [h2]
theorem stepP_set {x : Int} {t t2 W1 V1 V2 : List Int} (h : x = 0 ∨ x = 3) (hw : pieceI t = some (W1, 1 :: t2)) (h2 : pieceI t2 = some (V1, V2)) : stepP (x :: t) = some ((strOfNums W1, strOfNums V1, decide (x = 3), true), V2) := by
  have : ¬ (x ≠ 0 ∧ x ≠ 3) := by omega
  unfold stepP; simp only [if_neg this, hw]; simp [h2]
theorem stepP_un {x : Int} {t W1 W2 : List Int} (h : x = 0 ∨ x = 3) (hw : pieceI t = some (W1, W2)) (hn : ∀ t2, W2 ≠ 1 :: t2) : stepP (x :: t) = some ((strOfNums W1, ⟨#[]⟩, decide (x = 3), false), W2) := by
  have : ¬ (x ≠ 0 ∧ x ≠ 3) := by omega
  have h2 : ¬ W2[0]? = some 1 := by
    cases W2 with
    | nil => simp
    | cons y l => simp; rintro rfl; exact hn l rfl
  unfold stepP; simp only [if_neg this, hw, if_neg h2]
theorem piece_mem {l w r : List Int} (h : pieceI l = some (w, r)) : ∀ x ∈ r, x ∈ l := by
  have h1 := (piece_ok l w r h).1
  have h2 := word_mem l
  rw [h1] at h2
  exact h2
theorem readP_big {s : ByteArray} (h : 4096 < s.size) : readP s = ([], 2) := by unfold readP; rw [if_pos h]
theorem readP_none {s : ByteArray} (h : ¬ 4096 < s.size) (h2 : many stepP s.size (nums s) = none) : readP s = ([], 4) := by unfold readP; rw [if_neg h, h2]
theorem readP_bad {s : ByteArray} {out : List Vr} (h : ¬ 4096 < s.size) (h2 : many stepP s.size (nums s) = some out) (h3 : (writeV out).2 ≠ 0) : readP s = ([], 4) := by unfold readP; rw [if_neg h, h2]; exact if_pos h3
theorem readP_ok {s : ByteArray} {out : List Vr} (h : ¬ 4096 < s.size) (h2 : many stepP s.size (nums s) = some out) (h3 : (writeV out).2 = 0) : readP s = (out, 0) := by unfold readP; rw [if_neg h, h2]; exact if_neg (fun h => h h3)
end Go.Fw
namespace Go.Proofs.YtflmckoolagikaaDoor
open Go Go.RowKit Go.Fw Go.Sx
set_option maxRecDepth 100000
set_option maxHeartbeats 1000000
attribute [local irreducible] SW SL SQ AtQ SV SC BB LD PK Yields SO SOT SOA SY
theorem readVars_sc (G : Ctx) (H : List Ent) (m0 : Int) (hM : ∀ H w, Holds G H w → w.cell? ⟨2, 0, none⟩ = some (.int .i64 m0)) (s : ByteArray) : SC Tryd.prog G 106 [.string s] H (fun v H' => ∃ a' c', v = .tuple #[.slice a' (readP s).1.length c', .int .i64 (readP s).2] ∧ H' = .own 121 4 a' (readP s).1.length c' (vrs (readP s).1) :: H) := by
  by_cases hb : 4096 < s.size
  · rw [readP_big hb]
    refine sc_enter1 Tryd.func106 rfl rfl rfl rfl rfl ?_
    repeat' (first | (apply g_sl; first | (apply ks_nil; refine sl_nil ?_) | (apply ks_move; refine s_move rfl rfl ?_) | (apply ks_bin; refine s_bin rfl rfl rfl ?_; first | fail | (first | refine bb_of rfl ?_)) | (apply ks_load; first | (refine s_load rfl rfl ?_; first | refine ld_cell rfl ?_ | refine ld_whole rfl ?_ | refine ld_elem rfl ?_ | refine ld_part rfl rfl ?_) | fail) | (apply ks_asgn; refine s_asgn rfl rfl ?_) | (apply ks_pick; refine s_pick rfl rfl ?_; first | (apply kp_t; refine pk_t rfl ?_) | (apply kp_f; refine pk_f rfl ?_) | refine pk_s rfl rfl ?_) | (apply ks_field; first | refine s_field (c_field0 rfl rfl) rfl ?_ | refine s_field (c_field rfl rfl) rfl ?_) | (apply ks_un; refine s_un (y_un rfl rfl rfl) rfl ?_) | (apply ks_extr; refine s_extr (y_extract rfl rfl rfl) rfl ?_) | (apply ks_build; first | refine s_build (c_build rfl rfl rfl) rfl ?_ | fail) | (apply ks_index; first | fail | refine s_index (c_indexArr rfl rfl rfl (by omega) (by omega) rfl) rfl ?_ | refine s_index (c_indexArrA rfl rfl rfl (by omega) (by omega) rfl) rfl ?_ | refine s_index (c_indexStr rfl rfl rfl (by omega) rfl) rfl ?_) | (apply ks_fn; first | fail) | (apply ks_bi; first | fail | refine s_call (c_len rfl rfl) rfl ?_ | refine s_call (c_len_str rfl rfl) rfl ?_ | refine s_call (c_bi rfl rfl rfl rfl) rfl ?_ | refine c_append rfl rfl rfl rfl (by first | rfl | simp [ints]) (by first | rfl | exact ints_one _ | exact octs_one _ | exact strs_one _) (by omega) rfl rfl (fun _ _ => ?_) | refine c_append_nil rfl rfl rfl rfl (by first | rfl | simp [ints]) (by first | rfl | exact ints_one _ | exact octs_one _ | exact strs_one _) (by omega) rfl rfl (fun _ _ => ?_)) | (apply ks_store; first | first | refine c_store rfl rfl rfl rfl rfl rfl rfl ?_ | refine c_storew rfl rfl rfl rfl rfl rfl rfl rfl ?_ | refine c_storee rfl rfl rfl rfl rfl (by omega) rfl ?_ | fail) | (apply ks_alloc; refine c_alloc rfl rfl rfl rfl (fun _ => ?_)) | (apply ks_bs; first | refine c_buildSlice rfl rfl rfl rfl rfl rfl rfl rfl rfl rfl (fun _ => ?_) | fail) | (apply ks_slice; first | fail | refine s_slice (c_sliceStr rfl rfl rfl rfl (by omega) (by omega) (by omega)) rfl ?_) | (apply ks_guard; first | (refine sl_gd rfl rfl rfl rfl ?_; first | (apply gd_t) | (apply gd_ft) | (apply gd_tf) | (apply gd_dec_t <;> intro hq <;> (try (exfalso; omega))) | (apply gd_dec_f <;> intro hq <;> (try (exfalso; omega))) | (apply gd_beq_t <;> intro hq <;> (try (exfalso; omega))) | (apply gd_beq_f <;> intro hq <;> (try (exfalso; omega))) | (apply gd_bne_t <;> intro hq <;> (try (exfalso; omega))) | (apply gd_bne_f <;> intro hq <;> (try (exfalso; omega))) | (apply gd_not_t <;> intro hq) | (apply gd_not_f <;> intro hq) | (apply gd_raw_t <;> intro hq) | (apply gd_raw_f <;> intro hq)) | refine sl_skip_u rfl rfl rfl rfl rfl rfl ?_) | fail) | (apply sw_seq) | (apply at_srd) | (apply sw_skip) | (apply sw_ret) | (apply sw_exit) | (apply sw_block) | (apply sw_region) | (refine sw_cd rfl ?_; first | (apply gd_t) | (apply gd_ft) | (apply gd_tf) | (apply gd_dec_t <;> intro hq <;> (try (exfalso; omega))) | (apply gd_dec_f <;> intro hq <;> (try (exfalso; omega))) | (apply gd_beq_t <;> intro hq <;> (try (exfalso; omega))) | (apply gd_beq_f <;> intro hq <;> (try (exfalso; omega))) | (apply gd_bne_t <;> intro hq <;> (try (exfalso; omega))) | (apply gd_bne_f <;> intro hq <;> (try (exfalso; omega))) | (apply gd_not_t <;> intro hq) | (apply gd_not_f <;> intro hq) | (apply gd_raw_t <;> intro hq) | (apply gd_raw_f <;> intro hq)) | (apply at_thn) | (apply at_thn_ret) | (apply at_thn_exit) | (apply at_inb) | (apply at_inb_ret) | (apply at_inb_exit) | refine at_inb_pass rfl ?_ | refine c_drawn (by kernel_rfl) ?_)
    exact e_scf (.own 121 4 none 0 0 [] :: H) (.inr rfl) rfl (fun _ hw => hw.nilrow _ _) ⟨_, _, rfl, rfl⟩
  · have hnone := fun h => readP_none hb h
    have hbad := fun out h => readP_bad (out := out) hb h
    have hok := fun out h => readP_ok (out := out) hb h
    have cW := fun H s hs => piece_sv G H s hs
    have Hnone := Lib.hid hnone
    have Hbad := Lib.hid hbad
    have Hok := Lib.hid hok
    clear hnone hbad hok
    refine sc_enter1 Tryd.func106 rfl rfl rfl rfl rfl ?_
    repeat' (first | (apply g_sl; first | (apply ks_nil; refine sl_nil ?_) | (apply ks_move; refine s_move rfl rfl ?_) | (apply ks_bin; refine s_bin rfl rfl rfl ?_; first | fail | (first | refine bb_of rfl ?_)) | (apply ks_load; first | (refine s_load rfl rfl ?_; first | refine ld_cell rfl ?_ | refine ld_whole rfl ?_ | refine ld_elem rfl ?_ | refine ld_part rfl rfl ?_) | fail) | (apply ks_asgn; refine s_asgn rfl rfl ?_) | (apply ks_pick; refine s_pick rfl rfl ?_; first | (apply kp_t; refine pk_t rfl ?_) | (apply kp_f; refine pk_f rfl ?_) | refine pk_s rfl rfl ?_) | (apply ks_field; first | refine s_field (c_field0 rfl rfl) rfl ?_ | refine s_field (c_field rfl rfl) rfl ?_) | (apply ks_un; refine s_un (y_un rfl rfl rfl) rfl ?_) | (apply ks_extr; refine s_extr (y_extract rfl rfl rfl) rfl ?_) | (apply ks_build; first | refine s_build (c_build rfl rfl rfl) rfl ?_ | fail) | (apply ks_index; first | fail | refine s_index (c_indexArr rfl rfl rfl (by omega) (by omega) rfl) rfl ?_ | refine s_index (c_indexArrA rfl rfl rfl (by omega) (by omega) rfl) rfl ?_ | refine s_index (c_indexStr rfl rfl rfl (by omega) rfl) rfl ?_) | (apply ks_fn; first | fail) | (apply ks_bi; first | fail | refine s_call (c_len rfl rfl) rfl ?_ | refine s_call (c_len_str rfl rfl) rfl ?_ | refine s_call (c_bi rfl rfl rfl rfl) rfl ?_ | refine c_append rfl rfl rfl rfl (by first | rfl | simp [ints]) (by first | rfl | exact ints_one _ | exact octs_one _ | exact strs_one _) (by omega) rfl rfl (fun _ _ => ?_) | refine c_append_nil rfl rfl rfl rfl (by first | rfl | simp [ints]) (by first | rfl | exact ints_one _ | exact octs_one _ | exact strs_one _) (by omega) rfl rfl (fun _ _ => ?_)) | (apply ks_store; first | first | refine c_store rfl rfl rfl rfl rfl rfl rfl ?_ | refine c_storew rfl rfl rfl rfl rfl rfl rfl rfl ?_ | refine c_storee rfl rfl rfl rfl rfl (by omega) rfl ?_ | fail) | (apply ks_alloc; refine c_alloc rfl rfl rfl rfl (fun _ => ?_)) | (apply ks_bs; first | refine c_buildSlice rfl rfl rfl rfl rfl rfl rfl rfl rfl rfl (fun _ => ?_) | fail) | (apply ks_slice; first | fail | refine s_slice (c_sliceStr rfl rfl rfl rfl (by omega) (by omega) (by omega)) rfl ?_) | (apply ks_guard; first | (refine sl_gd rfl rfl rfl rfl ?_; first | (apply gd_t) | (apply gd_ft) | (apply gd_tf) | (apply gd_dec_t <;> intro hq <;> (try (exfalso; omega))) | (apply gd_dec_f <;> intro hq <;> (try (exfalso; omega))) | (apply gd_beq_t <;> intro hq <;> (try (exfalso; omega))) | (apply gd_beq_f <;> intro hq <;> (try (exfalso; omega))) | (apply gd_bne_t <;> intro hq <;> (try (exfalso; omega))) | (apply gd_bne_f <;> intro hq <;> (try (exfalso; omega))) | (apply gd_not_t <;> intro hq) | (apply gd_not_f <;> intro hq) | (apply gd_raw_t <;> intro hq) | (apply gd_raw_f <;> intro hq)) | refine sl_skip_u rfl rfl rfl rfl rfl rfl ?_) | fail) | (apply sw_seq) | (apply at_srd) | (apply sw_skip) | (apply sw_ret) | (apply sw_exit) | (apply sw_block) | (apply sw_region) | (refine sw_cd rfl ?_; first | (apply gd_t) | (apply gd_ft) | (apply gd_tf) | (apply gd_dec_t <;> intro hq <;> (try (exfalso; omega))) | (apply gd_dec_f <;> intro hq <;> (try (exfalso; omega))) | (apply gd_beq_t <;> intro hq <;> (try (exfalso; omega))) | (apply gd_beq_f <;> intro hq <;> (try (exfalso; omega))) | (apply gd_bne_t <;> intro hq <;> (try (exfalso; omega))) | (apply gd_bne_f <;> intro hq <;> (try (exfalso; omega))) | (apply gd_not_t <;> intro hq) | (apply gd_not_f <;> intro hq) | (apply gd_raw_t <;> intro hq) | (apply gd_raw_f <;> intro hq)) | (apply at_thn) | (apply at_thn_ret) | (apply at_thn_exit) | (apply at_inb) | (apply at_inb_ret) | (apply at_inb_exit) | refine at_inb_pass rfl ?_ | refine c_drawn (by kernel_rfl) ?_)
    refine sw_loopg (α := Nat × List Vr × ByteArray × Option Addr × Nat) (fun g => [(4, .slice g.2.2.2.1 g.2.1.length g.2.2.2.2), (0, .string g.2.2.1)]) (fun g => .own 121 4 g.2.2.2.1 g.2.1.length g.2.2.2.2 (vrs g.2.1) :: H)
      (fun g => g.2.2.1.size ≤ g.1 ∧ g.2.1.length + g.1 ≤ s.size ∧ many stepP s.size (nums s) = (many stepP g.1 (nums g.2.2.1)).map fun l => g.2.1 ++ l) (fun g => g.2.2.1.size) (s.size, [], s, none, 0) ⟨Nat.le_refl _, by simp, by cases many stepP s.size (nums s) <;> rfl⟩ (by repeat (first | exact Le.nil _ | refine Le.cons (by first | rfl | (exact congrArg some (congrArg (Value.int _) (by omega)))) ?_)) (fun _ hw => (hw.nilrow _ _).subs (by repeat (first | refine Subs.cons (by repeat constructor) ?_ | exact Subs.sub (by repeat (first | exact List.Sublist.refl _ | exact List.nil_sublist _ | refine List.Sublist.cons _ ?_))))) ?_
    rintro ⟨m, X, r, ao, co⟩ ⟨hr, hx, hmy⟩
    dsimp only at hr hx hmy ⊢
    cases hn : nums r with
    | nil =>
      have hr0 := nums_nil0 hn
      subst hr0
      have hv : many stepP s.size (nums s) = some X := by rw [hmy, hn]; cases m <;> simp [many]
      have cWr := fun H (h1 : RdC G H ao (vrs X)) => varsText_sv G H m0 hM X ao X.length co rfl rfl (by unfold maxLen; omega)
      have hbad := fun h => Hbad.out X hv h
      have hok := fun h => Hok.out X hv h
      generalize writeV X = wv at *
      obtain ⟨w1, w2⟩ := wv
      dsimp only at *
      have Hbad2 := Lib.hid hbad
      have Hok2 := Lib.hid hok
      clear hbad hok hv hmy
      repeat' (first | (apply g_sl; first | (apply ks_nil; refine sl_nil ?_) | (apply ks_move; refine s_move rfl rfl ?_) | (apply ks_bin; refine s_bin rfl rfl rfl ?_; first | first | (refine bb_sne ?_) | (first | refine bb_of rfl ?_)) | (apply ks_load; first | (refine s_load rfl rfl ?_; first | refine ld_cell rfl ?_ | refine ld_whole rfl ?_ | refine ld_elem rfl ?_ | refine ld_part rfl rfl ?_) | first | (refine bb_sne ?_)) | (apply ks_asgn; refine s_asgn rfl rfl ?_) | (apply ks_pick; refine s_pick rfl rfl ?_; first | (apply kp_t; refine pk_t rfl ?_) | (apply kp_f; refine pk_f rfl ?_) | refine pk_s rfl rfl ?_) | (apply ks_field; first | refine s_field (c_field0 rfl rfl) rfl ?_ | refine s_field (c_field rfl rfl) rfl ?_) | (apply ks_un; refine s_un (y_un rfl rfl rfl) rfl ?_) | (apply ks_extr; refine s_extr (y_extract rfl rfl rfl) rfl ?_) | (apply ks_build; first | refine s_build (c_build rfl rfl rfl) rfl ?_ | first | (refine bb_sne ?_)) | (apply ks_index; first | first | (refine bb_sne ?_) | refine s_index (c_indexArr rfl rfl rfl (by omega) (by omega) rfl) rfl ?_ | refine s_index (c_indexArrA rfl rfl rfl (by omega) (by omega) rfl) rfl ?_ | refine s_index (c_indexStr rfl rfl rfl (by omega) rfl) rfl ?_) | (apply ks_fn; first | refine c_callv rfl rfl rfl (cWr _ inferInstance) rfl rfl ?_) | (apply ks_bi; first | first | (refine bb_sne ?_) | refine s_call (c_len rfl rfl) rfl ?_ | refine s_call (c_len_str rfl rfl) rfl ?_ | refine s_call (c_bi rfl rfl rfl rfl) rfl ?_ | refine c_append rfl rfl rfl rfl (by first | rfl | simp [ints]) (by first | rfl | exact ints_one _ | exact octs_one _ | exact strs_one _) (by omega) rfl rfl (fun _ _ => ?_) | refine c_append_nil rfl rfl rfl rfl (by first | rfl | simp [ints]) (by first | rfl | exact ints_one _ | exact octs_one _ | exact strs_one _) (by omega) rfl rfl (fun _ _ => ?_)) | (apply ks_store; first | first | refine c_store rfl rfl rfl rfl rfl rfl rfl ?_ | refine c_storew rfl rfl rfl rfl rfl rfl rfl rfl ?_ | refine c_storee rfl rfl rfl rfl rfl (by omega) rfl ?_ | first | (refine bb_sne ?_)) | (apply ks_alloc; refine c_alloc rfl rfl rfl rfl (fun _ => ?_)) | (apply ks_bs; first | refine c_buildSlice rfl rfl rfl rfl rfl rfl rfl rfl rfl rfl (fun _ => ?_) | first | (refine bb_sne ?_)) | (apply ks_slice; first | first | (refine bb_sne ?_) | refine s_slice (c_sliceStr rfl rfl rfl rfl (by omega) (by omega) (by omega)) rfl ?_) | (apply ks_guard; first | (refine sl_gd rfl rfl rfl rfl ?_; first | (apply gd_t) | (apply gd_ft) | (apply gd_tf) | (apply gd_dec_t <;> intro hq <;> (try (exfalso; omega))) | (apply gd_dec_f <;> intro hq <;> (try (exfalso; omega))) | (apply gd_beq_t <;> intro hq <;> (try (exfalso; omega))) | (apply gd_beq_f <;> intro hq <;> (try (exfalso; omega))) | (apply gd_bne_t <;> intro hq <;> (try (exfalso; omega))) | (apply gd_bne_f <;> intro hq <;> (try (exfalso; omega))) | (apply gd_not_t <;> intro hq) | (apply gd_not_f <;> intro hq) | (apply gd_raw_t <;> intro hq) | (apply gd_raw_f <;> intro hq)) | refine sl_skip_u rfl rfl rfl rfl rfl rfl ?_) | first | (refine bb_sne ?_)) | (apply sw_seq) | (apply at_srd) | (apply sw_skip) | (apply sw_ret) | (apply sw_exit) | (apply sw_block) | (apply sw_region) | (refine sw_cd rfl ?_; first | (apply gd_t) | (apply gd_ft) | (apply gd_tf) | (apply gd_dec_t <;> intro hq <;> (try (exfalso; omega))) | (apply gd_dec_f <;> intro hq <;> (try (exfalso; omega))) | (apply gd_beq_t <;> intro hq <;> (try (exfalso; omega))) | (apply gd_beq_f <;> intro hq <;> (try (exfalso; omega))) | (apply gd_bne_t <;> intro hq <;> (try (exfalso; omega))) | (apply gd_bne_f <;> intro hq <;> (try (exfalso; omega))) | (apply gd_not_t <;> intro hq) | (apply gd_not_f <;> intro hq) | (apply gd_raw_t <;> intro hq) | (apply gd_raw_f <;> intro hq)) | (apply at_thn) | (apply at_thn_ret) | (apply at_thn_exit) | (apply at_inb) | (apply at_inb_ret) | (apply at_inb_exit) | refine at_inb_pass rfl ?_ | refine c_drawn (by kernel_rfl) ?_)
      all_goals first
        | (exact absurd rfl (by assumption))
        | (rw [Hbad2.out (by assumption)]
           exact e_scf (.own 121 4 none 0 0 [] :: H) (.inr rfl) rfl (fun _ hw => (hw.sub (List.sublist_cons_self _ _)).nilrow _ _) ⟨_, _, rfl, rfl⟩)
        | (rw [Hok2.out (by first | assumption | omega)]
           exact e_sc _ (.inr rfl) rfl (List.Sublist.refl _) ⟨_, _, rfl, rfl⟩)
    | cons x t =>
      have hne := nums_ne hn
      have hsz := nums_size hn
      have hx0 : (nums r).getD (0 : Int).toNat 0 = x := by rw [hn]; rfl
      have hbx : 0 ≤ x ∧ x ≤ 255 := nums_bound r x (by rw [hn]; exact List.mem_cons_self)
      rw [hn] at hmy
      by_cases hxx : ¬ x = 0 ∧ ¬ x = 3
      · obtain ⟨h0, h3⟩ := hxx
        have hv : many stepP s.size (nums s) = none := by rw [hmy, many_none (by omega) (stepP_bad h0 h3)]; rfl
        rw [Hnone.out hv]
        clear hmy hv
        repeat' (first | (apply g_sl; first | (apply ks_nil; refine sl_nil ?_) | (apply ks_move; refine s_move rfl rfl ?_) | (apply ks_bin; refine s_bin rfl rfl rfl ?_; first | first | (refine bb_sne ?_) | (refine s_index (c_indexNumV hx0 rfl rfl rfl (by omega) (by omega)) rfl ?_) | (first | refine bb_of rfl ?_)) | (apply ks_load; first | (refine s_load rfl rfl ?_; first | refine ld_cell rfl ?_ | refine ld_whole rfl ?_ | refine ld_elem rfl ?_ | refine ld_part rfl rfl ?_) | first | (refine bb_sne ?_) | (refine s_index (c_indexNumV hx0 rfl rfl rfl (by omega) (by omega)) rfl ?_)) | (apply ks_asgn; refine s_asgn rfl rfl ?_) | (apply ks_pick; refine s_pick rfl rfl ?_; first | (apply kp_t; refine pk_t rfl ?_) | (apply kp_f; refine pk_f rfl ?_) | refine pk_s rfl rfl ?_) | (apply ks_field; first | refine s_field (c_field0 rfl rfl) rfl ?_ | refine s_field (c_field rfl rfl) rfl ?_) | (apply ks_un; refine s_un (y_un rfl rfl rfl) rfl ?_) | (apply ks_extr; refine s_extr (y_extract rfl rfl rfl) rfl ?_) | (apply ks_build; first | refine s_build (c_build rfl rfl rfl) rfl ?_ | first | (refine bb_sne ?_) | (refine s_index (c_indexNumV hx0 rfl rfl rfl (by omega) (by omega)) rfl ?_)) | (apply ks_index; first | first | (refine bb_sne ?_) | (refine s_index (c_indexNumV hx0 rfl rfl rfl (by omega) (by omega)) rfl ?_) | refine s_index (c_indexArr rfl rfl rfl (by omega) (by omega) rfl) rfl ?_ | refine s_index (c_indexArrA rfl rfl rfl (by omega) (by omega) rfl) rfl ?_ | refine s_index (c_indexStr rfl rfl rfl (by omega) rfl) rfl ?_) | (apply ks_fn; first | fail) | (apply ks_bi; first | first | (refine bb_sne ?_) | (refine s_index (c_indexNumV hx0 rfl rfl rfl (by omega) (by omega)) rfl ?_) | refine s_call (c_len rfl rfl) rfl ?_ | refine s_call (c_len_str rfl rfl) rfl ?_ | refine s_call (c_bi rfl rfl rfl rfl) rfl ?_ | refine c_append rfl rfl rfl rfl (by first | rfl | simp [ints]) (by first | rfl | exact ints_one _ | exact octs_one _ | exact strs_one _) (by omega) rfl rfl (fun _ _ => ?_) | refine c_append_nil rfl rfl rfl rfl (by first | rfl | simp [ints]) (by first | rfl | exact ints_one _ | exact octs_one _ | exact strs_one _) (by omega) rfl rfl (fun _ _ => ?_)) | (apply ks_store; first | first | refine c_store rfl rfl rfl rfl rfl rfl rfl ?_ | refine c_storew rfl rfl rfl rfl rfl rfl rfl rfl ?_ | refine c_storee rfl rfl rfl rfl rfl (by omega) rfl ?_ | first | (refine bb_sne ?_) | (refine s_index (c_indexNumV hx0 rfl rfl rfl (by omega) (by omega)) rfl ?_)) | (apply ks_alloc; refine c_alloc rfl rfl rfl rfl (fun _ => ?_)) | (apply ks_bs; first | refine c_buildSlice rfl rfl rfl rfl rfl rfl rfl rfl rfl rfl (fun _ => ?_) | first | (refine bb_sne ?_) | (refine s_index (c_indexNumV hx0 rfl rfl rfl (by omega) (by omega)) rfl ?_)) | (apply ks_slice; first | first | (refine bb_sne ?_) | (refine s_index (c_indexNumV hx0 rfl rfl rfl (by omega) (by omega)) rfl ?_) | refine s_slice (c_sliceStr rfl rfl rfl rfl (by omega) (by omega) (by omega)) rfl ?_) | (apply ks_guard; first | (refine sl_gd rfl rfl rfl rfl ?_; first | (apply gd_t) | (apply gd_ft) | (apply gd_tf) | (apply gd_dec_t <;> intro hq <;> (try (exfalso; omega))) | (apply gd_dec_f <;> intro hq <;> (try (exfalso; omega))) | (apply gd_beq_t <;> intro hq <;> (try (exfalso; omega))) | (apply gd_beq_f <;> intro hq <;> (try (exfalso; omega))) | (apply gd_bne_t <;> intro hq <;> (try (exfalso; omega))) | (apply gd_bne_f <;> intro hq <;> (try (exfalso; omega))) | (apply gd_not_t <;> intro hq) | (apply gd_not_f <;> intro hq) | (apply gd_raw_t <;> intro hq) | (apply gd_raw_f <;> intro hq)) | refine sl_skip_u rfl rfl rfl rfl rfl rfl ?_) | first | (refine bb_sne ?_) | (refine s_index (c_indexNumV hx0 rfl rfl rfl (by omega) (by omega)) rfl ?_)) | (apply sw_seq) | (apply at_srd) | (apply sw_skip) | (apply sw_ret) | (apply sw_exit) | (apply sw_block) | (apply sw_region) | (refine sw_cd rfl ?_; first | (apply gd_t) | (apply gd_ft) | (apply gd_tf) | (apply gd_dec_t <;> intro hq <;> (try (exfalso; omega))) | (apply gd_dec_f <;> intro hq <;> (try (exfalso; omega))) | (apply gd_beq_t <;> intro hq <;> (try (exfalso; omega))) | (apply gd_beq_f <;> intro hq <;> (try (exfalso; omega))) | (apply gd_bne_t <;> intro hq <;> (try (exfalso; omega))) | (apply gd_bne_f <;> intro hq <;> (try (exfalso; omega))) | (apply gd_not_t <;> intro hq) | (apply gd_not_f <;> intro hq) | (apply gd_raw_t <;> intro hq) | (apply gd_raw_f <;> intro hq)) | (apply at_thn) | (apply at_thn_ret) | (apply at_thn_exit) | (apply at_inb) | (apply at_inb_ret) | (apply at_inb_exit) | refine at_inb_pass rfl ?_ | refine c_drawn (by kernel_rfl) ?_)
        all_goals first | (exfalso; omega) | (exact absurd (of_decide_eq_true (by assumption)) hne) | (exact e_scf (.own 121 4 none 0 0 [] :: H) (.inr rfl) rfl (fun _ hw => (hw.sub (List.sublist_cons_self _ _)).nilrow _ _) ⟨_, _, rfl, rfl⟩)
      · have hx3 : x = 0 ∨ x = 3 := by omega
        clear hxx
        obtain ⟨r1, hr1⟩ : ∃ r1, r.extract (1 : Int).toNat (r.size : Int).toNat = r1 := ⟨_, rfl⟩
        have hn1 : nums r1 = t := by rw [← hr1]; exact nums_tail r x t hn
        have hl1 : r1.size = t.length := by rw [← nums_length, hn1]
        have c1 := fun H => cW H r1 (by omega)
        rw [hn1] at c1
        cases hp : pieceI t with
        | none =>
          have hv : many stepP s.size (nums s) = none := by rw [hmy, many_none (by omega) (stepP_n1 hp)]; rfl
          rw [Hnone.out hv]
          rw [hp] at c1
          clear hmy hv cW
          simp only [pieceV] at c1
          repeat' (first | (apply g_sl; first | (apply ks_nil; refine sl_nil ?_) | (apply ks_move; refine s_move rfl rfl ?_) | (apply ks_bin; refine s_bin rfl rfl rfl ?_; first | first | (refine bb_sne ?_) | (refine s_index (c_indexNumV hx0 rfl rfl rfl (by omega) (by omega)) rfl ?_) | (refine s_slice (c_sliceStrV hr1 rfl rfl rfl rfl (by omega) (by omega) (by omega)) rfl ?_) | (first | refine bb_of rfl ?_)) | (apply ks_load; first | (refine s_load rfl rfl ?_; first | refine ld_cell rfl ?_ | refine ld_whole rfl ?_ | refine ld_elem rfl ?_ | refine ld_part rfl rfl ?_) | first | (refine bb_sne ?_) | (refine s_index (c_indexNumV hx0 rfl rfl rfl (by omega) (by omega)) rfl ?_) | (refine s_slice (c_sliceStrV hr1 rfl rfl rfl rfl (by omega) (by omega) (by omega)) rfl ?_)) | (apply ks_asgn; refine s_asgn rfl rfl ?_) | (apply ks_pick; refine s_pick rfl rfl ?_; first | (apply kp_t; refine pk_t rfl ?_) | (apply kp_f; refine pk_f rfl ?_) | refine pk_s rfl rfl ?_) | (apply ks_field; first | refine s_field (c_field0 rfl rfl) rfl ?_ | refine s_field (c_field rfl rfl) rfl ?_) | (apply ks_un; refine s_un (y_un rfl rfl rfl) rfl ?_) | (apply ks_extr; refine s_extr (y_extract rfl rfl rfl) rfl ?_) | (apply ks_build; first | refine s_build (c_build rfl rfl rfl) rfl ?_ | first | (refine bb_sne ?_) | (refine s_index (c_indexNumV hx0 rfl rfl rfl (by omega) (by omega)) rfl ?_) | (refine s_slice (c_sliceStrV hr1 rfl rfl rfl rfl (by omega) (by omega) (by omega)) rfl ?_)) | (apply ks_index; first | first | (refine bb_sne ?_) | (refine s_index (c_indexNumV hx0 rfl rfl rfl (by omega) (by omega)) rfl ?_) | (refine s_slice (c_sliceStrV hr1 rfl rfl rfl rfl (by omega) (by omega) (by omega)) rfl ?_) | refine s_index (c_indexArr rfl rfl rfl (by omega) (by omega) rfl) rfl ?_ | refine s_index (c_indexArrA rfl rfl rfl (by omega) (by omega) rfl) rfl ?_ | refine s_index (c_indexStr rfl rfl rfl (by omega) rfl) rfl ?_) | (apply ks_fn; first | refine c_callv rfl rfl rfl (c1 _) rfl rfl ?_) | (apply ks_bi; first | first | (refine bb_sne ?_) | (refine s_index (c_indexNumV hx0 rfl rfl rfl (by omega) (by omega)) rfl ?_) | (refine s_slice (c_sliceStrV hr1 rfl rfl rfl rfl (by omega) (by omega) (by omega)) rfl ?_) | refine s_call (c_len rfl rfl) rfl ?_ | refine s_call (c_len_str rfl rfl) rfl ?_ | refine s_call (c_bi rfl rfl rfl rfl) rfl ?_ | refine c_append rfl rfl rfl rfl (by first | rfl | simp [ints]) (by first | rfl | exact ints_one _ | exact octs_one _ | exact strs_one _) (by omega) rfl rfl (fun _ _ => ?_) | refine c_append_nil rfl rfl rfl rfl (by first | rfl | simp [ints]) (by first | rfl | exact ints_one _ | exact octs_one _ | exact strs_one _) (by omega) rfl rfl (fun _ _ => ?_)) | (apply ks_store; first | first | refine c_store rfl rfl rfl rfl rfl rfl rfl ?_ | refine c_storew rfl rfl rfl rfl rfl rfl rfl rfl ?_ | refine c_storee rfl rfl rfl rfl rfl (by omega) rfl ?_ | first | (refine bb_sne ?_) | (refine s_index (c_indexNumV hx0 rfl rfl rfl (by omega) (by omega)) rfl ?_) | (refine s_slice (c_sliceStrV hr1 rfl rfl rfl rfl (by omega) (by omega) (by omega)) rfl ?_)) | (apply ks_alloc; refine c_alloc rfl rfl rfl rfl (fun _ => ?_)) | (apply ks_bs; first | refine c_buildSlice rfl rfl rfl rfl rfl rfl rfl rfl rfl rfl (fun _ => ?_) | first | (refine bb_sne ?_) | (refine s_index (c_indexNumV hx0 rfl rfl rfl (by omega) (by omega)) rfl ?_) | (refine s_slice (c_sliceStrV hr1 rfl rfl rfl rfl (by omega) (by omega) (by omega)) rfl ?_)) | (apply ks_slice; first | first | (refine bb_sne ?_) | (refine s_index (c_indexNumV hx0 rfl rfl rfl (by omega) (by omega)) rfl ?_) | (refine s_slice (c_sliceStrV hr1 rfl rfl rfl rfl (by omega) (by omega) (by omega)) rfl ?_) | refine s_slice (c_sliceStr rfl rfl rfl rfl (by omega) (by omega) (by omega)) rfl ?_) | (apply ks_guard; first | (refine sl_gd rfl rfl rfl rfl ?_; first | (apply gd_t) | (apply gd_ft) | (apply gd_tf) | (apply gd_dec_t <;> intro hq <;> (try (exfalso; omega))) | (apply gd_dec_f <;> intro hq <;> (try (exfalso; omega))) | (apply gd_beq_t <;> intro hq <;> (try (exfalso; omega))) | (apply gd_beq_f <;> intro hq <;> (try (exfalso; omega))) | (apply gd_bne_t <;> intro hq <;> (try (exfalso; omega))) | (apply gd_bne_f <;> intro hq <;> (try (exfalso; omega))) | (apply gd_not_t <;> intro hq) | (apply gd_not_f <;> intro hq) | (apply gd_raw_t <;> intro hq) | (apply gd_raw_f <;> intro hq)) | refine sl_skip_u rfl rfl rfl rfl rfl rfl ?_) | first | (refine bb_sne ?_) | (refine s_index (c_indexNumV hx0 rfl rfl rfl (by omega) (by omega)) rfl ?_) | (refine s_slice (c_sliceStrV hr1 rfl rfl rfl rfl (by omega) (by omega) (by omega)) rfl ?_)) | (apply sw_seq) | (apply at_srd) | (apply sw_skip) | (apply sw_ret) | (apply sw_exit) | (apply sw_block) | (apply sw_region) | (refine sw_cd rfl ?_; first | (apply gd_t) | (apply gd_ft) | (apply gd_tf) | (apply gd_dec_t <;> intro hq <;> (try (exfalso; omega))) | (apply gd_dec_f <;> intro hq <;> (try (exfalso; omega))) | (apply gd_beq_t <;> intro hq <;> (try (exfalso; omega))) | (apply gd_beq_f <;> intro hq <;> (try (exfalso; omega))) | (apply gd_bne_t <;> intro hq <;> (try (exfalso; omega))) | (apply gd_bne_f <;> intro hq <;> (try (exfalso; omega))) | (apply gd_not_t <;> intro hq) | (apply gd_not_f <;> intro hq) | (apply gd_raw_t <;> intro hq) | (apply gd_raw_f <;> intro hq)) | (apply at_thn) | (apply at_thn_ret) | (apply at_thn_exit) | (apply at_inb) | (apply at_inb_ret) | (apply at_inb_exit) | refine at_inb_pass rfl ?_ | refine c_drawn (by kernel_rfl) ?_)
          all_goals first | (exfalso; omega) | (exact absurd (of_decide_eq_true (by assumption)) hne) | (exact e_scf (.own 121 4 none 0 0 [] :: H) (.inr rfl) rfl (fun _ hw => (hw.sub (((List.sublist_cons_self _ _).trans (List.sublist_cons_self _ _)))).nilrow _ _) ⟨_, _, rfl, rfl⟩)
        | some W =>
        obtain ⟨W1, W2⟩ := W
        have hmem : ∀ z ∈ W2, 0 ≤ z ∧ z ≤ 255 := fun z hz => nums_bound r z (by rw [hn]; exact List.mem_cons_of_mem _ (piece_mem hp z hz))
        have hwl := piece_len t W1 W2 hp
        have hset := fun t2 V1 V2 (h : W2 = 1 :: t2) h2 => stepP_set (t := t) (t2 := t2) (W1 := W1) (V1 := V1) (V2 := V2) hx3 (h ▸ hp) h2
        have hun := fun h => stepP_un (t := t) hx3 hp h
        have hn2' := fun t2 (h : W2 = 1 :: t2) h2 => stepP_n2 (x := x) (t := t) (t2 := t2) (h ▸ hp) h2
        rw [hp] at c1
        simp only [pieceV] at c1
        clear hp
        cases W2 with
        | nil =>
          have hmx := hmy
          rw [many_some (by omega) (hun (fun _ h => nomatch h))] at hmx
          clear hset hun hmy cW hn2'
          generalize strOfNums W1 = w1 at *
          have Hmx := Lib.hid hmx
          clear hmx
          have hne2 : ¬ (⟨#[1]⟩ : ByteArray) = ⟨#[]⟩ := by decide
          have hnr : nums ⟨#[]⟩ = [] := rfl
          have hz0 : (⟨#[]⟩ : ByteArray).size = 0 := rfl
          rw [List.length_nil] at hwl
          rw [show strOfNums [] = ⟨#[]⟩ from rfl] at c1
          rcases hx3 with rfl | rfl
          · skip
            repeat' (first | (apply g_sl; first | (apply ks_nil; refine sl_nil ?_) | (apply ks_move; refine s_move rfl rfl ?_) | (apply ks_bin; refine s_bin rfl rfl rfl ?_; first | first | (refine bb_sne ?_) | (refine s_index (c_indexNumV hx0 rfl rfl rfl (by omega) (by omega)) rfl ?_) | (refine s_slice (c_sliceStrV hr1 rfl rfl rfl rfl (by omega) (by omega) (by omega)) rfl ?_) | refine c_bsA rfl rfl rfl rfl rfl rfl rfl rfl rfl (fun _ => ?_) | (first | refine bb_of rfl ?_)) | (apply ks_load; first | (refine s_load rfl rfl ?_; first | refine ld_cell rfl ?_ | refine ld_whole rfl ?_ | refine ld_elem rfl ?_ | refine ld_part rfl rfl ?_) | first | (refine bb_sne ?_) | (refine s_index (c_indexNumV hx0 rfl rfl rfl (by omega) (by omega)) rfl ?_) | (refine s_slice (c_sliceStrV hr1 rfl rfl rfl rfl (by omega) (by omega) (by omega)) rfl ?_) | refine c_bsA rfl rfl rfl rfl rfl rfl rfl rfl rfl (fun _ => ?_)) | (apply ks_asgn; refine s_asgn rfl rfl ?_) | (apply ks_pick; refine s_pick rfl rfl ?_; first | (apply kp_t; refine pk_t rfl ?_) | (apply kp_f; refine pk_f rfl ?_) | refine pk_s rfl rfl ?_) | (apply ks_field; first | refine s_field (c_field0 rfl rfl) rfl ?_ | refine s_field (c_field rfl rfl) rfl ?_) | (apply ks_un; refine s_un (y_un rfl rfl rfl) rfl ?_) | (apply ks_extr; refine s_extr (y_extract rfl rfl rfl) rfl ?_) | (apply ks_build; first | refine s_build (c_build rfl rfl rfl) rfl ?_ | first | (refine bb_sne ?_) | (refine s_index (c_indexNumV hx0 rfl rfl rfl (by omega) (by omega)) rfl ?_) | (refine s_slice (c_sliceStrV hr1 rfl rfl rfl rfl (by omega) (by omega) (by omega)) rfl ?_) | refine c_bsA rfl rfl rfl rfl rfl rfl rfl rfl rfl (fun _ => ?_)) | (apply ks_index; first | first | (refine bb_sne ?_) | (refine s_index (c_indexNumV hx0 rfl rfl rfl (by omega) (by omega)) rfl ?_) | (refine s_slice (c_sliceStrV hr1 rfl rfl rfl rfl (by omega) (by omega) (by omega)) rfl ?_) | refine c_bsA rfl rfl rfl rfl rfl rfl rfl rfl rfl (fun _ => ?_) | refine s_index (c_indexArr rfl rfl rfl (by omega) (by omega) rfl) rfl ?_ | refine s_index (c_indexArrA rfl rfl rfl (by omega) (by omega) rfl) rfl ?_ | refine s_index (c_indexStr rfl rfl rfl (by omega) rfl) rfl ?_) | (apply ks_fn; first | refine c_callv rfl rfl rfl (c1 _) rfl rfl ?_) | (apply ks_bi; first | first | (refine bb_sne ?_) | (refine s_index (c_indexNumV hx0 rfl rfl rfl (by omega) (by omega)) rfl ?_) | (refine s_slice (c_sliceStrV hr1 rfl rfl rfl rfl (by omega) (by omega) (by omega)) rfl ?_) | refine c_bsA rfl rfl rfl rfl rfl rfl rfl rfl rfl (fun _ => ?_) | refine s_call (c_len rfl rfl) rfl ?_ | refine s_call (c_len_str rfl rfl) rfl ?_ | refine s_call (c_bi rfl rfl rfl rfl) rfl ?_ | refine c_append rfl rfl rfl rfl (by first | rfl | simp [ints]) (by first | rfl | exact ints_one _ | exact octs_one _ | exact strs_one _) (by omega) rfl rfl (fun _ _ => ?_) | refine c_append_nil rfl rfl rfl rfl (by first | rfl | simp [ints]) (by first | rfl | exact ints_one _ | exact octs_one _ | exact strs_one _) (by omega) rfl rfl (fun _ _ => ?_)) | (apply ks_store; first | first | refine c_store rfl rfl rfl rfl rfl rfl rfl ?_ | refine c_storew rfl rfl rfl rfl rfl rfl rfl rfl ?_ | refine c_storee rfl rfl rfl rfl rfl (by omega) rfl ?_ | first | (refine bb_sne ?_) | (refine s_index (c_indexNumV hx0 rfl rfl rfl (by omega) (by omega)) rfl ?_) | (refine s_slice (c_sliceStrV hr1 rfl rfl rfl rfl (by omega) (by omega) (by omega)) rfl ?_) | refine c_bsA rfl rfl rfl rfl rfl rfl rfl rfl rfl (fun _ => ?_)) | (apply ks_alloc; refine c_alloc rfl rfl rfl rfl (fun _ => ?_)) | (apply ks_bs; first | refine c_buildSlice rfl rfl rfl rfl rfl rfl rfl rfl rfl rfl (fun _ => ?_) | first | (refine bb_sne ?_) | (refine s_index (c_indexNumV hx0 rfl rfl rfl (by omega) (by omega)) rfl ?_) | (refine s_slice (c_sliceStrV hr1 rfl rfl rfl rfl (by omega) (by omega) (by omega)) rfl ?_) | refine c_bsA rfl rfl rfl rfl rfl rfl rfl rfl rfl (fun _ => ?_)) | (apply ks_slice; first | first | (refine bb_sne ?_) | (refine s_index (c_indexNumV hx0 rfl rfl rfl (by omega) (by omega)) rfl ?_) | (refine s_slice (c_sliceStrV hr1 rfl rfl rfl rfl (by omega) (by omega) (by omega)) rfl ?_) | refine c_bsA rfl rfl rfl rfl rfl rfl rfl rfl rfl (fun _ => ?_) | refine s_slice (c_sliceStr rfl rfl rfl rfl (by omega) (by omega) (by omega)) rfl ?_) | (apply ks_guard; first | (refine sl_gd rfl rfl rfl rfl ?_; first | (apply gd_t) | (apply gd_ft) | (apply gd_tf) | (apply gd_dec_t <;> intro hq <;> (try (exfalso; omega))) | (apply gd_dec_f <;> intro hq <;> (try (exfalso; omega))) | (apply gd_beq_t <;> intro hq <;> (try (exfalso; omega))) | (apply gd_beq_f <;> intro hq <;> (try (exfalso; omega))) | (apply gd_bne_t <;> intro hq <;> (try (exfalso; omega))) | (apply gd_bne_f <;> intro hq <;> (try (exfalso; omega))) | (apply gd_not_t <;> intro hq) | (apply gd_not_f <;> intro hq) | (apply gd_raw_t <;> intro hq) | (apply gd_raw_f <;> intro hq)) | refine sl_skip_u rfl rfl rfl rfl rfl rfl ?_) | first | (refine bb_sne ?_) | (refine s_index (c_indexNumV hx0 rfl rfl rfl (by omega) (by omega)) rfl ?_) | (refine s_slice (c_sliceStrV hr1 rfl rfl rfl rfl (by omega) (by omega) (by omega)) rfl ?_) | refine c_bsA rfl rfl rfl rfl rfl rfl rfl rfl rfl (fun _ => ?_)) | (apply sw_seq) | (apply at_srd) | (apply sw_skip) | (apply sw_ret) | (apply sw_exit) | (apply sw_block) | (apply sw_region) | (refine sw_cd rfl ?_; first | (apply gd_t) | (apply gd_ft) | (apply gd_tf) | (apply gd_dec_t <;> intro hq <;> (try (exfalso; omega))) | (apply gd_dec_f <;> intro hq <;> (try (exfalso; omega))) | (apply gd_beq_t <;> intro hq <;> (try (exfalso; omega))) | (apply gd_beq_f <;> intro hq <;> (try (exfalso; omega))) | (apply gd_bne_t <;> intro hq <;> (try (exfalso; omega))) | (apply gd_bne_f <;> intro hq <;> (try (exfalso; omega))) | (apply gd_not_t <;> intro hq) | (apply gd_not_f <;> intro hq) | (apply gd_raw_t <;> intro hq) | (apply gd_raw_f <;> intro hq)) | (apply at_thn) | (apply at_thn_ret) | (apply at_thn_exit) | (apply at_inb) | (apply at_inb_ret) | (apply at_inb_exit) | refine at_inb_pass rfl ?_ | refine c_drawn (by kernel_rfl) ?_)
            all_goals first | (exfalso; omega) | (exact absurd (of_decide_eq_true (by assumption)) hne) | (exact absurd rfl (of_decide_eq_false (by assumption))) | (exact absurd (of_decide_eq_true (by assumption)) hne2) | skip
            rename_i ax cx
            refine at_meet (m - 1, X ++ [((w1, (⟨#[]⟩ : ByteArray), false, false) : Vr)], ⟨#[]⟩, ax, cx) ⟨⟨by dsimp only; omega, by simp; omega, by dsimp only; rw [Hmx.out]; simp [Option.map_map, hnr]; rfl⟩, by dsimp only; omega⟩ ?_ ?_
            · rw [show (X ++ [((w1, (⟨#[]⟩ : ByteArray), false, false) : Vr)]).length = X.length + 1 from by simp]
              exact (by repeat (first | exact Le.nil _ | refine Le.cons (by first | rfl | (exact congrArg some (congrArg (Value.int _) (by omega)))) ?_))
            · rw [show (X ++ [((w1, (⟨#[]⟩ : ByteArray), false, false) : Vr)]).length = X.length + 1 from by simp, vrs_snoc]
              exact (fun _ hw => hw.subs (by repeat (first | refine Subs.cons (by repeat constructor) ?_ | exact Subs.sub (by repeat (first | exact List.Sublist.refl _ | exact List.nil_sublist _ | refine List.Sublist.cons _ ?_)))))
          · skip
            repeat' (first | (apply g_sl; first | (apply ks_nil; refine sl_nil ?_) | (apply ks_move; refine s_move rfl rfl ?_) | (apply ks_bin; refine s_bin rfl rfl rfl ?_; first | first | (refine bb_sne ?_) | (refine s_index (c_indexNumV hx0 rfl rfl rfl (by omega) (by omega)) rfl ?_) | (refine s_slice (c_sliceStrV hr1 rfl rfl rfl rfl (by omega) (by omega) (by omega)) rfl ?_) | refine c_bsA rfl rfl rfl rfl rfl rfl rfl rfl rfl (fun _ => ?_) | (first | refine bb_of rfl ?_)) | (apply ks_load; first | (refine s_load rfl rfl ?_; first | refine ld_cell rfl ?_ | refine ld_whole rfl ?_ | refine ld_elem rfl ?_ | refine ld_part rfl rfl ?_) | first | (refine bb_sne ?_) | (refine s_index (c_indexNumV hx0 rfl rfl rfl (by omega) (by omega)) rfl ?_) | (refine s_slice (c_sliceStrV hr1 rfl rfl rfl rfl (by omega) (by omega) (by omega)) rfl ?_) | refine c_bsA rfl rfl rfl rfl rfl rfl rfl rfl rfl (fun _ => ?_)) | (apply ks_asgn; refine s_asgn rfl rfl ?_) | (apply ks_pick; refine s_pick rfl rfl ?_; first | (apply kp_t; refine pk_t rfl ?_) | (apply kp_f; refine pk_f rfl ?_) | refine pk_s rfl rfl ?_) | (apply ks_field; first | refine s_field (c_field0 rfl rfl) rfl ?_ | refine s_field (c_field rfl rfl) rfl ?_) | (apply ks_un; refine s_un (y_un rfl rfl rfl) rfl ?_) | (apply ks_extr; refine s_extr (y_extract rfl rfl rfl) rfl ?_) | (apply ks_build; first | refine s_build (c_build rfl rfl rfl) rfl ?_ | first | (refine bb_sne ?_) | (refine s_index (c_indexNumV hx0 rfl rfl rfl (by omega) (by omega)) rfl ?_) | (refine s_slice (c_sliceStrV hr1 rfl rfl rfl rfl (by omega) (by omega) (by omega)) rfl ?_) | refine c_bsA rfl rfl rfl rfl rfl rfl rfl rfl rfl (fun _ => ?_)) | (apply ks_index; first | first | (refine bb_sne ?_) | (refine s_index (c_indexNumV hx0 rfl rfl rfl (by omega) (by omega)) rfl ?_) | (refine s_slice (c_sliceStrV hr1 rfl rfl rfl rfl (by omega) (by omega) (by omega)) rfl ?_) | refine c_bsA rfl rfl rfl rfl rfl rfl rfl rfl rfl (fun _ => ?_) | refine s_index (c_indexArr rfl rfl rfl (by omega) (by omega) rfl) rfl ?_ | refine s_index (c_indexArrA rfl rfl rfl (by omega) (by omega) rfl) rfl ?_ | refine s_index (c_indexStr rfl rfl rfl (by omega) rfl) rfl ?_) | (apply ks_fn; first | refine c_callv rfl rfl rfl (c1 _) rfl rfl ?_) | (apply ks_bi; first | first | (refine bb_sne ?_) | (refine s_index (c_indexNumV hx0 rfl rfl rfl (by omega) (by omega)) rfl ?_) | (refine s_slice (c_sliceStrV hr1 rfl rfl rfl rfl (by omega) (by omega) (by omega)) rfl ?_) | refine c_bsA rfl rfl rfl rfl rfl rfl rfl rfl rfl (fun _ => ?_) | refine s_call (c_len rfl rfl) rfl ?_ | refine s_call (c_len_str rfl rfl) rfl ?_ | refine s_call (c_bi rfl rfl rfl rfl) rfl ?_ | refine c_append rfl rfl rfl rfl (by first | rfl | simp [ints]) (by first | rfl | exact ints_one _ | exact octs_one _ | exact strs_one _) (by omega) rfl rfl (fun _ _ => ?_) | refine c_append_nil rfl rfl rfl rfl (by first | rfl | simp [ints]) (by first | rfl | exact ints_one _ | exact octs_one _ | exact strs_one _) (by omega) rfl rfl (fun _ _ => ?_)) | (apply ks_store; first | first | refine c_store rfl rfl rfl rfl rfl rfl rfl ?_ | refine c_storew rfl rfl rfl rfl rfl rfl rfl rfl ?_ | refine c_storee rfl rfl rfl rfl rfl (by omega) rfl ?_ | first | (refine bb_sne ?_) | (refine s_index (c_indexNumV hx0 rfl rfl rfl (by omega) (by omega)) rfl ?_) | (refine s_slice (c_sliceStrV hr1 rfl rfl rfl rfl (by omega) (by omega) (by omega)) rfl ?_) | refine c_bsA rfl rfl rfl rfl rfl rfl rfl rfl rfl (fun _ => ?_)) | (apply ks_alloc; refine c_alloc rfl rfl rfl rfl (fun _ => ?_)) | (apply ks_bs; first | refine c_buildSlice rfl rfl rfl rfl rfl rfl rfl rfl rfl rfl (fun _ => ?_) | first | (refine bb_sne ?_) | (refine s_index (c_indexNumV hx0 rfl rfl rfl (by omega) (by omega)) rfl ?_) | (refine s_slice (c_sliceStrV hr1 rfl rfl rfl rfl (by omega) (by omega) (by omega)) rfl ?_) | refine c_bsA rfl rfl rfl rfl rfl rfl rfl rfl rfl (fun _ => ?_)) | (apply ks_slice; first | first | (refine bb_sne ?_) | (refine s_index (c_indexNumV hx0 rfl rfl rfl (by omega) (by omega)) rfl ?_) | (refine s_slice (c_sliceStrV hr1 rfl rfl rfl rfl (by omega) (by omega) (by omega)) rfl ?_) | refine c_bsA rfl rfl rfl rfl rfl rfl rfl rfl rfl (fun _ => ?_) | refine s_slice (c_sliceStr rfl rfl rfl rfl (by omega) (by omega) (by omega)) rfl ?_) | (apply ks_guard; first | (refine sl_gd rfl rfl rfl rfl ?_; first | (apply gd_t) | (apply gd_ft) | (apply gd_tf) | (apply gd_dec_t <;> intro hq <;> (try (exfalso; omega))) | (apply gd_dec_f <;> intro hq <;> (try (exfalso; omega))) | (apply gd_beq_t <;> intro hq <;> (try (exfalso; omega))) | (apply gd_beq_f <;> intro hq <;> (try (exfalso; omega))) | (apply gd_bne_t <;> intro hq <;> (try (exfalso; omega))) | (apply gd_bne_f <;> intro hq <;> (try (exfalso; omega))) | (apply gd_not_t <;> intro hq) | (apply gd_not_f <;> intro hq) | (apply gd_raw_t <;> intro hq) | (apply gd_raw_f <;> intro hq)) | refine sl_skip_u rfl rfl rfl rfl rfl rfl ?_) | first | (refine bb_sne ?_) | (refine s_index (c_indexNumV hx0 rfl rfl rfl (by omega) (by omega)) rfl ?_) | (refine s_slice (c_sliceStrV hr1 rfl rfl rfl rfl (by omega) (by omega) (by omega)) rfl ?_) | refine c_bsA rfl rfl rfl rfl rfl rfl rfl rfl rfl (fun _ => ?_)) | (apply sw_seq) | (apply at_srd) | (apply sw_skip) | (apply sw_ret) | (apply sw_exit) | (apply sw_block) | (apply sw_region) | (refine sw_cd rfl ?_; first | (apply gd_t) | (apply gd_ft) | (apply gd_tf) | (apply gd_dec_t <;> intro hq <;> (try (exfalso; omega))) | (apply gd_dec_f <;> intro hq <;> (try (exfalso; omega))) | (apply gd_beq_t <;> intro hq <;> (try (exfalso; omega))) | (apply gd_beq_f <;> intro hq <;> (try (exfalso; omega))) | (apply gd_bne_t <;> intro hq <;> (try (exfalso; omega))) | (apply gd_bne_f <;> intro hq <;> (try (exfalso; omega))) | (apply gd_not_t <;> intro hq) | (apply gd_not_f <;> intro hq) | (apply gd_raw_t <;> intro hq) | (apply gd_raw_f <;> intro hq)) | (apply at_thn) | (apply at_thn_ret) | (apply at_thn_exit) | (apply at_inb) | (apply at_inb_ret) | (apply at_inb_exit) | refine at_inb_pass rfl ?_ | refine c_drawn (by kernel_rfl) ?_)
            all_goals first | (exfalso; omega) | (exact absurd (of_decide_eq_true (by assumption)) hne) | (exact absurd rfl (of_decide_eq_false (by assumption))) | (exact absurd (of_decide_eq_true (by assumption)) hne2) | skip
            rename_i ax cx
            refine at_meet (m - 1, X ++ [((w1, (⟨#[]⟩ : ByteArray), true, false) : Vr)], ⟨#[]⟩, ax, cx) ⟨⟨by dsimp only; omega, by simp; omega, by dsimp only; rw [Hmx.out]; simp [Option.map_map, hnr]; rfl⟩, by dsimp only; omega⟩ ?_ ?_
            · rw [show (X ++ [((w1, (⟨#[]⟩ : ByteArray), true, false) : Vr)]).length = X.length + 1 from by simp]
              exact (by repeat (first | exact Le.nil _ | refine Le.cons (by first | rfl | (exact congrArg some (congrArg (Value.int _) (by omega)))) ?_))
            · rw [show (X ++ [((w1, (⟨#[]⟩ : ByteArray), true, false) : Vr)]).length = X.length + 1 from by simp, vrs_snoc]
              exact (fun _ hw => hw.subs (by repeat (first | refine Subs.cons (by repeat constructor) ?_ | exact Subs.sub (by repeat (first | exact List.Sublist.refl _ | exact List.nil_sublist _ | refine List.Sublist.cons _ ?_)))))
        | cons y t2 =>
          obtain ⟨r2, hr2⟩ : ∃ r2, strOfNums (y :: t2) = r2 := ⟨_, rfl⟩
          have hn2 : nums r2 = y :: t2 := by rw [← hr2]; exact nums_strOf hmem
          have hne2 := nums_ne hn2
          have hy0 : (nums r2).getD (0 : Int).toNat 0 = y := by rw [hn2]; rfl
          have hby : 0 ≤ y ∧ y ≤ 255 := hmem y List.mem_cons_self
          have hl2 := nums_size hn2
          have hll : (y :: t2).length = t2.length + 1 := rfl
          rw [hr2] at c1
          by_cases hy1 : y = 1
          · subst hy1
            obtain ⟨r3, hr3⟩ : ∃ r3, r2.extract (1 : Int).toNat (r2.size : Int).toNat = r3 := ⟨_, rfl⟩
            have hn3 : nums r3 = t2 := by rw [← hr3]; exact nums_tail r2 1 t2 hn2
            have hl3 : r3.size = t2.length := by rw [← nums_length, hn3]
            have c2 := fun H => cW H r3 (by omega)
            rw [hn3] at c2
            cases hp2 : pieceI t2 with
            | none =>
              have hv : many stepP s.size (nums s) = none := by rw [hmy, many_none (by omega) (hn2' t2 rfl hp2)]; rfl
              rw [Hnone.out hv]
              rw [hp2] at c2
              simp only [pieceV] at c2
              generalize strOfNums W1 = w1 at *
              clear hmy hv cW hset hun hn2' hmem hp2
              rcases hx3 with rfl | rfl
              all_goals
                repeat' (first | (apply g_sl; first | (apply ks_nil; refine sl_nil ?_) | (apply ks_move; refine s_move rfl rfl ?_) | (apply ks_bin; refine s_bin rfl rfl rfl ?_; first | first | (refine bb_sne ?_) | (refine s_index (c_indexNumV hx0 rfl rfl rfl (by omega) (by omega)) rfl ?_) | (refine s_index (c_indexNumV hy0 rfl rfl rfl (by omega) (by omega)) rfl ?_) | (refine s_slice (c_sliceStrV hr1 rfl rfl rfl rfl (by omega) (by omega) (by omega)) rfl ?_) | (refine s_slice (c_sliceStrV hr3 rfl rfl rfl rfl (by omega) (by omega) (by omega)) rfl ?_) | refine c_bsA rfl rfl rfl rfl rfl rfl rfl rfl rfl (fun _ => ?_) | (first | refine bb_of rfl ?_)) | (apply ks_load; first | (refine s_load rfl rfl ?_; first | refine ld_cell rfl ?_ | refine ld_whole rfl ?_ | refine ld_elem rfl ?_ | refine ld_part rfl rfl ?_) | first | (refine bb_sne ?_) | (refine s_index (c_indexNumV hx0 rfl rfl rfl (by omega) (by omega)) rfl ?_) | (refine s_index (c_indexNumV hy0 rfl rfl rfl (by omega) (by omega)) rfl ?_) | (refine s_slice (c_sliceStrV hr1 rfl rfl rfl rfl (by omega) (by omega) (by omega)) rfl ?_) | (refine s_slice (c_sliceStrV hr3 rfl rfl rfl rfl (by omega) (by omega) (by omega)) rfl ?_) | refine c_bsA rfl rfl rfl rfl rfl rfl rfl rfl rfl (fun _ => ?_)) | (apply ks_asgn; refine s_asgn rfl rfl ?_) | (apply ks_pick; refine s_pick rfl rfl ?_; first | (apply kp_t; refine pk_t rfl ?_) | (apply kp_f; refine pk_f rfl ?_) | refine pk_s rfl rfl ?_) | (apply ks_field; first | refine s_field (c_field0 rfl rfl) rfl ?_ | refine s_field (c_field rfl rfl) rfl ?_) | (apply ks_un; refine s_un (y_un rfl rfl rfl) rfl ?_) | (apply ks_extr; refine s_extr (y_extract rfl rfl rfl) rfl ?_) | (apply ks_build; first | refine s_build (c_build rfl rfl rfl) rfl ?_ | first | (refine bb_sne ?_) | (refine s_index (c_indexNumV hx0 rfl rfl rfl (by omega) (by omega)) rfl ?_) | (refine s_index (c_indexNumV hy0 rfl rfl rfl (by omega) (by omega)) rfl ?_) | (refine s_slice (c_sliceStrV hr1 rfl rfl rfl rfl (by omega) (by omega) (by omega)) rfl ?_) | (refine s_slice (c_sliceStrV hr3 rfl rfl rfl rfl (by omega) (by omega) (by omega)) rfl ?_) | refine c_bsA rfl rfl rfl rfl rfl rfl rfl rfl rfl (fun _ => ?_)) | (apply ks_index; first | first | (refine bb_sne ?_) | (refine s_index (c_indexNumV hx0 rfl rfl rfl (by omega) (by omega)) rfl ?_) | (refine s_index (c_indexNumV hy0 rfl rfl rfl (by omega) (by omega)) rfl ?_) | (refine s_slice (c_sliceStrV hr1 rfl rfl rfl rfl (by omega) (by omega) (by omega)) rfl ?_) | (refine s_slice (c_sliceStrV hr3 rfl rfl rfl rfl (by omega) (by omega) (by omega)) rfl ?_) | refine c_bsA rfl rfl rfl rfl rfl rfl rfl rfl rfl (fun _ => ?_) | refine s_index (c_indexArr rfl rfl rfl (by omega) (by omega) rfl) rfl ?_ | refine s_index (c_indexArrA rfl rfl rfl (by omega) (by omega) rfl) rfl ?_ | refine s_index (c_indexStr rfl rfl rfl (by omega) rfl) rfl ?_) | (apply ks_fn; first | first | refine c_callv rfl rfl rfl (c1 _) rfl rfl ?_ | refine c_callv rfl rfl rfl (c2 _) rfl rfl ?_) | (apply ks_bi; first | first | (refine bb_sne ?_) | (refine s_index (c_indexNumV hx0 rfl rfl rfl (by omega) (by omega)) rfl ?_) | (refine s_index (c_indexNumV hy0 rfl rfl rfl (by omega) (by omega)) rfl ?_) | (refine s_slice (c_sliceStrV hr1 rfl rfl rfl rfl (by omega) (by omega) (by omega)) rfl ?_) | (refine s_slice (c_sliceStrV hr3 rfl rfl rfl rfl (by omega) (by omega) (by omega)) rfl ?_) | refine c_bsA rfl rfl rfl rfl rfl rfl rfl rfl rfl (fun _ => ?_) | refine s_call (c_len rfl rfl) rfl ?_ | refine s_call (c_len_str rfl rfl) rfl ?_ | refine s_call (c_bi rfl rfl rfl rfl) rfl ?_ | refine c_append rfl rfl rfl rfl (by first | rfl | simp [ints]) (by first | rfl | exact ints_one _ | exact octs_one _ | exact strs_one _) (by omega) rfl rfl (fun _ _ => ?_) | refine c_append_nil rfl rfl rfl rfl (by first | rfl | simp [ints]) (by first | rfl | exact ints_one _ | exact octs_one _ | exact strs_one _) (by omega) rfl rfl (fun _ _ => ?_)) | (apply ks_store; first | first | refine c_store rfl rfl rfl rfl rfl rfl rfl ?_ | refine c_storew rfl rfl rfl rfl rfl rfl rfl rfl ?_ | refine c_storee rfl rfl rfl rfl rfl (by omega) rfl ?_ | first | (refine bb_sne ?_) | (refine s_index (c_indexNumV hx0 rfl rfl rfl (by omega) (by omega)) rfl ?_) | (refine s_index (c_indexNumV hy0 rfl rfl rfl (by omega) (by omega)) rfl ?_) | (refine s_slice (c_sliceStrV hr1 rfl rfl rfl rfl (by omega) (by omega) (by omega)) rfl ?_) | (refine s_slice (c_sliceStrV hr3 rfl rfl rfl rfl (by omega) (by omega) (by omega)) rfl ?_) | refine c_bsA rfl rfl rfl rfl rfl rfl rfl rfl rfl (fun _ => ?_)) | (apply ks_alloc; refine c_alloc rfl rfl rfl rfl (fun _ => ?_)) | (apply ks_bs; first | refine c_buildSlice rfl rfl rfl rfl rfl rfl rfl rfl rfl rfl (fun _ => ?_) | first | (refine bb_sne ?_) | (refine s_index (c_indexNumV hx0 rfl rfl rfl (by omega) (by omega)) rfl ?_) | (refine s_index (c_indexNumV hy0 rfl rfl rfl (by omega) (by omega)) rfl ?_) | (refine s_slice (c_sliceStrV hr1 rfl rfl rfl rfl (by omega) (by omega) (by omega)) rfl ?_) | (refine s_slice (c_sliceStrV hr3 rfl rfl rfl rfl (by omega) (by omega) (by omega)) rfl ?_) | refine c_bsA rfl rfl rfl rfl rfl rfl rfl rfl rfl (fun _ => ?_)) | (apply ks_slice; first | first | (refine bb_sne ?_) | (refine s_index (c_indexNumV hx0 rfl rfl rfl (by omega) (by omega)) rfl ?_) | (refine s_index (c_indexNumV hy0 rfl rfl rfl (by omega) (by omega)) rfl ?_) | (refine s_slice (c_sliceStrV hr1 rfl rfl rfl rfl (by omega) (by omega) (by omega)) rfl ?_) | (refine s_slice (c_sliceStrV hr3 rfl rfl rfl rfl (by omega) (by omega) (by omega)) rfl ?_) | refine c_bsA rfl rfl rfl rfl rfl rfl rfl rfl rfl (fun _ => ?_) | refine s_slice (c_sliceStr rfl rfl rfl rfl (by omega) (by omega) (by omega)) rfl ?_) | (apply ks_guard; first | (refine sl_gd rfl rfl rfl rfl ?_; first | (apply gd_t) | (apply gd_ft) | (apply gd_tf) | (apply gd_dec_t <;> intro hq <;> (try (exfalso; omega))) | (apply gd_dec_f <;> intro hq <;> (try (exfalso; omega))) | (apply gd_beq_t <;> intro hq <;> (try (exfalso; omega))) | (apply gd_beq_f <;> intro hq <;> (try (exfalso; omega))) | (apply gd_bne_t <;> intro hq <;> (try (exfalso; omega))) | (apply gd_bne_f <;> intro hq <;> (try (exfalso; omega))) | (apply gd_not_t <;> intro hq) | (apply gd_not_f <;> intro hq) | (apply gd_raw_t <;> intro hq) | (apply gd_raw_f <;> intro hq)) | refine sl_skip_u rfl rfl rfl rfl rfl rfl ?_) | first | (refine bb_sne ?_) | (refine s_index (c_indexNumV hx0 rfl rfl rfl (by omega) (by omega)) rfl ?_) | (refine s_index (c_indexNumV hy0 rfl rfl rfl (by omega) (by omega)) rfl ?_) | (refine s_slice (c_sliceStrV hr1 rfl rfl rfl rfl (by omega) (by omega) (by omega)) rfl ?_) | (refine s_slice (c_sliceStrV hr3 rfl rfl rfl rfl (by omega) (by omega) (by omega)) rfl ?_) | refine c_bsA rfl rfl rfl rfl rfl rfl rfl rfl rfl (fun _ => ?_)) | (apply sw_seq) | (apply at_srd) | (apply sw_skip) | (apply sw_ret) | (apply sw_exit) | (apply sw_block) | (apply sw_region) | (refine sw_cd rfl ?_; first | (apply gd_t) | (apply gd_ft) | (apply gd_tf) | (apply gd_dec_t <;> intro hq <;> (try (exfalso; omega))) | (apply gd_dec_f <;> intro hq <;> (try (exfalso; omega))) | (apply gd_beq_t <;> intro hq <;> (try (exfalso; omega))) | (apply gd_beq_f <;> intro hq <;> (try (exfalso; omega))) | (apply gd_bne_t <;> intro hq <;> (try (exfalso; omega))) | (apply gd_bne_f <;> intro hq <;> (try (exfalso; omega))) | (apply gd_not_t <;> intro hq) | (apply gd_not_f <;> intro hq) | (apply gd_raw_t <;> intro hq) | (apply gd_raw_f <;> intro hq)) | (apply at_thn) | (apply at_thn_ret) | (apply at_thn_exit) | (apply at_inb) | (apply at_inb_ret) | (apply at_inb_exit) | refine at_inb_pass rfl ?_ | refine c_drawn (by kernel_rfl) ?_)
              all_goals first | (exfalso; omega) | (exact absurd (of_decide_eq_true (by assumption)) hne) | (exact absurd (of_decide_eq_true (by assumption)) hne2) | (exact e_scf (.own 121 4 none 0 0 [] :: H) (.inr rfl) rfl (fun _ hw => (hw.sub (((List.sublist_cons_self _ _).trans (List.sublist_cons_self _ _)))).nilrow _ _) ⟨_, _, rfl, rfl⟩)
            | some V =>
            obtain ⟨V1, V2⟩ := V
            have hwl2 := piece_len t2 V1 V2 hp2
            have hmem2 : ∀ z ∈ V2, 0 ≤ z ∧ z ≤ 255 := fun z hz => hmem z (List.mem_cons_of_mem _ (piece_mem hp2 z hz))
            have hmx := hmy
            rw [many_some (by omega) (hset t2 V1 V2 rfl hp2)] at hmx
            rw [hp2] at c2
            simp only [pieceV] at c2
            clear hset hun hmy cW hmem hn2' hp2
            obtain ⟨r4, hr4⟩ : ∃ r4, strOfNums V2 = r4 := ⟨_, rfl⟩
            have hnr : nums r4 = V2 := by rw [← hr4]; exact nums_strOf hmem2
            have hl4 : r4.size = V2.length := by rw [← nums_length, hnr]
            rw [hr4] at c2
            generalize strOfNums W1 = w1 at *
            generalize strOfNums V1 = v1 at *
            have Hmx := Lib.hid hmx
            clear hmx hmem2
            rcases hx3 with rfl | rfl
            · skip
              repeat' (first | (apply g_sl; first | (apply ks_nil; refine sl_nil ?_) | (apply ks_move; refine s_move rfl rfl ?_) | (apply ks_bin; refine s_bin rfl rfl rfl ?_; first | first | (refine bb_sne ?_) | (refine s_index (c_indexNumV hx0 rfl rfl rfl (by omega) (by omega)) rfl ?_) | (refine s_index (c_indexNumV hy0 rfl rfl rfl (by omega) (by omega)) rfl ?_) | (refine s_slice (c_sliceStrV hr1 rfl rfl rfl rfl (by omega) (by omega) (by omega)) rfl ?_) | (refine s_slice (c_sliceStrV hr3 rfl rfl rfl rfl (by omega) (by omega) (by omega)) rfl ?_) | refine c_bsA rfl rfl rfl rfl rfl rfl rfl rfl rfl (fun _ => ?_) | (first | refine bb_of rfl ?_)) | (apply ks_load; first | (refine s_load rfl rfl ?_; first | refine ld_cell rfl ?_ | refine ld_whole rfl ?_ | refine ld_elem rfl ?_ | refine ld_part rfl rfl ?_) | first | (refine bb_sne ?_) | (refine s_index (c_indexNumV hx0 rfl rfl rfl (by omega) (by omega)) rfl ?_) | (refine s_index (c_indexNumV hy0 rfl rfl rfl (by omega) (by omega)) rfl ?_) | (refine s_slice (c_sliceStrV hr1 rfl rfl rfl rfl (by omega) (by omega) (by omega)) rfl ?_) | (refine s_slice (c_sliceStrV hr3 rfl rfl rfl rfl (by omega) (by omega) (by omega)) rfl ?_) | refine c_bsA rfl rfl rfl rfl rfl rfl rfl rfl rfl (fun _ => ?_)) | (apply ks_asgn; refine s_asgn rfl rfl ?_) | (apply ks_pick; refine s_pick rfl rfl ?_; first | (apply kp_t; refine pk_t rfl ?_) | (apply kp_f; refine pk_f rfl ?_) | refine pk_s rfl rfl ?_) | (apply ks_field; first | refine s_field (c_field0 rfl rfl) rfl ?_ | refine s_field (c_field rfl rfl) rfl ?_) | (apply ks_un; refine s_un (y_un rfl rfl rfl) rfl ?_) | (apply ks_extr; refine s_extr (y_extract rfl rfl rfl) rfl ?_) | (apply ks_build; first | refine s_build (c_build rfl rfl rfl) rfl ?_ | first | (refine bb_sne ?_) | (refine s_index (c_indexNumV hx0 rfl rfl rfl (by omega) (by omega)) rfl ?_) | (refine s_index (c_indexNumV hy0 rfl rfl rfl (by omega) (by omega)) rfl ?_) | (refine s_slice (c_sliceStrV hr1 rfl rfl rfl rfl (by omega) (by omega) (by omega)) rfl ?_) | (refine s_slice (c_sliceStrV hr3 rfl rfl rfl rfl (by omega) (by omega) (by omega)) rfl ?_) | refine c_bsA rfl rfl rfl rfl rfl rfl rfl rfl rfl (fun _ => ?_)) | (apply ks_index; first | first | (refine bb_sne ?_) | (refine s_index (c_indexNumV hx0 rfl rfl rfl (by omega) (by omega)) rfl ?_) | (refine s_index (c_indexNumV hy0 rfl rfl rfl (by omega) (by omega)) rfl ?_) | (refine s_slice (c_sliceStrV hr1 rfl rfl rfl rfl (by omega) (by omega) (by omega)) rfl ?_) | (refine s_slice (c_sliceStrV hr3 rfl rfl rfl rfl (by omega) (by omega) (by omega)) rfl ?_) | refine c_bsA rfl rfl rfl rfl rfl rfl rfl rfl rfl (fun _ => ?_) | refine s_index (c_indexArr rfl rfl rfl (by omega) (by omega) rfl) rfl ?_ | refine s_index (c_indexArrA rfl rfl rfl (by omega) (by omega) rfl) rfl ?_ | refine s_index (c_indexStr rfl rfl rfl (by omega) rfl) rfl ?_) | (apply ks_fn; first | first | refine c_callv rfl rfl rfl (c1 _) rfl rfl ?_ | refine c_callv rfl rfl rfl (c2 _) rfl rfl ?_) | (apply ks_bi; first | first | (refine bb_sne ?_) | (refine s_index (c_indexNumV hx0 rfl rfl rfl (by omega) (by omega)) rfl ?_) | (refine s_index (c_indexNumV hy0 rfl rfl rfl (by omega) (by omega)) rfl ?_) | (refine s_slice (c_sliceStrV hr1 rfl rfl rfl rfl (by omega) (by omega) (by omega)) rfl ?_) | (refine s_slice (c_sliceStrV hr3 rfl rfl rfl rfl (by omega) (by omega) (by omega)) rfl ?_) | refine c_bsA rfl rfl rfl rfl rfl rfl rfl rfl rfl (fun _ => ?_) | refine s_call (c_len rfl rfl) rfl ?_ | refine s_call (c_len_str rfl rfl) rfl ?_ | refine s_call (c_bi rfl rfl rfl rfl) rfl ?_ | refine c_append rfl rfl rfl rfl (by first | rfl | simp [ints]) (by first | rfl | exact ints_one _ | exact octs_one _ | exact strs_one _) (by omega) rfl rfl (fun _ _ => ?_) | refine c_append_nil rfl rfl rfl rfl (by first | rfl | simp [ints]) (by first | rfl | exact ints_one _ | exact octs_one _ | exact strs_one _) (by omega) rfl rfl (fun _ _ => ?_)) | (apply ks_store; first | first | refine c_store rfl rfl rfl rfl rfl rfl rfl ?_ | refine c_storew rfl rfl rfl rfl rfl rfl rfl rfl ?_ | refine c_storee rfl rfl rfl rfl rfl (by omega) rfl ?_ | first | (refine bb_sne ?_) | (refine s_index (c_indexNumV hx0 rfl rfl rfl (by omega) (by omega)) rfl ?_) | (refine s_index (c_indexNumV hy0 rfl rfl rfl (by omega) (by omega)) rfl ?_) | (refine s_slice (c_sliceStrV hr1 rfl rfl rfl rfl (by omega) (by omega) (by omega)) rfl ?_) | (refine s_slice (c_sliceStrV hr3 rfl rfl rfl rfl (by omega) (by omega) (by omega)) rfl ?_) | refine c_bsA rfl rfl rfl rfl rfl rfl rfl rfl rfl (fun _ => ?_)) | (apply ks_alloc; refine c_alloc rfl rfl rfl rfl (fun _ => ?_)) | (apply ks_bs; first | refine c_buildSlice rfl rfl rfl rfl rfl rfl rfl rfl rfl rfl (fun _ => ?_) | first | (refine bb_sne ?_) | (refine s_index (c_indexNumV hx0 rfl rfl rfl (by omega) (by omega)) rfl ?_) | (refine s_index (c_indexNumV hy0 rfl rfl rfl (by omega) (by omega)) rfl ?_) | (refine s_slice (c_sliceStrV hr1 rfl rfl rfl rfl (by omega) (by omega) (by omega)) rfl ?_) | (refine s_slice (c_sliceStrV hr3 rfl rfl rfl rfl (by omega) (by omega) (by omega)) rfl ?_) | refine c_bsA rfl rfl rfl rfl rfl rfl rfl rfl rfl (fun _ => ?_)) | (apply ks_slice; first | first | (refine bb_sne ?_) | (refine s_index (c_indexNumV hx0 rfl rfl rfl (by omega) (by omega)) rfl ?_) | (refine s_index (c_indexNumV hy0 rfl rfl rfl (by omega) (by omega)) rfl ?_) | (refine s_slice (c_sliceStrV hr1 rfl rfl rfl rfl (by omega) (by omega) (by omega)) rfl ?_) | (refine s_slice (c_sliceStrV hr3 rfl rfl rfl rfl (by omega) (by omega) (by omega)) rfl ?_) | refine c_bsA rfl rfl rfl rfl rfl rfl rfl rfl rfl (fun _ => ?_) | refine s_slice (c_sliceStr rfl rfl rfl rfl (by omega) (by omega) (by omega)) rfl ?_) | (apply ks_guard; first | (refine sl_gd rfl rfl rfl rfl ?_; first | (apply gd_t) | (apply gd_ft) | (apply gd_tf) | (apply gd_dec_t <;> intro hq <;> (try (exfalso; omega))) | (apply gd_dec_f <;> intro hq <;> (try (exfalso; omega))) | (apply gd_beq_t <;> intro hq <;> (try (exfalso; omega))) | (apply gd_beq_f <;> intro hq <;> (try (exfalso; omega))) | (apply gd_bne_t <;> intro hq <;> (try (exfalso; omega))) | (apply gd_bne_f <;> intro hq <;> (try (exfalso; omega))) | (apply gd_not_t <;> intro hq) | (apply gd_not_f <;> intro hq) | (apply gd_raw_t <;> intro hq) | (apply gd_raw_f <;> intro hq)) | refine sl_skip_u rfl rfl rfl rfl rfl rfl ?_) | first | (refine bb_sne ?_) | (refine s_index (c_indexNumV hx0 rfl rfl rfl (by omega) (by omega)) rfl ?_) | (refine s_index (c_indexNumV hy0 rfl rfl rfl (by omega) (by omega)) rfl ?_) | (refine s_slice (c_sliceStrV hr1 rfl rfl rfl rfl (by omega) (by omega) (by omega)) rfl ?_) | (refine s_slice (c_sliceStrV hr3 rfl rfl rfl rfl (by omega) (by omega) (by omega)) rfl ?_) | refine c_bsA rfl rfl rfl rfl rfl rfl rfl rfl rfl (fun _ => ?_)) | (apply sw_seq) | (apply at_srd) | (apply sw_skip) | (apply sw_ret) | (apply sw_exit) | (apply sw_block) | (apply sw_region) | (refine sw_cd rfl ?_; first | (apply gd_t) | (apply gd_ft) | (apply gd_tf) | (apply gd_dec_t <;> intro hq <;> (try (exfalso; omega))) | (apply gd_dec_f <;> intro hq <;> (try (exfalso; omega))) | (apply gd_beq_t <;> intro hq <;> (try (exfalso; omega))) | (apply gd_beq_f <;> intro hq <;> (try (exfalso; omega))) | (apply gd_bne_t <;> intro hq <;> (try (exfalso; omega))) | (apply gd_bne_f <;> intro hq <;> (try (exfalso; omega))) | (apply gd_not_t <;> intro hq) | (apply gd_not_f <;> intro hq) | (apply gd_raw_t <;> intro hq) | (apply gd_raw_f <;> intro hq)) | (apply at_thn) | (apply at_thn_ret) | (apply at_thn_exit) | (apply at_inb) | (apply at_inb_ret) | (apply at_inb_exit) | refine at_inb_pass rfl ?_ | refine c_drawn (by kernel_rfl) ?_)
              all_goals first | (exfalso; omega) | (exact absurd (of_decide_eq_true (by assumption)) hne) | (exact absurd rfl (of_decide_eq_false (by assumption))) | (exact absurd (of_decide_eq_true (by assumption)) hne2) | skip
              rename_i ax cx
              refine at_meet (m - 1, X ++ [((w1, v1, false, true) : Vr)], r4, ax, cx) ⟨⟨by dsimp only; omega, by simp; omega, by dsimp only; rw [Hmx.out]; simp [Option.map_map, hnr]; rfl⟩, by dsimp only; omega⟩ ?_ ?_
              · rw [show (X ++ [((w1, v1, false, true) : Vr)]).length = X.length + 1 from by simp]
                exact (by repeat (first | exact Le.nil _ | refine Le.cons (by first | rfl | (exact congrArg some (congrArg (Value.int _) (by omega)))) ?_))
              · rw [show (X ++ [((w1, v1, false, true) : Vr)]).length = X.length + 1 from by simp, vrs_snoc]
                exact (fun _ hw => hw.subs (by repeat (first | refine Subs.cons (by repeat constructor) ?_ | exact Subs.sub (by repeat (first | exact List.Sublist.refl _ | exact List.nil_sublist _ | refine List.Sublist.cons _ ?_)))))
            · skip
              repeat' (first | (apply g_sl; first | (apply ks_nil; refine sl_nil ?_) | (apply ks_move; refine s_move rfl rfl ?_) | (apply ks_bin; refine s_bin rfl rfl rfl ?_; first | first | (refine bb_sne ?_) | (refine s_index (c_indexNumV hx0 rfl rfl rfl (by omega) (by omega)) rfl ?_) | (refine s_index (c_indexNumV hy0 rfl rfl rfl (by omega) (by omega)) rfl ?_) | (refine s_slice (c_sliceStrV hr1 rfl rfl rfl rfl (by omega) (by omega) (by omega)) rfl ?_) | (refine s_slice (c_sliceStrV hr3 rfl rfl rfl rfl (by omega) (by omega) (by omega)) rfl ?_) | refine c_bsA rfl rfl rfl rfl rfl rfl rfl rfl rfl (fun _ => ?_) | (first | refine bb_of rfl ?_)) | (apply ks_load; first | (refine s_load rfl rfl ?_; first | refine ld_cell rfl ?_ | refine ld_whole rfl ?_ | refine ld_elem rfl ?_ | refine ld_part rfl rfl ?_) | first | (refine bb_sne ?_) | (refine s_index (c_indexNumV hx0 rfl rfl rfl (by omega) (by omega)) rfl ?_) | (refine s_index (c_indexNumV hy0 rfl rfl rfl (by omega) (by omega)) rfl ?_) | (refine s_slice (c_sliceStrV hr1 rfl rfl rfl rfl (by omega) (by omega) (by omega)) rfl ?_) | (refine s_slice (c_sliceStrV hr3 rfl rfl rfl rfl (by omega) (by omega) (by omega)) rfl ?_) | refine c_bsA rfl rfl rfl rfl rfl rfl rfl rfl rfl (fun _ => ?_)) | (apply ks_asgn; refine s_asgn rfl rfl ?_) | (apply ks_pick; refine s_pick rfl rfl ?_; first | (apply kp_t; refine pk_t rfl ?_) | (apply kp_f; refine pk_f rfl ?_) | refine pk_s rfl rfl ?_) | (apply ks_field; first | refine s_field (c_field0 rfl rfl) rfl ?_ | refine s_field (c_field rfl rfl) rfl ?_) | (apply ks_un; refine s_un (y_un rfl rfl rfl) rfl ?_) | (apply ks_extr; refine s_extr (y_extract rfl rfl rfl) rfl ?_) | (apply ks_build; first | refine s_build (c_build rfl rfl rfl) rfl ?_ | first | (refine bb_sne ?_) | (refine s_index (c_indexNumV hx0 rfl rfl rfl (by omega) (by omega)) rfl ?_) | (refine s_index (c_indexNumV hy0 rfl rfl rfl (by omega) (by omega)) rfl ?_) | (refine s_slice (c_sliceStrV hr1 rfl rfl rfl rfl (by omega) (by omega) (by omega)) rfl ?_) | (refine s_slice (c_sliceStrV hr3 rfl rfl rfl rfl (by omega) (by omega) (by omega)) rfl ?_) | refine c_bsA rfl rfl rfl rfl rfl rfl rfl rfl rfl (fun _ => ?_)) | (apply ks_index; first | first | (refine bb_sne ?_) | (refine s_index (c_indexNumV hx0 rfl rfl rfl (by omega) (by omega)) rfl ?_) | (refine s_index (c_indexNumV hy0 rfl rfl rfl (by omega) (by omega)) rfl ?_) | (refine s_slice (c_sliceStrV hr1 rfl rfl rfl rfl (by omega) (by omega) (by omega)) rfl ?_) | (refine s_slice (c_sliceStrV hr3 rfl rfl rfl rfl (by omega) (by omega) (by omega)) rfl ?_) | refine c_bsA rfl rfl rfl rfl rfl rfl rfl rfl rfl (fun _ => ?_) | refine s_index (c_indexArr rfl rfl rfl (by omega) (by omega) rfl) rfl ?_ | refine s_index (c_indexArrA rfl rfl rfl (by omega) (by omega) rfl) rfl ?_ | refine s_index (c_indexStr rfl rfl rfl (by omega) rfl) rfl ?_) | (apply ks_fn; first | first | refine c_callv rfl rfl rfl (c1 _) rfl rfl ?_ | refine c_callv rfl rfl rfl (c2 _) rfl rfl ?_) | (apply ks_bi; first | first | (refine bb_sne ?_) | (refine s_index (c_indexNumV hx0 rfl rfl rfl (by omega) (by omega)) rfl ?_) | (refine s_index (c_indexNumV hy0 rfl rfl rfl (by omega) (by omega)) rfl ?_) | (refine s_slice (c_sliceStrV hr1 rfl rfl rfl rfl (by omega) (by omega) (by omega)) rfl ?_) | (refine s_slice (c_sliceStrV hr3 rfl rfl rfl rfl (by omega) (by omega) (by omega)) rfl ?_) | refine c_bsA rfl rfl rfl rfl rfl rfl rfl rfl rfl (fun _ => ?_) | refine s_call (c_len rfl rfl) rfl ?_ | refine s_call (c_len_str rfl rfl) rfl ?_ | refine s_call (c_bi rfl rfl rfl rfl) rfl ?_ | refine c_append rfl rfl rfl rfl (by first | rfl | simp [ints]) (by first | rfl | exact ints_one _ | exact octs_one _ | exact strs_one _) (by omega) rfl rfl (fun _ _ => ?_) | refine c_append_nil rfl rfl rfl rfl (by first | rfl | simp [ints]) (by first | rfl | exact ints_one _ | exact octs_one _ | exact strs_one _) (by omega) rfl rfl (fun _ _ => ?_)) | (apply ks_store; first | first | refine c_store rfl rfl rfl rfl rfl rfl rfl ?_ | refine c_storew rfl rfl rfl rfl rfl rfl rfl rfl ?_ | refine c_storee rfl rfl rfl rfl rfl (by omega) rfl ?_ | first | (refine bb_sne ?_) | (refine s_index (c_indexNumV hx0 rfl rfl rfl (by omega) (by omega)) rfl ?_) | (refine s_index (c_indexNumV hy0 rfl rfl rfl (by omega) (by omega)) rfl ?_) | (refine s_slice (c_sliceStrV hr1 rfl rfl rfl rfl (by omega) (by omega) (by omega)) rfl ?_) | (refine s_slice (c_sliceStrV hr3 rfl rfl rfl rfl (by omega) (by omega) (by omega)) rfl ?_) | refine c_bsA rfl rfl rfl rfl rfl rfl rfl rfl rfl (fun _ => ?_)) | (apply ks_alloc; refine c_alloc rfl rfl rfl rfl (fun _ => ?_)) | (apply ks_bs; first | refine c_buildSlice rfl rfl rfl rfl rfl rfl rfl rfl rfl rfl (fun _ => ?_) | first | (refine bb_sne ?_) | (refine s_index (c_indexNumV hx0 rfl rfl rfl (by omega) (by omega)) rfl ?_) | (refine s_index (c_indexNumV hy0 rfl rfl rfl (by omega) (by omega)) rfl ?_) | (refine s_slice (c_sliceStrV hr1 rfl rfl rfl rfl (by omega) (by omega) (by omega)) rfl ?_) | (refine s_slice (c_sliceStrV hr3 rfl rfl rfl rfl (by omega) (by omega) (by omega)) rfl ?_) | refine c_bsA rfl rfl rfl rfl rfl rfl rfl rfl rfl (fun _ => ?_)) | (apply ks_slice; first | first | (refine bb_sne ?_) | (refine s_index (c_indexNumV hx0 rfl rfl rfl (by omega) (by omega)) rfl ?_) | (refine s_index (c_indexNumV hy0 rfl rfl rfl (by omega) (by omega)) rfl ?_) | (refine s_slice (c_sliceStrV hr1 rfl rfl rfl rfl (by omega) (by omega) (by omega)) rfl ?_) | (refine s_slice (c_sliceStrV hr3 rfl rfl rfl rfl (by omega) (by omega) (by omega)) rfl ?_) | refine c_bsA rfl rfl rfl rfl rfl rfl rfl rfl rfl (fun _ => ?_) | refine s_slice (c_sliceStr rfl rfl rfl rfl (by omega) (by omega) (by omega)) rfl ?_) | (apply ks_guard; first | (refine sl_gd rfl rfl rfl rfl ?_; first | (apply gd_t) | (apply gd_ft) | (apply gd_tf) | (apply gd_dec_t <;> intro hq <;> (try (exfalso; omega))) | (apply gd_dec_f <;> intro hq <;> (try (exfalso; omega))) | (apply gd_beq_t <;> intro hq <;> (try (exfalso; omega))) | (apply gd_beq_f <;> intro hq <;> (try (exfalso; omega))) | (apply gd_bne_t <;> intro hq <;> (try (exfalso; omega))) | (apply gd_bne_f <;> intro hq <;> (try (exfalso; omega))) | (apply gd_not_t <;> intro hq) | (apply gd_not_f <;> intro hq) | (apply gd_raw_t <;> intro hq) | (apply gd_raw_f <;> intro hq)) | refine sl_skip_u rfl rfl rfl rfl rfl rfl ?_) | first | (refine bb_sne ?_) | (refine s_index (c_indexNumV hx0 rfl rfl rfl (by omega) (by omega)) rfl ?_) | (refine s_index (c_indexNumV hy0 rfl rfl rfl (by omega) (by omega)) rfl ?_) | (refine s_slice (c_sliceStrV hr1 rfl rfl rfl rfl (by omega) (by omega) (by omega)) rfl ?_) | (refine s_slice (c_sliceStrV hr3 rfl rfl rfl rfl (by omega) (by omega) (by omega)) rfl ?_) | refine c_bsA rfl rfl rfl rfl rfl rfl rfl rfl rfl (fun _ => ?_)) | (apply sw_seq) | (apply at_srd) | (apply sw_skip) | (apply sw_ret) | (apply sw_exit) | (apply sw_block) | (apply sw_region) | (refine sw_cd rfl ?_; first | (apply gd_t) | (apply gd_ft) | (apply gd_tf) | (apply gd_dec_t <;> intro hq <;> (try (exfalso; omega))) | (apply gd_dec_f <;> intro hq <;> (try (exfalso; omega))) | (apply gd_beq_t <;> intro hq <;> (try (exfalso; omega))) | (apply gd_beq_f <;> intro hq <;> (try (exfalso; omega))) | (apply gd_bne_t <;> intro hq <;> (try (exfalso; omega))) | (apply gd_bne_f <;> intro hq <;> (try (exfalso; omega))) | (apply gd_not_t <;> intro hq) | (apply gd_not_f <;> intro hq) | (apply gd_raw_t <;> intro hq) | (apply gd_raw_f <;> intro hq)) | (apply at_thn) | (apply at_thn_ret) | (apply at_thn_exit) | (apply at_inb) | (apply at_inb_ret) | (apply at_inb_exit) | refine at_inb_pass rfl ?_ | refine c_drawn (by kernel_rfl) ?_)
              all_goals first | (exfalso; omega) | (exact absurd (of_decide_eq_true (by assumption)) hne) | (exact absurd rfl (of_decide_eq_false (by assumption))) | (exact absurd (of_decide_eq_true (by assumption)) hne2) | skip
              rename_i ax cx
              refine at_meet (m - 1, X ++ [((w1, v1, true, true) : Vr)], r4, ax, cx) ⟨⟨by dsimp only; omega, by simp; omega, by dsimp only; rw [Hmx.out]; simp [Option.map_map, hnr]; rfl⟩, by dsimp only; omega⟩ ?_ ?_
              · rw [show (X ++ [((w1, v1, true, true) : Vr)]).length = X.length + 1 from by simp]
                exact (by repeat (first | exact Le.nil _ | refine Le.cons (by first | rfl | (exact congrArg some (congrArg (Value.int _) (by omega)))) ?_))
              · rw [show (X ++ [((w1, v1, true, true) : Vr)]).length = X.length + 1 from by simp, vrs_snoc]
                exact (fun _ hw => hw.subs (by repeat (first | refine Subs.cons (by repeat constructor) ?_ | exact Subs.sub (by repeat (first | exact List.Sublist.refl _ | exact List.nil_sublist _ | refine List.Sublist.cons _ ?_)))))
          · have hmx := hmy
            have hnr := hn2
            rw [many_some (by omega) (hun (fun _ h => hy1 (List.cons.inj h).1))] at hmx
            clear hset hun hmy cW hmem hn2'
            generalize strOfNums W1 = w1 at *
            have Hmx := Lib.hid hmx
            clear hmx
            rcases hx3 with rfl | rfl
            · skip
              repeat' (first | (apply g_sl; first | (apply ks_nil; refine sl_nil ?_) | (apply ks_move; refine s_move rfl rfl ?_) | (apply ks_bin; refine s_bin rfl rfl rfl ?_; first | first | (refine bb_sne ?_) | (refine s_index (c_indexNumV hx0 rfl rfl rfl (by omega) (by omega)) rfl ?_) | (refine s_index (c_indexNumV hy0 rfl rfl rfl (by omega) (by omega)) rfl ?_) | (refine s_slice (c_sliceStrV hr1 rfl rfl rfl rfl (by omega) (by omega) (by omega)) rfl ?_) | refine c_bsA rfl rfl rfl rfl rfl rfl rfl rfl rfl (fun _ => ?_) | (first | refine bb_of rfl ?_)) | (apply ks_load; first | (refine s_load rfl rfl ?_; first | refine ld_cell rfl ?_ | refine ld_whole rfl ?_ | refine ld_elem rfl ?_ | refine ld_part rfl rfl ?_) | first | (refine bb_sne ?_) | (refine s_index (c_indexNumV hx0 rfl rfl rfl (by omega) (by omega)) rfl ?_) | (refine s_index (c_indexNumV hy0 rfl rfl rfl (by omega) (by omega)) rfl ?_) | (refine s_slice (c_sliceStrV hr1 rfl rfl rfl rfl (by omega) (by omega) (by omega)) rfl ?_) | refine c_bsA rfl rfl rfl rfl rfl rfl rfl rfl rfl (fun _ => ?_)) | (apply ks_asgn; refine s_asgn rfl rfl ?_) | (apply ks_pick; refine s_pick rfl rfl ?_; first | (apply kp_t; refine pk_t rfl ?_) | (apply kp_f; refine pk_f rfl ?_) | refine pk_s rfl rfl ?_) | (apply ks_field; first | refine s_field (c_field0 rfl rfl) rfl ?_ | refine s_field (c_field rfl rfl) rfl ?_) | (apply ks_un; refine s_un (y_un rfl rfl rfl) rfl ?_) | (apply ks_extr; refine s_extr (y_extract rfl rfl rfl) rfl ?_) | (apply ks_build; first | refine s_build (c_build rfl rfl rfl) rfl ?_ | first | (refine bb_sne ?_) | (refine s_index (c_indexNumV hx0 rfl rfl rfl (by omega) (by omega)) rfl ?_) | (refine s_index (c_indexNumV hy0 rfl rfl rfl (by omega) (by omega)) rfl ?_) | (refine s_slice (c_sliceStrV hr1 rfl rfl rfl rfl (by omega) (by omega) (by omega)) rfl ?_) | refine c_bsA rfl rfl rfl rfl rfl rfl rfl rfl rfl (fun _ => ?_)) | (apply ks_index; first | first | (refine bb_sne ?_) | (refine s_index (c_indexNumV hx0 rfl rfl rfl (by omega) (by omega)) rfl ?_) | (refine s_index (c_indexNumV hy0 rfl rfl rfl (by omega) (by omega)) rfl ?_) | (refine s_slice (c_sliceStrV hr1 rfl rfl rfl rfl (by omega) (by omega) (by omega)) rfl ?_) | refine c_bsA rfl rfl rfl rfl rfl rfl rfl rfl rfl (fun _ => ?_) | refine s_index (c_indexArr rfl rfl rfl (by omega) (by omega) rfl) rfl ?_ | refine s_index (c_indexArrA rfl rfl rfl (by omega) (by omega) rfl) rfl ?_ | refine s_index (c_indexStr rfl rfl rfl (by omega) rfl) rfl ?_) | (apply ks_fn; first | refine c_callv rfl rfl rfl (c1 _) rfl rfl ?_) | (apply ks_bi; first | first | (refine bb_sne ?_) | (refine s_index (c_indexNumV hx0 rfl rfl rfl (by omega) (by omega)) rfl ?_) | (refine s_index (c_indexNumV hy0 rfl rfl rfl (by omega) (by omega)) rfl ?_) | (refine s_slice (c_sliceStrV hr1 rfl rfl rfl rfl (by omega) (by omega) (by omega)) rfl ?_) | refine c_bsA rfl rfl rfl rfl rfl rfl rfl rfl rfl (fun _ => ?_) | refine s_call (c_len rfl rfl) rfl ?_ | refine s_call (c_len_str rfl rfl) rfl ?_ | refine s_call (c_bi rfl rfl rfl rfl) rfl ?_ | refine c_append rfl rfl rfl rfl (by first | rfl | simp [ints]) (by first | rfl | exact ints_one _ | exact octs_one _ | exact strs_one _) (by omega) rfl rfl (fun _ _ => ?_) | refine c_append_nil rfl rfl rfl rfl (by first | rfl | simp [ints]) (by first | rfl | exact ints_one _ | exact octs_one _ | exact strs_one _) (by omega) rfl rfl (fun _ _ => ?_)) | (apply ks_store; first | first | refine c_store rfl rfl rfl rfl rfl rfl rfl ?_ | refine c_storew rfl rfl rfl rfl rfl rfl rfl rfl ?_ | refine c_storee rfl rfl rfl rfl rfl (by omega) rfl ?_ | first | (refine bb_sne ?_) | (refine s_index (c_indexNumV hx0 rfl rfl rfl (by omega) (by omega)) rfl ?_) | (refine s_index (c_indexNumV hy0 rfl rfl rfl (by omega) (by omega)) rfl ?_) | (refine s_slice (c_sliceStrV hr1 rfl rfl rfl rfl (by omega) (by omega) (by omega)) rfl ?_) | refine c_bsA rfl rfl rfl rfl rfl rfl rfl rfl rfl (fun _ => ?_)) | (apply ks_alloc; refine c_alloc rfl rfl rfl rfl (fun _ => ?_)) | (apply ks_bs; first | refine c_buildSlice rfl rfl rfl rfl rfl rfl rfl rfl rfl rfl (fun _ => ?_) | first | (refine bb_sne ?_) | (refine s_index (c_indexNumV hx0 rfl rfl rfl (by omega) (by omega)) rfl ?_) | (refine s_index (c_indexNumV hy0 rfl rfl rfl (by omega) (by omega)) rfl ?_) | (refine s_slice (c_sliceStrV hr1 rfl rfl rfl rfl (by omega) (by omega) (by omega)) rfl ?_) | refine c_bsA rfl rfl rfl rfl rfl rfl rfl rfl rfl (fun _ => ?_)) | (apply ks_slice; first | first | (refine bb_sne ?_) | (refine s_index (c_indexNumV hx0 rfl rfl rfl (by omega) (by omega)) rfl ?_) | (refine s_index (c_indexNumV hy0 rfl rfl rfl (by omega) (by omega)) rfl ?_) | (refine s_slice (c_sliceStrV hr1 rfl rfl rfl rfl (by omega) (by omega) (by omega)) rfl ?_) | refine c_bsA rfl rfl rfl rfl rfl rfl rfl rfl rfl (fun _ => ?_) | refine s_slice (c_sliceStr rfl rfl rfl rfl (by omega) (by omega) (by omega)) rfl ?_) | (apply ks_guard; first | (refine sl_gd rfl rfl rfl rfl ?_; first | (apply gd_t) | (apply gd_ft) | (apply gd_tf) | (apply gd_dec_t <;> intro hq <;> (try (exfalso; omega))) | (apply gd_dec_f <;> intro hq <;> (try (exfalso; omega))) | (apply gd_beq_t <;> intro hq <;> (try (exfalso; omega))) | (apply gd_beq_f <;> intro hq <;> (try (exfalso; omega))) | (apply gd_bne_t <;> intro hq <;> (try (exfalso; omega))) | (apply gd_bne_f <;> intro hq <;> (try (exfalso; omega))) | (apply gd_not_t <;> intro hq) | (apply gd_not_f <;> intro hq) | (apply gd_raw_t <;> intro hq) | (apply gd_raw_f <;> intro hq)) | refine sl_skip_u rfl rfl rfl rfl rfl rfl ?_) | first | (refine bb_sne ?_) | (refine s_index (c_indexNumV hx0 rfl rfl rfl (by omega) (by omega)) rfl ?_) | (refine s_index (c_indexNumV hy0 rfl rfl rfl (by omega) (by omega)) rfl ?_) | (refine s_slice (c_sliceStrV hr1 rfl rfl rfl rfl (by omega) (by omega) (by omega)) rfl ?_) | refine c_bsA rfl rfl rfl rfl rfl rfl rfl rfl rfl (fun _ => ?_)) | (apply sw_seq) | (apply at_srd) | (apply sw_skip) | (apply sw_ret) | (apply sw_exit) | (apply sw_block) | (apply sw_region) | (refine sw_cd rfl ?_; first | (apply gd_t) | (apply gd_ft) | (apply gd_tf) | (apply gd_dec_t <;> intro hq <;> (try (exfalso; omega))) | (apply gd_dec_f <;> intro hq <;> (try (exfalso; omega))) | (apply gd_beq_t <;> intro hq <;> (try (exfalso; omega))) | (apply gd_beq_f <;> intro hq <;> (try (exfalso; omega))) | (apply gd_bne_t <;> intro hq <;> (try (exfalso; omega))) | (apply gd_bne_f <;> intro hq <;> (try (exfalso; omega))) | (apply gd_not_t <;> intro hq) | (apply gd_not_f <;> intro hq) | (apply gd_raw_t <;> intro hq) | (apply gd_raw_f <;> intro hq)) | (apply at_thn) | (apply at_thn_ret) | (apply at_thn_exit) | (apply at_inb) | (apply at_inb_ret) | (apply at_inb_exit) | refine at_inb_pass rfl ?_ | refine c_drawn (by kernel_rfl) ?_)
              all_goals first | (exfalso; omega) | (exact absurd (of_decide_eq_true (by assumption)) hne) | (exact absurd rfl (of_decide_eq_false (by assumption))) | (exact absurd (of_decide_eq_true (by assumption)) hne2) | skip
              rename_i ax cx
              refine at_meet (m - 1, X ++ [((w1, (⟨#[]⟩ : ByteArray), false, false) : Vr)], r2, ax, cx) ⟨⟨by dsimp only; omega, by simp; omega, by dsimp only; rw [Hmx.out]; simp [Option.map_map, hnr]; rfl⟩, by dsimp only; omega⟩ ?_ ?_
              · rw [show (X ++ [((w1, (⟨#[]⟩ : ByteArray), false, false) : Vr)]).length = X.length + 1 from by simp]
                exact (by repeat (first | exact Le.nil _ | refine Le.cons (by first | rfl | (exact congrArg some (congrArg (Value.int _) (by omega)))) ?_))
              · rw [show (X ++ [((w1, (⟨#[]⟩ : ByteArray), false, false) : Vr)]).length = X.length + 1 from by simp, vrs_snoc]
                exact (fun _ hw => hw.subs (by repeat (first | refine Subs.cons (by repeat constructor) ?_ | exact Subs.sub (by repeat (first | exact List.Sublist.refl _ | exact List.nil_sublist _ | refine List.Sublist.cons _ ?_)))))
            · skip
              repeat' (first | (apply g_sl; first | (apply ks_nil; refine sl_nil ?_) | (apply ks_move; refine s_move rfl rfl ?_) | (apply ks_bin; refine s_bin rfl rfl rfl ?_; first | first | (refine bb_sne ?_) | (refine s_index (c_indexNumV hx0 rfl rfl rfl (by omega) (by omega)) rfl ?_) | (refine s_index (c_indexNumV hy0 rfl rfl rfl (by omega) (by omega)) rfl ?_) | (refine s_slice (c_sliceStrV hr1 rfl rfl rfl rfl (by omega) (by omega) (by omega)) rfl ?_) | refine c_bsA rfl rfl rfl rfl rfl rfl rfl rfl rfl (fun _ => ?_) | (first | refine bb_of rfl ?_)) | (apply ks_load; first | (refine s_load rfl rfl ?_; first | refine ld_cell rfl ?_ | refine ld_whole rfl ?_ | refine ld_elem rfl ?_ | refine ld_part rfl rfl ?_) | first | (refine bb_sne ?_) | (refine s_index (c_indexNumV hx0 rfl rfl rfl (by omega) (by omega)) rfl ?_) | (refine s_index (c_indexNumV hy0 rfl rfl rfl (by omega) (by omega)) rfl ?_) | (refine s_slice (c_sliceStrV hr1 rfl rfl rfl rfl (by omega) (by omega) (by omega)) rfl ?_) | refine c_bsA rfl rfl rfl rfl rfl rfl rfl rfl rfl (fun _ => ?_)) | (apply ks_asgn; refine s_asgn rfl rfl ?_) | (apply ks_pick; refine s_pick rfl rfl ?_; first | (apply kp_t; refine pk_t rfl ?_) | (apply kp_f; refine pk_f rfl ?_) | refine pk_s rfl rfl ?_) | (apply ks_field; first | refine s_field (c_field0 rfl rfl) rfl ?_ | refine s_field (c_field rfl rfl) rfl ?_) | (apply ks_un; refine s_un (y_un rfl rfl rfl) rfl ?_) | (apply ks_extr; refine s_extr (y_extract rfl rfl rfl) rfl ?_) | (apply ks_build; first | refine s_build (c_build rfl rfl rfl) rfl ?_ | first | (refine bb_sne ?_) | (refine s_index (c_indexNumV hx0 rfl rfl rfl (by omega) (by omega)) rfl ?_) | (refine s_index (c_indexNumV hy0 rfl rfl rfl (by omega) (by omega)) rfl ?_) | (refine s_slice (c_sliceStrV hr1 rfl rfl rfl rfl (by omega) (by omega) (by omega)) rfl ?_) | refine c_bsA rfl rfl rfl rfl rfl rfl rfl rfl rfl (fun _ => ?_)) | (apply ks_index; first | first | (refine bb_sne ?_) | (refine s_index (c_indexNumV hx0 rfl rfl rfl (by omega) (by omega)) rfl ?_) | (refine s_index (c_indexNumV hy0 rfl rfl rfl (by omega) (by omega)) rfl ?_) | (refine s_slice (c_sliceStrV hr1 rfl rfl rfl rfl (by omega) (by omega) (by omega)) rfl ?_) | refine c_bsA rfl rfl rfl rfl rfl rfl rfl rfl rfl (fun _ => ?_) | refine s_index (c_indexArr rfl rfl rfl (by omega) (by omega) rfl) rfl ?_ | refine s_index (c_indexArrA rfl rfl rfl (by omega) (by omega) rfl) rfl ?_ | refine s_index (c_indexStr rfl rfl rfl (by omega) rfl) rfl ?_) | (apply ks_fn; first | refine c_callv rfl rfl rfl (c1 _) rfl rfl ?_) | (apply ks_bi; first | first | (refine bb_sne ?_) | (refine s_index (c_indexNumV hx0 rfl rfl rfl (by omega) (by omega)) rfl ?_) | (refine s_index (c_indexNumV hy0 rfl rfl rfl (by omega) (by omega)) rfl ?_) | (refine s_slice (c_sliceStrV hr1 rfl rfl rfl rfl (by omega) (by omega) (by omega)) rfl ?_) | refine c_bsA rfl rfl rfl rfl rfl rfl rfl rfl rfl (fun _ => ?_) | refine s_call (c_len rfl rfl) rfl ?_ | refine s_call (c_len_str rfl rfl) rfl ?_ | refine s_call (c_bi rfl rfl rfl rfl) rfl ?_ | refine c_append rfl rfl rfl rfl (by first | rfl | simp [ints]) (by first | rfl | exact ints_one _ | exact octs_one _ | exact strs_one _) (by omega) rfl rfl (fun _ _ => ?_) | refine c_append_nil rfl rfl rfl rfl (by first | rfl | simp [ints]) (by first | rfl | exact ints_one _ | exact octs_one _ | exact strs_one _) (by omega) rfl rfl (fun _ _ => ?_)) | (apply ks_store; first | first | refine c_store rfl rfl rfl rfl rfl rfl rfl ?_ | refine c_storew rfl rfl rfl rfl rfl rfl rfl rfl ?_ | refine c_storee rfl rfl rfl rfl rfl (by omega) rfl ?_ | first | (refine bb_sne ?_) | (refine s_index (c_indexNumV hx0 rfl rfl rfl (by omega) (by omega)) rfl ?_) | (refine s_index (c_indexNumV hy0 rfl rfl rfl (by omega) (by omega)) rfl ?_) | (refine s_slice (c_sliceStrV hr1 rfl rfl rfl rfl (by omega) (by omega) (by omega)) rfl ?_) | refine c_bsA rfl rfl rfl rfl rfl rfl rfl rfl rfl (fun _ => ?_)) | (apply ks_alloc; refine c_alloc rfl rfl rfl rfl (fun _ => ?_)) | (apply ks_bs; first | refine c_buildSlice rfl rfl rfl rfl rfl rfl rfl rfl rfl rfl (fun _ => ?_) | first | (refine bb_sne ?_) | (refine s_index (c_indexNumV hx0 rfl rfl rfl (by omega) (by omega)) rfl ?_) | (refine s_index (c_indexNumV hy0 rfl rfl rfl (by omega) (by omega)) rfl ?_) | (refine s_slice (c_sliceStrV hr1 rfl rfl rfl rfl (by omega) (by omega) (by omega)) rfl ?_) | refine c_bsA rfl rfl rfl rfl rfl rfl rfl rfl rfl (fun _ => ?_)) | (apply ks_slice; first | first | (refine bb_sne ?_) | (refine s_index (c_indexNumV hx0 rfl rfl rfl (by omega) (by omega)) rfl ?_) | (refine s_index (c_indexNumV hy0 rfl rfl rfl (by omega) (by omega)) rfl ?_) | (refine s_slice (c_sliceStrV hr1 rfl rfl rfl rfl (by omega) (by omega) (by omega)) rfl ?_) | refine c_bsA rfl rfl rfl rfl rfl rfl rfl rfl rfl (fun _ => ?_) | refine s_slice (c_sliceStr rfl rfl rfl rfl (by omega) (by omega) (by omega)) rfl ?_) | (apply ks_guard; first | (refine sl_gd rfl rfl rfl rfl ?_; first | (apply gd_t) | (apply gd_ft) | (apply gd_tf) | (apply gd_dec_t <;> intro hq <;> (try (exfalso; omega))) | (apply gd_dec_f <;> intro hq <;> (try (exfalso; omega))) | (apply gd_beq_t <;> intro hq <;> (try (exfalso; omega))) | (apply gd_beq_f <;> intro hq <;> (try (exfalso; omega))) | (apply gd_bne_t <;> intro hq <;> (try (exfalso; omega))) | (apply gd_bne_f <;> intro hq <;> (try (exfalso; omega))) | (apply gd_not_t <;> intro hq) | (apply gd_not_f <;> intro hq) | (apply gd_raw_t <;> intro hq) | (apply gd_raw_f <;> intro hq)) | refine sl_skip_u rfl rfl rfl rfl rfl rfl ?_) | first | (refine bb_sne ?_) | (refine s_index (c_indexNumV hx0 rfl rfl rfl (by omega) (by omega)) rfl ?_) | (refine s_index (c_indexNumV hy0 rfl rfl rfl (by omega) (by omega)) rfl ?_) | (refine s_slice (c_sliceStrV hr1 rfl rfl rfl rfl (by omega) (by omega) (by omega)) rfl ?_) | refine c_bsA rfl rfl rfl rfl rfl rfl rfl rfl rfl (fun _ => ?_)) | (apply sw_seq) | (apply at_srd) | (apply sw_skip) | (apply sw_ret) | (apply sw_exit) | (apply sw_block) | (apply sw_region) | (refine sw_cd rfl ?_; first | (apply gd_t) | (apply gd_ft) | (apply gd_tf) | (apply gd_dec_t <;> intro hq <;> (try (exfalso; omega))) | (apply gd_dec_f <;> intro hq <;> (try (exfalso; omega))) | (apply gd_beq_t <;> intro hq <;> (try (exfalso; omega))) | (apply gd_beq_f <;> intro hq <;> (try (exfalso; omega))) | (apply gd_bne_t <;> intro hq <;> (try (exfalso; omega))) | (apply gd_bne_f <;> intro hq <;> (try (exfalso; omega))) | (apply gd_not_t <;> intro hq) | (apply gd_not_f <;> intro hq) | (apply gd_raw_t <;> intro hq) | (apply gd_raw_f <;> intro hq)) | (apply at_thn) | (apply at_thn_ret) | (apply at_thn_exit) | (apply at_inb) | (apply at_inb_ret) | (apply at_inb_exit) | refine at_inb_pass rfl ?_ | refine c_drawn (by kernel_rfl) ?_)
              all_goals first | (exfalso; omega) | (exact absurd (of_decide_eq_true (by assumption)) hne) | (exact absurd rfl (of_decide_eq_false (by assumption))) | (exact absurd (of_decide_eq_true (by assumption)) hne2) | skip
              rename_i ax cx
              refine at_meet (m - 1, X ++ [((w1, (⟨#[]⟩ : ByteArray), true, false) : Vr)], r2, ax, cx) ⟨⟨by dsimp only; omega, by simp; omega, by dsimp only; rw [Hmx.out]; simp [Option.map_map, hnr]; rfl⟩, by dsimp only; omega⟩ ?_ ?_
              · rw [show (X ++ [((w1, (⟨#[]⟩ : ByteArray), true, false) : Vr)]).length = X.length + 1 from by simp]
                exact (by repeat (first | exact Le.nil _ | refine Le.cons (by first | rfl | (exact congrArg some (congrArg (Value.int _) (by omega)))) ?_))
              · rw [show (X ++ [((w1, (⟨#[]⟩ : ByteArray), true, false) : Vr)]).length = X.length + 1 from by simp, vrs_snoc]
                exact (fun _ hw => hw.subs (by repeat (first | refine Subs.cons (by repeat constructor) ?_ | exact Subs.sub (by repeat (first | exact List.Sublist.refl _ | exact List.nil_sublist _ | refine List.Sublist.cons _ ?_)))))
end Go.Proofs.YtflmckoolagikaaDoor
end
section
namespace Go.Fw
open Go Go.RowKit Go.Sx
def wantV (p : List Vr × Int) : List Vr × Int := if p.2 ≠ 0 then ([], p.2) else if (p.1.any fun v => v.2.2.2) = true then ([], 4) else (p.1, 0)
theorem readP_nil {s : ByteArray} (h : (readP s).2 ≠ 0) : (readP s).1 = [] := by
  unfold readP at *
  split
  · rfl
  · split
    · rfl
    · split
      · rfl
      · rename_i h1 _ out h2 h3
        rw [if_neg h1, h2] at h
        simp only [if_neg h3] at h
        exact absurd rfl h
theorem many_len {st : List Int → Option (Vr × List Int)} : ∀ (m : Nat) (l : List Int) (L : List Vr), many st m l = some L → L.length ≤ m
  | _, [], L, h => by rw [many] at h; cases h; exact Nat.zero_le _
  | 0, _ :: _, L, h => by rw [many] at h; cases h
  | m + 1, x :: l, L, h => by
    rw [many] at h
    split at h
    · cases h
    · rename_i v r _
      cases hq : many st m r with
      | none => rw [hq] at h; cases h
      | some L2 =>
        rw [hq] at h
        cases h
        have := many_len m r L2 hq
        simp; omega
theorem readP_len (s : ByteArray) : (readP s).1.length ≤ 4096 := by
  unfold readP
  split
  · exact Nat.zero_le _
  · split
    · exact Nat.zero_le _
    · split
      · exact Nat.zero_le _
      · rename_i h1 _ out h2 h3
        have := many_len _ _ _ h2
        show out.length ≤ 4096
        omega
end Go.Fw
namespace Go.Proofs.YtflmckoolagikaaDoor
open Go Go.RowKit Go.Fw Go.Sx
set_option maxRecDepth 100000
set_option maxHeartbeats 1000000
attribute [local irreducible] SW SL SQ AtQ SV SC BB LD PK Yields SO SOT SOA SY
theorem wanted1_sv (G : Ctx) (H : List Ent) (v : Vr) : SV Tryd.prog G 101 [vrV v] H (.bool v.2.2.2) := by
  obtain ⟨nm, vl, u, st⟩ := v
  show SV Tryd.prog G _ [.agg [.string nm, .string vl, .bool u, .bool st].toArray] H (.bool st)
  refine sv_enter1 Tryd.func101 rfl rfl rfl rfl rfl ?_
  repeat' (first | (apply g_sl; first | (apply ks_nil; refine sl_nil ?_) | (apply ks_load; first | (refine s_load rfl rfl ?_; first | refine ld_cell rfl ?_ | refine ld_whole rfl ?_ | refine ld_elem rfl ?_ | refine ld_part rfl rfl ?_) | fail) | (apply ks_asgn; refine s_asgn rfl rfl ?_) | (apply ks_field; first | refine s_field (c_field0 rfl rfl) rfl ?_ | refine s_field (c_field rfl rfl) rfl ?_) | (apply ks_box; refine c_box rfl rfl rfl rfl rfl rfl (fun _ => ?_)) | fail) | (apply sw_seq) | (apply at_srd) | (apply sw_skip) | (apply sw_ret) | (apply sw_exit) | (apply sw_block) | (apply sw_region) | (refine sw_cd rfl ?_; first | (apply gd_t) | (apply gd_ft) | (apply gd_tf) | (apply gd_dec_t <;> intro hq <;> (try (exfalso; omega))) | (apply gd_dec_f <;> intro hq <;> (try (exfalso; omega))) | (apply gd_beq_t <;> intro hq <;> (try (exfalso; omega))) | (apply gd_beq_f <;> intro hq <;> (try (exfalso; omega))) | (apply gd_bne_t <;> intro hq <;> (try (exfalso; omega))) | (apply gd_bne_f <;> intro hq <;> (try (exfalso; omega))) | (apply gd_not_t <;> intro hq) | (apply gd_not_f <;> intro hq) | (apply gd_raw_t <;> intro hq) | (apply gd_raw_f <;> intro hq)) | (apply at_thn) | (apply at_thn_ret) | (apply at_thn_exit) | (apply at_inb) | (apply at_inb_ret) | (apply at_inb_exit) | refine at_inb_pass rfl ?_ | refine c_drawn (by kernel_rfl) ?_)
  refine e_sv (by first | exact .inl rfl | exact .inr rfl) rfl (by repeat (first | exact List.Sublist.refl _ | exact List.nil_sublist _ | refine List.Sublist.cons _ ?_)) ?_
  rfl
theorem wanted_sc (G : Ctx) (H : List Ent) (s : ByteArray) : SC Tryd.prog G 53 [.string s] H (fun v H' => ∃ a' c', v = .tuple #[.slice a' (wantV (readP s)).1.length c', .int .i64 (wantV (readP s)).2] ∧ H' = .own 121 4 a' (wantV (readP s)).1.length c' (vrs (wantV (readP s)).1) :: H) := by
  have cR := fun H => read_sc G H s
  have hl := readP_len s
  rw [read_same] at cR
  generalize readP s = p at *
  obtain ⟨L, e⟩ := p
  dsimp only at cR hl
  have cH := fun H a c (h1 : RdC G H a (vrs L)) => hasVarG_sv G H 101 [] (fun v => v.2.2.2) L a L.length c rfl rfl (by unfold maxLen; omega) (fun v _ => wanted1_sv G H v)
  have w1 : e ≠ 0 → wantV (L, e) = ([], e) := fun h => if_pos h
  have w2 : e = 0 → (L.any fun v => v.2.2.2) = true → wantV (L, e) = ([], 4) := fun h h2 => by unfold wantV; rw [if_neg (fun x => x h)]; exact if_pos h2
  have w3 : e = 0 → (L.any fun v => v.2.2.2) = false → wantV (L, e) = (L, 0) := fun h h2 => by unfold wantV; rw [if_neg (fun x => x h)]; exact if_neg (by rw [h2]; decide)
  generalize wantV (L, e) = w at *
  have W1 := Lib.hid w1
  have W2 := Lib.hid w2
  have W3 := Lib.hid w3
  clear w1 w2 w3
  generalize (L.any fun v => v.2.2.2) = q at *
  refine sc_enter1 Tryd.func53 rfl rfl rfl rfl rfl ?_
  repeat' (first | (apply g_sl; first | (apply ks_nil; refine sl_nil ?_) | (apply ks_move; refine s_move rfl rfl ?_) | (apply ks_bin; refine s_bin rfl rfl rfl ?_; first | fail | (first | refine bb_of rfl ?_)) | (apply ks_asgn; refine s_asgn rfl rfl ?_) | (apply ks_extr; refine s_extr (y_extract rfl rfl rfl) rfl ?_) | (apply ks_fn; first | first | (refine c_call rfl rfl rfl (cR _) rfl rfl ?_; rintro _ _ ⟨a1, k1, rfl, rfl⟩) | refine c_callv rfl rfl rfl (cH _ _ _ inferInstance) rfl rfl ?_) | fail) | (apply sw_seq) | (apply at_srd) | (apply sw_skip) | (apply sw_ret) | (apply sw_exit) | (apply sw_block) | (apply sw_region) | (refine sw_cd rfl ?_; first | (apply gd_t) | (apply gd_ft) | (apply gd_tf) | (apply gd_dec_t <;> intro hq <;> (try (exfalso; omega))) | (apply gd_dec_f <;> intro hq <;> (try (exfalso; omega))) | (apply gd_beq_t <;> intro hq <;> (try (exfalso; omega))) | (apply gd_beq_f <;> intro hq <;> (try (exfalso; omega))) | (apply gd_bne_t <;> intro hq <;> (try (exfalso; omega))) | (apply gd_bne_f <;> intro hq <;> (try (exfalso; omega))) | (apply gd_not_t <;> intro hq) | (apply gd_not_f <;> intro hq) | (apply gd_raw_t <;> intro hq) | (apply gd_raw_f <;> intro hq)) | (apply at_thn) | (apply at_thn_ret) | (apply at_thn_exit) | (apply at_inb) | (apply at_inb_ret) | (apply at_inb_exit) | refine at_inb_pass rfl ?_ | refine c_drawn (by kernel_rfl) ?_)
  all_goals first
    | (rw [W1.out (by assumption)]; exact e_scf (.own 121 4 none 0 0 [] :: H) (.inr rfl) rfl (fun _ hw => (hw.sub (List.sublist_cons_self _ _)).nilrow _ _) ⟨_, _, rfl, rfl⟩)
    | (rw [W2.out (by first | assumption | omega) (by assumption)]; exact e_scf (.own 121 4 none 0 0 [] :: H) (.inr rfl) rfl (fun _ hw => (hw.sub (List.sublist_cons_self _ _)).nilrow _ _) ⟨_, _, rfl, rfl⟩)
    | (rw [W3.out (by first | assumption | omega) (by assumption)]; exact e_sc _ (.inr rfl) rfl (List.Sublist.refl _) ⟨_, _, rfl, rfl⟩)
theorem wantedVars_sc (G : Ctx) (H : List Ent) (m0 : Int) (hM : ∀ H w, Holds G H w → w.cell? ⟨2, 0, none⟩ = some (.int .i64 m0)) (s : ByteArray) : SC Tryd.prog G 57 [.string s] H (fun v H' => ∃ a' c', v = .tuple #[.slice a' (wantV (readP s)).1.length c', .int .i64 (wantV (readP s)).2] ∧ H' = .own 121 4 a' (wantV (readP s)).1.length c' (vrs (wantV (readP s)).1) :: H) := by
  have cR := fun H => readVars_sc G H m0 hM s
  have hl := readP_len s
  have hnil := fun h => readP_nil (s := s) h
  generalize readP s = p at *
  obtain ⟨L, e⟩ := p
  dsimp only at cR hl hnil
  have w1 : (L.any fun v => v.2.2.2) = true → wantV (L, e) = ([], 4) := fun h => by
    have he : e = 0 := Classical.byContradiction fun h2 => by rw [hnil h2] at h; cases h
    unfold wantV; rw [if_neg (fun x => x he)]; exact if_pos h
  have w2 : (L.any fun v => v.2.2.2) = false → wantV (L, e) = (L, e) := fun h => by
    by_cases he : e = 0
    · subst he
      unfold wantV; rw [if_neg (fun x => x rfl)]; exact if_neg (by rw [h]; decide)
    · unfold wantV; rw [if_pos he, hnil he]
  generalize wantV (L, e) = w at *
  have W1 := Lib.hid w1
  have W2 := Lib.hid w2
  have hlx : (vrs L).length = L.length * 4 := vrs_len L
  have hel : ∀ (k : Nat) x, L[k]? = some x → take? ((vrs L).drop ((k : Int).toNat * 4)) 4 = some (vrC x) := fun k x hx => fm_elem hx
  have Hel := Lib.hid hel
  clear w1 w2 hnil hM hel
  refine sc_enter1 Tryd.func57 rfl rfl rfl rfl rfl ?_
  repeat' (first | (apply g_sl; first | (apply ks_nil; refine sl_nil ?_) | (apply ks_move; refine s_move rfl rfl ?_) | (apply ks_bin; refine s_bin rfl rfl rfl ?_; first | fail | (first | (apply kb_add; first | refine bb_add ⟨by omega, by omega⟩ ?_ | refine bb_of rfl ?_) | refine bb_of rfl ?_)) | (apply ks_load; first | (refine s_load rfl rfl ?_; first | refine ld_cell rfl ?_ | refine ld_whole rfl ?_ | refine ld_elem rfl ?_ | refine ld_part rfl rfl ?_) | fail) | (apply ks_asgn; refine s_asgn rfl rfl ?_) | (apply ks_field; first | refine s_field (c_field0 rfl rfl) rfl ?_ | refine s_field (c_field rfl rfl) rfl ?_) | (apply ks_extr; refine s_extr (y_extract rfl rfl rfl) rfl ?_) | (apply ks_indexA; first | refine s_indexA (c_indexAddr rfl rfl rfl rfl (by omega) (by omega)) rfl ?_ | fail) | (apply ks_fn; first | (refine c_call rfl rfl rfl (cR _) rfl rfl ?_; rintro _ _ ⟨a1, k1, rfl, rfl⟩)) | (apply ks_bi; first | fail | refine s_call (c_len rfl rfl) rfl ?_ | refine s_call (c_len_str rfl rfl) rfl ?_ | refine s_call (c_bi rfl rfl rfl rfl) rfl ?_ | refine c_append rfl rfl rfl rfl (by first | rfl | simp [ints]) (by first | rfl | exact ints_one _ | exact octs_one _ | exact strs_one _) (by omega) rfl rfl (fun _ _ => ?_) | refine c_append_nil rfl rfl rfl rfl (by first | rfl | simp [ints]) (by first | rfl | exact ints_one _ | exact octs_one _ | exact strs_one _) (by omega) rfl rfl (fun _ _ => ?_)) | (apply ks_store; first | first | refine c_store rfl rfl rfl rfl rfl rfl rfl ?_ | refine c_storew rfl rfl rfl rfl rfl rfl rfl rfl ?_ | refine c_storee rfl rfl rfl rfl rfl (by omega) rfl ?_ | fail) | (apply ks_alloc; refine c_alloc rfl rfl rfl rfl (fun _ => ?_)) | fail) | (apply sw_seq) | (apply at_srd) | (apply sw_skip) | (apply sw_ret) | (apply sw_exit) | (apply sw_block) | (apply sw_region) | (refine sw_cd rfl ?_; first | (apply gd_t) | (apply gd_ft) | (apply gd_tf) | (apply gd_dec_t <;> intro hq <;> (try (exfalso; omega))) | (apply gd_dec_f <;> intro hq <;> (try (exfalso; omega))) | (apply gd_beq_t <;> intro hq <;> (try (exfalso; omega))) | (apply gd_beq_f <;> intro hq <;> (try (exfalso; omega))) | (apply gd_bne_t <;> intro hq <;> (try (exfalso; omega))) | (apply gd_bne_f <;> intro hq <;> (try (exfalso; omega))) | (apply gd_not_t <;> intro hq) | (apply gd_not_f <;> intro hq) | (apply gd_raw_t <;> intro hq) | (apply gd_raw_f <;> intro hq)) | (apply at_thn) | (apply at_thn_ret) | (apply at_thn_exit) | (apply at_inb) | (apply at_inb_ret) | (apply at_inb_exit) | refine at_inb_pass rfl ?_ | refine c_drawn (by kernel_rfl) ?_)
  refine sw_loopg (α := Nat) (fun i => [(4, .slice a1 L.length k1), (5, .int .i64 e), (13, .slice a1 L.length k1), (14, .int .i64 L.length), (15, .int .i64 i)]) (fun _ => .own 121 4 a1 L.length k1 (vrs L) :: H)
    (fun i => i ≤ L.length ∧ ∀ v ∈ L.take i, v.2.2.2 = false) (fun i => L.length - i) 0 ⟨Nat.zero_le _, fun v hv => by simp at hv⟩ (by repeat (first | exact Le.nil _ | refine Le.cons (by first | rfl | (exact congrArg some (congrArg (Value.int _) (by omega)))) ?_)) (fun _ hw => hw.subs (by repeat (first | refine Subs.cons (by repeat constructor) ?_ | exact Subs.sub (by repeat (first | exact List.Sublist.refl _ | exact List.nil_sublist _ | refine List.Sublist.cons _ ?_))))) ?_
  rintro i ⟨hi, hf⟩
  have Hf := Lib.hid hf
  clear hf
  by_cases hlt : (i : Int) < L.length
  · obtain ⟨x, hx⟩ := get_of (X := L) (k := i) (by omega)
    have hxi := Hel.out i x hx
    have hfx : x.2.2.2 = true → (L.any fun v => v.2.2.2) = true := fun h => List.any_eq_true.2 ⟨x, List.mem_of_getElem? hx, h⟩
    have hfn : x.2.2.2 = false → ∀ v ∈ L.take (i + 1), v.2.2.2 = false := fun h => take_all hx h Hf.out
    obtain ⟨nm, vl, u, st⟩ := x
    have hxi' : take? ((vrs L).drop ((i : Int).toNat * 4)) 4 = some [.string nm, .string vl, .bool u, .bool st] := hxi
    dsimp only at hfx hfn
    have Hfn := Lib.hid hfn
    have Hfx := Lib.hid hfx
    clear hxi hx hfn hfx
    cases st
    · repeat' (first | (apply g_sl; first | (apply ks_nil; refine sl_nil ?_) | (apply ks_move; refine s_move rfl rfl ?_) | (apply ks_bin; refine s_bin rfl rfl rfl ?_; first | first | (refine s_indexA (c_indexAddr rfl rfl rfl hlx (by omega) (by omega)) rfl ?_) | (refine s_load rfl rfl ?_; refine ld_elems hxi' rfl ?_) | (first | (apply kb_add; first | refine bb_add ⟨by omega, by omega⟩ ?_ | refine bb_of rfl ?_) | refine bb_of rfl ?_)) | (apply ks_load; first | (refine s_load rfl rfl ?_; first | refine ld_cell rfl ?_ | refine ld_whole rfl ?_ | refine ld_elem rfl ?_ | refine ld_part rfl rfl ?_) | first | (refine s_indexA (c_indexAddr rfl rfl rfl hlx (by omega) (by omega)) rfl ?_) | (refine s_load rfl rfl ?_; refine ld_elems hxi' rfl ?_)) | (apply ks_asgn; refine s_asgn rfl rfl ?_) | (apply ks_field; first | refine s_field (c_field0 rfl rfl) rfl ?_ | refine s_field (c_field rfl rfl) rfl ?_) | (apply ks_extr; refine s_extr (y_extract rfl rfl rfl) rfl ?_) | (apply ks_indexA; first | refine s_indexA (c_indexAddr rfl rfl rfl rfl (by omega) (by omega)) rfl ?_ | first | (refine s_indexA (c_indexAddr rfl rfl rfl hlx (by omega) (by omega)) rfl ?_) | (refine s_load rfl rfl ?_; refine ld_elems hxi' rfl ?_)) | (apply ks_fn; first | fail) | (apply ks_bi; first | first | (refine s_indexA (c_indexAddr rfl rfl rfl hlx (by omega) (by omega)) rfl ?_) | (refine s_load rfl rfl ?_; refine ld_elems hxi' rfl ?_) | refine s_call (c_len rfl rfl) rfl ?_ | refine s_call (c_len_str rfl rfl) rfl ?_ | refine s_call (c_bi rfl rfl rfl rfl) rfl ?_ | refine c_append rfl rfl rfl rfl (by first | rfl | simp [ints]) (by first | rfl | exact ints_one _ | exact octs_one _ | exact strs_one _) (by omega) rfl rfl (fun _ _ => ?_) | refine c_append_nil rfl rfl rfl rfl (by first | rfl | simp [ints]) (by first | rfl | exact ints_one _ | exact octs_one _ | exact strs_one _) (by omega) rfl rfl (fun _ _ => ?_)) | (apply ks_store; first | first | refine c_store rfl rfl rfl rfl rfl rfl rfl ?_ | refine c_storew rfl rfl rfl rfl rfl rfl rfl rfl ?_ | refine c_storee rfl rfl rfl rfl rfl (by omega) rfl ?_ | first | (refine s_indexA (c_indexAddr rfl rfl rfl hlx (by omega) (by omega)) rfl ?_) | (refine s_load rfl rfl ?_; refine ld_elems hxi' rfl ?_)) | (apply ks_alloc; refine c_alloc rfl rfl rfl rfl (fun _ => ?_)) | first | (refine s_indexA (c_indexAddr rfl rfl rfl hlx (by omega) (by omega)) rfl ?_) | (refine s_load rfl rfl ?_; refine ld_elems hxi' rfl ?_)) | (apply sw_seq) | (apply at_srd) | (apply sw_skip) | (apply sw_ret) | (apply sw_exit) | (apply sw_block) | (apply sw_region) | (refine sw_cd rfl ?_; first | (apply gd_t) | (apply gd_ft) | (apply gd_tf) | (apply gd_dec_t <;> intro hq <;> (try (exfalso; omega))) | (apply gd_dec_f <;> intro hq <;> (try (exfalso; omega))) | (apply gd_beq_t <;> intro hq <;> (try (exfalso; omega))) | (apply gd_beq_f <;> intro hq <;> (try (exfalso; omega))) | (apply gd_bne_t <;> intro hq <;> (try (exfalso; omega))) | (apply gd_bne_f <;> intro hq <;> (try (exfalso; omega))) | (apply gd_not_t <;> intro hq) | (apply gd_not_f <;> intro hq) | (apply gd_raw_t <;> intro hq) | (apply gd_raw_f <;> intro hq)) | (apply at_thn) | (apply at_thn_ret) | (apply at_thn_exit) | (apply at_inb) | (apply at_inb_ret) | (apply at_inb_exit) | refine at_inb_pass rfl ?_ | refine c_drawn (by kernel_rfl) ?_)
      exact at_meet (i + 1) ⟨⟨by omega, Hfn.out rfl⟩, by omega⟩ (by repeat (first | exact Le.nil _ | refine Le.cons (by first | rfl | (exact congrArg some (congrArg (Value.int _) (by omega)))) ?_)) (fun _ hw => hw.subs (by repeat (first | refine Subs.cons (by repeat constructor) ?_ | exact Subs.sub (by repeat (first | exact List.Sublist.refl _ | exact List.nil_sublist _ | refine List.Sublist.cons _ ?_)))))
    · repeat' (first | (apply g_sl; first | (apply ks_nil; refine sl_nil ?_) | (apply ks_move; refine s_move rfl rfl ?_) | (apply ks_bin; refine s_bin rfl rfl rfl ?_; first | first | (refine s_indexA (c_indexAddr rfl rfl rfl hlx (by omega) (by omega)) rfl ?_) | (refine s_load rfl rfl ?_; refine ld_elems hxi' rfl ?_) | (first | (apply kb_add; first | refine bb_add ⟨by omega, by omega⟩ ?_ | refine bb_of rfl ?_) | refine bb_of rfl ?_)) | (apply ks_load; first | (refine s_load rfl rfl ?_; first | refine ld_cell rfl ?_ | refine ld_whole rfl ?_ | refine ld_elem rfl ?_ | refine ld_part rfl rfl ?_) | first | (refine s_indexA (c_indexAddr rfl rfl rfl hlx (by omega) (by omega)) rfl ?_) | (refine s_load rfl rfl ?_; refine ld_elems hxi' rfl ?_)) | (apply ks_asgn; refine s_asgn rfl rfl ?_) | (apply ks_field; first | refine s_field (c_field0 rfl rfl) rfl ?_ | refine s_field (c_field rfl rfl) rfl ?_) | (apply ks_extr; refine s_extr (y_extract rfl rfl rfl) rfl ?_) | (apply ks_indexA; first | refine s_indexA (c_indexAddr rfl rfl rfl rfl (by omega) (by omega)) rfl ?_ | first | (refine s_indexA (c_indexAddr rfl rfl rfl hlx (by omega) (by omega)) rfl ?_) | (refine s_load rfl rfl ?_; refine ld_elems hxi' rfl ?_)) | (apply ks_fn; first | fail) | (apply ks_bi; first | first | (refine s_indexA (c_indexAddr rfl rfl rfl hlx (by omega) (by omega)) rfl ?_) | (refine s_load rfl rfl ?_; refine ld_elems hxi' rfl ?_) | refine s_call (c_len rfl rfl) rfl ?_ | refine s_call (c_len_str rfl rfl) rfl ?_ | refine s_call (c_bi rfl rfl rfl rfl) rfl ?_ | refine c_append rfl rfl rfl rfl (by first | rfl | simp [ints]) (by first | rfl | exact ints_one _ | exact octs_one _ | exact strs_one _) (by omega) rfl rfl (fun _ _ => ?_) | refine c_append_nil rfl rfl rfl rfl (by first | rfl | simp [ints]) (by first | rfl | exact ints_one _ | exact octs_one _ | exact strs_one _) (by omega) rfl rfl (fun _ _ => ?_)) | (apply ks_store; first | first | refine c_store rfl rfl rfl rfl rfl rfl rfl ?_ | refine c_storew rfl rfl rfl rfl rfl rfl rfl rfl ?_ | refine c_storee rfl rfl rfl rfl rfl (by omega) rfl ?_ | first | (refine s_indexA (c_indexAddr rfl rfl rfl hlx (by omega) (by omega)) rfl ?_) | (refine s_load rfl rfl ?_; refine ld_elems hxi' rfl ?_)) | (apply ks_alloc; refine c_alloc rfl rfl rfl rfl (fun _ => ?_)) | first | (refine s_indexA (c_indexAddr rfl rfl rfl hlx (by omega) (by omega)) rfl ?_) | (refine s_load rfl rfl ?_; refine ld_elems hxi' rfl ?_)) | (apply sw_seq) | (apply at_srd) | (apply sw_skip) | (apply sw_ret) | (apply sw_exit) | (apply sw_block) | (apply sw_region) | (refine sw_cd rfl ?_; first | (apply gd_t) | (apply gd_ft) | (apply gd_tf) | (apply gd_dec_t <;> intro hq <;> (try (exfalso; omega))) | (apply gd_dec_f <;> intro hq <;> (try (exfalso; omega))) | (apply gd_beq_t <;> intro hq <;> (try (exfalso; omega))) | (apply gd_beq_f <;> intro hq <;> (try (exfalso; omega))) | (apply gd_bne_t <;> intro hq <;> (try (exfalso; omega))) | (apply gd_bne_f <;> intro hq <;> (try (exfalso; omega))) | (apply gd_not_t <;> intro hq) | (apply gd_not_f <;> intro hq) | (apply gd_raw_t <;> intro hq) | (apply gd_raw_f <;> intro hq)) | (apply at_thn) | (apply at_thn_ret) | (apply at_thn_exit) | (apply at_inb) | (apply at_inb_ret) | (apply at_inb_exit) | refine at_inb_pass rfl ?_ | refine c_drawn (by kernel_rfl) ?_)
      rw [W1.out (Hfx.out rfl)]
      exact e_scf (.own 121 4 none 0 0 [] :: H) (.inr rfl) rfl (fun _ hw => (hw.sub ((List.sublist_cons_self _ _).trans (List.sublist_cons_self _ _))).nilrow _ _) ⟨_, _, rfl, rfl⟩
  · obtain rfl : i = L.length := by omega
    have hnf : (L.any fun v => v.2.2.2) = false := by
      have h1 := Hf.out
      rw [List.take_length] at h1
      rw [← Bool.not_eq_true, List.any_eq_true]
      rintro ⟨v, hv, h⟩
      exact Bool.noConfusion ((h1 v hv).symm.trans h)
    rw [W2.out hnf]
    repeat' (first | (apply g_sl; first | (apply ks_nil; refine sl_nil ?_) | (apply ks_move; refine s_move rfl rfl ?_) | (apply ks_bin; refine s_bin rfl rfl rfl ?_; first | fail | (first | (apply kb_add; first | refine bb_add ⟨by omega, by omega⟩ ?_ | refine bb_of rfl ?_) | refine bb_of rfl ?_)) | (apply ks_load; first | (refine s_load rfl rfl ?_; first | refine ld_cell rfl ?_ | refine ld_whole rfl ?_ | refine ld_elem rfl ?_ | refine ld_part rfl rfl ?_) | fail) | (apply ks_asgn; refine s_asgn rfl rfl ?_) | (apply ks_field; first | refine s_field (c_field0 rfl rfl) rfl ?_ | refine s_field (c_field rfl rfl) rfl ?_) | (apply ks_extr; refine s_extr (y_extract rfl rfl rfl) rfl ?_) | (apply ks_indexA; first | refine s_indexA (c_indexAddr rfl rfl rfl rfl (by omega) (by omega)) rfl ?_ | fail) | (apply ks_fn; first | fail) | (apply ks_bi; first | fail | refine s_call (c_len rfl rfl) rfl ?_ | refine s_call (c_len_str rfl rfl) rfl ?_ | refine s_call (c_bi rfl rfl rfl rfl) rfl ?_ | refine c_append rfl rfl rfl rfl (by first | rfl | simp [ints]) (by first | rfl | exact ints_one _ | exact octs_one _ | exact strs_one _) (by omega) rfl rfl (fun _ _ => ?_) | refine c_append_nil rfl rfl rfl rfl (by first | rfl | simp [ints]) (by first | rfl | exact ints_one _ | exact octs_one _ | exact strs_one _) (by omega) rfl rfl (fun _ _ => ?_)) | (apply ks_store; first | first | refine c_store rfl rfl rfl rfl rfl rfl rfl ?_ | refine c_storew rfl rfl rfl rfl rfl rfl rfl rfl ?_ | refine c_storee rfl rfl rfl rfl rfl (by omega) rfl ?_ | fail) | (apply ks_alloc; refine c_alloc rfl rfl rfl rfl (fun _ => ?_)) | fail) | (apply sw_seq) | (apply at_srd) | (apply sw_skip) | (apply sw_ret) | (apply sw_exit) | (apply sw_block) | (apply sw_region) | (refine sw_cd rfl ?_; first | (apply gd_t) | (apply gd_ft) | (apply gd_tf) | (apply gd_dec_t <;> intro hq <;> (try (exfalso; omega))) | (apply gd_dec_f <;> intro hq <;> (try (exfalso; omega))) | (apply gd_beq_t <;> intro hq <;> (try (exfalso; omega))) | (apply gd_beq_f <;> intro hq <;> (try (exfalso; omega))) | (apply gd_bne_t <;> intro hq <;> (try (exfalso; omega))) | (apply gd_bne_f <;> intro hq <;> (try (exfalso; omega))) | (apply gd_not_t <;> intro hq) | (apply gd_not_f <;> intro hq) | (apply gd_raw_t <;> intro hq) | (apply gd_raw_f <;> intro hq)) | (apply at_thn) | (apply at_thn_ret) | (apply at_thn_exit) | (apply at_inb) | (apply at_inb_ret) | (apply at_inb_exit) | refine at_inb_pass rfl ?_ | refine c_drawn (by kernel_rfl) ?_)
    exact e_sc _ (.inr rfl) rfl (List.Sublist.refl _) ⟨_, _, rfl, rfl⟩
end Go.Proofs.YtflmckoolagikaaDoor
end
section
namespace Go.Sx
open Go Go.RowKit Go.Fw
/-- A thing that is no cells is changed. -/
theorem Holds.setObj {G : Ctx} {H : List Ent} {w : World} {b : Nat} {o : Obj} (h : Holds G (.obj b o :: H) w) (o' : Obj) : Holds G (.obj b o' :: H) { w with heap := w.heap.setIfInBounds b o' } := by
  obtain ⟨hB, hb⟩ : G.B ≤ b ∧ w.heap[b]? = some o := h.ok _ List.mem_cons_self
  obtain ⟨hap, hapH⟩ := List.pairwise_cons.1 h.apart
  have hlt : b < w.heap.size := row_lt hb
  have ho : ∀ k, k ≠ b → (w.heap.setIfInBounds b o')[k]? = w.heap[k]? := fun k hk => by
    rw [Array.getElem?_setIfInBounds, if_neg (fun e => hk e.symm)]
  have hn : (w.heap.setIfInBounds b o')[b]? = some o' := by
    rw [Array.getElem?_setIfInBounds, if_pos rfl, if_pos hlt]
  refine ⟨h.below.trans ⟨rfl, rfl, rfl, Nat.le_of_eq (by simp), fun k hk => ho k (by omega)⟩, by simpa using h.base, fun x hx => ?_, List.pairwise_cons.2 ⟨fun y hy k hk => hap y hy k hk, hapH⟩⟩
  rcases List.mem_cons.1 hx with rfl | hx
  · exact ⟨hB, hn⟩
  · exact Ent.ok_of (h.ok x (List.mem_cons_of_mem _ hx)) fun k hk => ho k (fun e => hap x hx b rfl (e ▸ hk))
section
variable {P : Program} {G : Ctx} {n : Sz} {ops : Array Oper} {Q : Post} {s : Fm} {H : List Ent} {o : Oper} {rest : List Oper}
end
end Go.Sx
end
section
namespace Go.Sx
open Go Go.RowKit Go.Fw
/-- The widest fence, in a round or not. -/
abbrev FW (ro : Option Nat) : Fence := { Fence.wide with round := ro }
theorem steps_FW {P : Program} {ro : Option Nat} {m m' : Machine} : StepsIn (Machine.fenced P (FW ro)) P m m' ↔ Steps P m m' := stepsIn_wide
theorem calls_FW {P : Program} {ro : Option Nat} {k : Nat} {f : FuncId} {args : Array Value} {w : World} {R : Ending → World → Prop} (h : Calls P f args w R) : CallsIn (FW ro) k P f args w R :=
  (callsIn_wide (n := k)).2 h
/-- What an operation does out of a round it does in one. -/
theorem wpIn_of_wp {P : Program} {ro : Option Nat} {k : Nat} {o : Oper} {a : Act} {w : World} {K K' : Act → World → Prop} {Q Q' : Exit → Act → World → Prop} (hd : ∀ c, o.op ≠ .defer c)
    (hK : ∀ a w, K a w → K' a w) (hQ : ∀ c a w, Q (.panic c) a w → Q' (.panic c) a w) (hQ2 : ∀ a w, ¬ Q .outgrown a w) (h : o.wp P a w K Q) : o.wpIn (FW ro) k P a w K' Q' := by
  refine ⟨fun _ _ => trivial, ?_⟩
  rw [Oper.semAt_eq _ _ _ hd]
  unfold Oper.wp at h
  generalize (execOp a.eval o).run P w = r at h ⊢
  cases r with
  | ok x w' =>
    cases x with
    | value v => exact hK _ _ h
    | skip => exact hK _ _ h
    | defer d => exact hK _ _ h
    | enter f args =>
      refine ⟨fun e => Bool.noConfusion e, CallsIn.mono (calls_FW h) fun e w'' hr => ?_⟩
      cases e with
      | returned v => exact hK _ _ hr
      | panicked c => exact hQ _ _ _ hr
      | outgrown => obtain ⟨a2, w2, h2⟩ := hr; exact absurd h2 (hQ2 _ _)
    | row r args =>
      refine ⟨fun e => Bool.noConfusion e, fun c cs _ => ?_⟩
      obtain ⟨v, w2, h1, h2⟩ := h c cs
      exact ⟨v, w2, hK _ _ h1, steps_FW.2 h2⟩
    | _ => exact h.elim
  | halt x w' =>
    cases x with
    | panic v => exact hQ _ _ _ h
    | _ => exact h.elim
def noDef (o : Oper) : Bool := match o.op with | .defer _ => false | _ => true
theorem noDef_ne {o : Oper} (h : noDef o = true) (c : Call) : o.op ≠ .defer c := fun e => by unfold noDef at h; rw [e] at h; cases h
/-- A list's first part by what it does out of a round; then the rest. -/
theorem li_app {P : Program} {ro : Option Nat} {k : Nat} {ops : Array Oper} {Q1 Q : Exit → Act → World → Prop} {l2 : List Oper} (hn : ∀ a w, Q1 .normal a w → wpListIn (FW ro) k P ops Q l2 a w)
    (hQ : ∀ c a w, Q1 (.panic c) a w → Q (.panic c) a w) (hQ2 : ∀ a w, ¬ Q1 .outgrown a w) : ∀ (l1 : List Oper) (_ : l1.all noDef = true) (a : Act) (w : World), wpList P ops Q1 l1 a w → wpListIn (FW ro) k P ops Q (l1 ++ l2) a w
  | [], _, a, w, h => hn a w h
  | o :: l1, hd, a, w, h => by
    rw [List.all_cons, Bool.and_eq_true] at hd
    have ih := li_app hn hQ hQ2 l1 hd.2
    unfold wpList at h
    rw [List.cons_append]
    unfold wpListIn
    split at h
    · rename_i hw
      rw [if_pos hw]
      rcases h with h | ⟨_, a2, w2, h2⟩
      · exact wpIn_of_wp (noDef_ne hd.1) ih hQ hQ2 h
      · exact absurd h2 (hQ2 _ _)
    · rename_i hw
      rw [if_neg hw]
      exact ⟨fun _ _ => trivial, ih _ _ h⟩
abbrev mkD (d : Nat) : Deferred := { target := .collected d, args := #[] }
abbrev dsE (ds : List Nat) : List Ent := ds.map fun d => .obj d (.deferred (some []))
def liftI (G : Ctx) (N : Nat) (H0 : List Ent) (Q : Post) : Exit → Act → World → Prop := fun e a w => ∃ ds s H, Fr ⟨N, ds.map mkD⟩ s a ∧ Holds G (H ++ (dsE ds ++ H0)) w ∧ Q e s H
/-- A walk in which marks come to stand on the frame. -/
def SI (P : Program) (G : Ctx) (N : Nat) (ro : Option Nat) (H0 : List Ent) (c : Code) (Q : Post) (s : Fm) (H : List Ent) : Prop :=
  ∀ (ds : List Nat) a w k, Fr ⟨N, ds.map mkD⟩ s a → Holds G (H ++ (dsE ds ++ H0)) w → c.wpIn (FW ro) k P (liftI G N H0 Q) a w
/-- A list of held things that ends in T. -/
class TailC (L T : List Ent) (H : outParam (List Ent)) : Prop where
  here : L = H ++ T
instance (priority := low) tailCons {L T H : List Ent} {x : Ent} [h : TailC L T H] : TailC (x :: L) T (x :: H) := ⟨by rw [h.here]; rfl⟩
instance (priority := low) tailApp {A T : List Ent} : TailC (A ++ T) T A := ⟨rfl⟩
instance (priority := low) hasBlkLeft {A T : List Ent} {b : Nat} {t : TypeId} {cs : List Value} [h : HasBlk A b t cs] : HasBlk (A ++ T) b t cs := ⟨List.mem_append_left _ h.here⟩
instance tailNil {T : List Ent} : TailC T T [] := ⟨rfl⟩
def QT (Q : Post) (T : List Ent) : Post := fun e s L => ∃ H, L = H ++ T ∧ Q e s H
theorem at_mk {Q : Post} {e : Exit} {s : Fm} {H : List Ent} (h : Q e s H) : AtQ Q e s H := h
theorem at_qt {Q : Post} {T L H : List Ent} {e : Exit} {s : Fm} [h : TailC L T H] (hq : AtQ Q e s H) : AtQ (QT Q T) e s L := ⟨H, h.here, hq⟩
section
variable {P : Program} {G : Ctx} {N : Nat} {ro : Option Nat} {H0 : List Ent} {Q : Post} {s : Fm} {H : List Ent}
theorem si_skip (h : AtQ Q .normal s H) : SI P G N ro H0 .skip Q s H := fun ds _ _ _ ha hw => wpIn_skip ⟨ds, s, H, ha, hw, h⟩
theorem si_exit {id : Nat} (h : AtQ Q (.exit id) s H) : SI P G N ro H0 (.exit id) Q s H := fun ds _ _ _ ha hw => wpIn_exit ⟨ds, s, H, ha, hw, h⟩
theorem si_seq {x y : Code} (h : SI P G N ro H0 x (thn (SI P G N ro H0 y Q) Q) s H) : SI P G N ro H0 (.seq x y) Q s H := fun ds a w k ha hw =>
  wpIn_seq (wpIn_mono (h ds a w k ha hw) fun e a' w' ⟨ds', s', H', ha', hw', hq⟩ => by
    cases e with
    | normal => exact hq ds' a' w' k ha' hw'
    | _ => exact ⟨ds', s', H', ha', hw', hq⟩)
theorem si_block {id : Nat} {c : Code} (h : SI P G N ro H0 c (inb id Q) s H) : SI P G N ro H0 (.block id c) Q s H := fun ds a w k ha hw =>
  wpIn_block (wpIn_mono (h ds a w k ha hw) fun e a' w' ⟨ds', s', H', ha', hw', hq⟩ => by
    cases e with
    | exit id' =>
      simp only [Exit.inBlock]
      simp only [inb] at hq
      split
      · rename_i e; rw [if_pos e] at hq; exact ⟨ds', s', H', ha', hw', hq⟩
      · rename_i e; rw [if_neg e] at hq; exact ⟨ds', s', H', ha', hw', hq⟩
    | _ => exact ⟨ds', s', H', ha', hw', hq⟩)
theorem si_cond {c : Operand} {x y : Code} {t : Bool} (hc : ev s c = some (.bool t)) (ht : t = true → SI P G N ro H0 x Q s H) (hf : t = false → SI P G N ro H0 y Q s H) : SI P G N ro H0 (.cond c x y) Q s H := fun ds a w k ha hw =>
  wpIn_cond_split (ha.ev hc) (fun e => ht e ds a w k ha hw) (fun e => hf e ds a w k ha hw)
theorem si_le {c : Code} {s' : Fm} {H' : List Ent} (hs : Le s' s) (hH : ∀ T w, Holds G (H ++ T) w → Holds G (H' ++ T) w) (h : SI P G N ro H0 c Q s' H') : SI P G N ro H0 c Q s H := fun ds a w k ha hw => h ds a w k (ha.le hs) (hH _ w hw)
/-- A plain region. -/
theorem si_region {id : Nat} {l : List Oper} (hd : l.all noDef = true) (hq : ∀ s H, ¬ Q .outgrown s H) (h : ∀ ds T, SL P G ⟨N, ds⟩ l.toArray (QT Q T) l s (H ++ T)) : SI P G N ro H0 (.region id l.toArray false) Q s H := fun ds a w k ha hw => by
  refine wpIn_region_lit ?_
  have h1 := h (ds.map mkD) (dsE ds ++ H0) a w ha hw
  have h2 := li_app (ro := ro) (k := k) (Q := liftI G N H0 Q) (l2 := []) (fun a' w' ⟨s', L, ha', hw', H', e, hq'⟩ => by subst e; exact ⟨ds, s', H', ha', hw', hq'⟩)
    (fun c a' w' ⟨s', L, ha', hw', H', e, hq'⟩ => by subst e; exact ⟨ds, s', H', ha', hw', hq'⟩) (fun a' w' ⟨s', L, ha', hw', H', e, hq'⟩ => hq _ _ hq') l hd a w h1
  rwa [List.append_nil] at h2
/-- A piece that holds no range over a function, out of a round. -/
theorem si_sw {c : Code} (h : ∀ ds T, SW P G ⟨N, ds⟩ c (QT Q T) s (H ++ T)) : SI P G N none H0 c Q s H := fun ds a w k ha hw => by
  have h1 : c.wp P (liftI G N H0 Q) a w := wp_mono (h (ds.map mkD) (dsE ds ++ H0) a w ha hw) fun e a' w' ⟨s', L, ha', hw', H', e, hq'⟩ => by subst e; exact ⟨ds, s', H', ha', hw', hq'⟩
  exact (wpIn_wide (n := k)).2 h1
theorem si_loop {c : Code} {α : Type} (S : α → Fm) (E : α → List Ent) (I : α → Prop) (μ : α → Nat) (x0 : α) (hI : I x0) (hs : Le (S x0) s) (hH : ∀ T w, Holds G (H ++ T) w → Holds G (E x0 ++ T) w)
    (round : ∀ x, I x → SI P G N none H0 c (thn (fun s' H' => ∃ y, I y ∧ μ y < μ x ∧ Le (S y) s' ∧ ∀ T w, Holds G (H' ++ T) w → Holds G (E y ++ T) w) Q) (S x) (E x)) : SI P G N none H0 (.loop c) Q s H := fun ds a w k ha hw => by
  refine (wpIn_wide (n := k)).2 ?_
  intro b kk cs
  have key : ∀ m x ds a w, μ x = m → I x → Fr ⟨N, ds.map mkD⟩ (S x) a → Holds G (E x ++ (dsE ds ++ H0)) w → ∃ e a' w', liftI G N H0 Q e a' w' ∧ Arrives P (lone (b.at a (.code c :: .inLoop c :: kk)) cs w) b kk cs e a' w' := by
    intro m
    induction m using Nat.strongRecOn with
    | _ m ih =>
      intro x ds a w hm hx ha hw
      have hr := (wpIn_wide (n := k)).1 (round x hx ds a w k ha hw)
      obtain ⟨e, a₁, w₁, ⟨ds', s', H', ha', hw', hq⟩, harr⟩ := hr b (.inLoop c :: kk) cs
      cases e with
      | normal =>
        obtain ⟨y, hy, hlt, hle, hh⟩ := hq
        obtain ⟨e₂, a₂, w₂, hq₂, harr₂⟩ := ih (μ y) (hm ▸ hlt) y ds' a₁ w₁ rfl hy (ha'.le hle) (hh _ _ hw')
        exact ⟨e₂, a₂, w₂, hq₂, .of_steps (Steps.trans harr (.one step_inLoop)) harr₂⟩
      | exit id => exact ⟨_, a₁, w₁, ⟨ds', s', H', ha', hw', hq⟩, .pass (x := .inLoop c) rfl (fun _ _ => .inl (by simp)) harr⟩
      | goto l => exact ⟨_, a₁, w₁, ⟨ds', s', H', ha', hw', hq⟩, .pass (x := .inLoop c) rfl (fun _ _ => .inl (by simp)) harr⟩
      | ret => exact ⟨_, a₁, w₁, ⟨ds', s', H', ha', hw', hq⟩, .pass (x := .inLoop c) rfl (fun _ _ => .inl (by simp)) harr⟩
      | panic ch => exact ⟨_, a₁, w₁, ⟨ds', s', H', ha', hw', hq⟩, .pass (x := .inLoop c) rfl (fun _ _ => .inl (by simp)) harr⟩
      | outgrown => exact ⟨_, a₁, w₁, ⟨ds', s', H', ha', hw', hq⟩, .pass (x := .inLoop c) rfl (fun _ _ => .inl (by simp)) harr⟩
  obtain ⟨e, a', w', hq, harr⟩ := key _ x0 ds a w rfl hI (ha.le hs) (hH _ w hw)
  exact ⟨e, a', w', hq, .of_steps (.one step_loop) harr⟩
/-- An iterator of K rounds, whatever each round makes of what is held. -/
def It (P : Program) (G : Ctx) (gf : FuncId) (lb : Array Value) (K : Nat) (enc : Nat → Array Value) (D : List Ent → Prop) : Prop :=
  Callee P gf ∧ ∀ (l : Nat) (E : Nat → List Ent), (∀ k, D (E k)) →
    (∀ k, k < K → ∀ T w m, Holds G (E k ++ T) w → YieldAt (FW none) m P l (enc k) w fun e w' => e = .returned (.bool true) ∧ Holds G (E (k + 1) ++ T) w') →
    ∀ w m, Holds G (E 0) w → CallsIn (FW none) m P gf (#[.func (.yield l) #[] #[]] ++ lb) w fun e w' => (∃ v, e = .returned v) ∧ Holds G (E K) w'
/-- The slots of a round's values. -/
def zips : Fm → List (Nat × Value) → Fm
  | s, [] => s
  | s, (p, v) :: r => zips ((p, v) :: s) r
theorem Fr.zips {n : Sz} : ∀ (l : List (Nat × Value)) {s : Fm} {a : Act}, Fr n s a → (l.all fun x => Nat.blt x.1 n.n) = true → Fr n (Sx.zips s l) { a with tmps := l.foldl (fun t (p, v) => t.setIfInBounds p v) a.tmps }
  | [], _, _, h, _ => h
  | (p, v) :: r, s, a, h, hl => by
    rw [List.all_cons, Bool.and_eq_true] at hl
    exact Fr.zips r (a := a.put (some p) v) (h.put (some p) v (show okDst n (some p) = true from hl.1)) hl.2
theorem Holds.mid {G : Ctx} {A B C : List Ent} {w : World} (h : Holds G (A ++ (B ++ C)) w) : Holds G (B ++ (A ++ C)) w := h.perm (by
  rw [← List.append_assoc, ← List.append_assoc]
  exact (List.perm_append_comm).append_right C)
theorem Holds.put {G : Ctx} {H : List Ent} {w : World} {b : Nat} {o : Obj} (h : Holds G (.obj b o :: H) w) (o' : Obj) : Holds G (.obj b o' :: H) (w.putObj b o') := h.setObj o'
theorem Holds.front {G : Ctx} {A C : List Ent} {x : Ent} {w : World} (h : Holds G (A ++ x :: C) w) : Holds G (x :: (A ++ C)) w := h.perm List.perm_middle
theorem Holds.back {G : Ctx} {A C : List Ent} {x : Ent} {w : World} (h : Holds G (x :: (A ++ C)) w) : Holds G (A ++ x :: C) w := h.perm List.perm_middle.symm
/-- A range over a function, its rounds never leaving it. -/
theorem si_rf {g : Operand} {ps : Array Tmp} {assign body : Code} {gf : FuncId} {lb : Array Value} {K : Nat} {enc : Nat → Array Value} {D : List Ent → Prop} (F : Nat → List Ent)
    (hg : ev s g = some (.func (.func gf) #[] lb)) (hit : It P G gf lb K enc D) (hps : ∀ k, (enc k).size = ps.size) (hp : ∀ k, ((ps.zip (enc k)).toList.all fun x => Nat.blt x.1 N) = true)
    (h0 : ∀ T w, Holds G (H ++ T) w → Holds G (F 0 ++ T) w) (hD : ∀ k X T, D (X :: (F k ++ T)))
    (round : ∀ k l T, k < K → SI P G N (some l) T assign (fun e s1 H1 => e = .normal ∧ ∀ T', SI P G N (some l) T' body (fun e' _ H2 => e' = .normal ∧ ∀ T w, Holds G (H2 ++ T) w → Holds G (F (k + 1) ++ T) w) s1 H1) (zips s (ps.zip (enc k)).toList) (F k))
    (hq : AtQ Q .normal s (F K)) : SI P G N none H0 (.rangeFunc g ps assign body) Q s H := fun ds a w m ha hw => by
  refine wpIn_rangeFunc ?_
  intro fn hfn
  obtain ⟨rec, hrec⟩ : ∃ rec : LoopState → Option Code → Loop, rec = fun st pe => { state := st, pending := pe, fn, tmps := a.tmps, params := ps, assign, body, defers := w.heap.size } := ⟨_, rfl⟩
  obtain ⟨W1, hW1⟩ : ∃ W1, (w.alloc (.deferred (some []))).alloc (.loop (rec .ready none)) = W1 := ⟨_, rfl⟩
  have hw0 : Holds G (.obj w.heap.size (.deferred (some [])) :: (F 0 ++ (dsE ds ++ H0))) (w.alloc (.deferred (some []))) :=
    (h0 _ _ hw).obj (by simp) (World.alloc_heap_new w _) (fun k hk => Below.heap_alloc w _ k hk) rfl rfl rfl
  have hw1 : Holds G (.obj (w.heap.size + 1) (.loop (rec .ready none)) :: .obj w.heap.size (.deferred (some [])) :: (F 0 ++ (dsE ds ++ H0))) W1 := by
    have h := hw0.obj (w' := W1) (o := .loop (rec .ready none)) (by rw [← hW1]; simp) (by rw [← hW1]; exact World.alloc_heap_new _ _) (fun k hk => by rw [← hW1]; exact Below.heap_alloc _ _ k hk) (by rw [← hW1]; rfl) (by rw [← hW1]; rfl) (by rw [← hW1]; rfl)
    rwa [show (w.alloc (.deferred (some []))).heap.size = w.heap.size + 1 from by simp] at h
  obtain ⟨L, hL⟩ : ∃ L, dsE ds ++ H0 = L := ⟨_, rfl⟩
  have hev : a.eval g = .func (.func gf) #[] lb := ha.ev hg
  refine ⟨w.heap.size + 1, [{ target := .collected w.heap.size, args := #[] }], W1, { target := .fn (.func gf) lb, args := #[.func (.yield (w.heap.size + 1)) #[] #[]] }, W1, gf,
    #[.func (.yield (w.heap.size + 1)) #[] #[]] ++ lb, W1, ?_, ?_, fun _ _ => trivial, ?_, fun e => Bool.noConfusion e, ?_⟩
  · rw [← hW1, hrec]; exact run_enterLoop_outer _ _ _ _ _
  · simp only [resolve, hev]
    simp [go_sem]
  · have := hit.1
    simp [invoke, go_sem, this _ _]
  · rw [hL] at hw1
    have hcall := hit.2 (w.heap.size + 1) (fun k => .obj (w.heap.size + 1) (.loop (rec .ready none)) :: (F k ++ (.obj w.heap.size (.deferred (some [])) :: L))) (fun k => hD k _ _) ?_ W1 (m - 1) (by
      exact hw1.perm (List.Perm.cons _ List.perm_middle.symm))
    · refine CallsIn.mono hcall ?_
      rintro e W2 ⟨⟨v, rfl⟩, hw2⟩
      have hl2 : W2.heap[w.heap.size + 1]? = some (.loop (rec .ready none)) := (hw2.ok _ List.mem_cons_self).2
      have h7 : (Instr.endLoop (w.heap.size + 1)).run P W2 = .ok none (W2.putObj (w.heap.size + 1) (.loop { rec .ready none with state := .exhausted })) := by
        have := run_endLoop (P := P) hl2 (by rw [hrec]; simp)
        rw [hrec] at this ⊢
        exact this
      refine ⟨none, _, h7, ?_⟩
      refine ⟨w.heap.size :: ds, s, F K, ⟨by simp [ha.defers], ha.size, ha.has⟩, ?_, hq⟩
      have h3 := (hw2.put (.loop { rec .ready none with state := .exhausted })).drop
      rw [← hL] at h3
      exact h3
    · intro k hk T W m' hw2
      have eT : ∀ k, (Ent.obj (w.heap.size + 1) (.loop (rec .ready none)) :: (F k ++ (.obj w.heap.size (.deferred (some [])) :: L))) ++ T = .obj (w.heap.size + 1) (.loop (rec .ready none)) :: (F k ++ (.obj w.heap.size (.deferred (some [])) :: (L ++ T))) := fun k => by
        rw [List.cons_append, List.append_assoc, List.cons_append]
      rw [eT] at hw2 ⊢
      clear eT
      generalize L ++ T = L at hw2 ⊢
      have hl2 : W.heap[w.heap.size + 1]? = some (.loop (rec .ready none)) := (hw2.ok _ List.mem_cons_self).2
      have hy := run_yield (P := P) (args := enc k) hl2 (by rw [hrec]; exact hps k)
      rw [hrec] at hy
      refine ⟨fn, _, assign, body, hy, roundIn_of_wpIn trivial ?_⟩
      have hfr : Fr ⟨N, []⟩ (zips s (ps.zip (enc k)).toList) { tmps := (ps.zip (enc k)).foldl (fun t (p, v) => t.setIfInBounds p v) a.tmps, defers := [] } := by
        have h9 := Fr.zips (n := ⟨N, []⟩) (ps.zip (enc k)).toList (s := s) (a := { tmps := a.tmps, defers := [] }) ⟨rfl, ha.size, ha.has⟩ (hp k)
        rw [Array.foldl_toList] at h9
        exact h9
      have hra := round k (w.heap.size + 1) (.obj (w.heap.size + 1) (.loop (rec .ready none)) :: .obj w.heap.size (.deferred (some [])) :: L) hk [] _ W m' hfr (by
        refine hw2.perm ?_
        exact List.perm_middle.symm)
      refine wpIn_mono hra ?_
      rintro e a1 W3 ⟨ds1, s1, H1, ha1, hw3, rfl, hb⟩
      have hw4 : Holds G (.obj (w.heap.size + 1) (.loop (rec .ready none)) :: (H1 ++ (dsE ds1 ++ (.obj w.heap.size (.deferred (some [])) :: L)))) W3 := by
        refine hw3.perm ?_
        rw [← List.append_assoc, ← List.append_assoc]
        exact List.perm_middle
      have hl4 := (hw4.ok _ List.mem_cons_self).2
      refine ⟨_, run_beginRound hl4 (by rw [hrec]), ?_⟩
      have hw5 := hw4.put (.loop { rec .ready none with state := .busy })
      refine wpIn_mono (hb (.obj (w.heap.size + 1) (.loop { rec .ready none with state := .busy }) :: .obj w.heap.size (.deferred (some [])) :: L) ds1 a1 _ m' ha1 (by
        refine hw5.perm ?_
        rw [← List.append_assoc, ← List.append_assoc]
        exact List.perm_middle.symm)) ?_
      rintro e a2 W5 ⟨ds2, s2, H2, ha2, hw6, rfl, hf⟩
      have hw7 := hf _ _ hw6
      have hw8 : Holds G (.obj (w.heap.size + 1) (.loop { rec .ready none with state := .busy }) :: (F (k + 1) ++ (.obj w.heap.size (.deferred (some [])) :: L))) W5 := by
        have h9 := hw7.mid
        have h10 := h9.sub (List.sublist_append_right _ _)
        exact h10.perm List.perm_middle
      have hl8 := (hw8.ok _ List.mem_cons_self).2
      have h7 : (Instr.endRound (w.heap.size + 1) none).run P W5 = .ok (.bool true) (W5.putObj (w.heap.size + 1) (.loop (rec .ready none))) := by
        have := run_endRound (P := P) none hl8
        rw [hrec] at this ⊢
        exact this
      exact ⟨_, _, h7, rfl, hw8.put _⟩
/-- What the end of a function owes whose results lie in slots. -/
def fpostI (P : Program) (rs : List ResultVar) (H0 : List Ent) (R : Value → List Ent → Prop) : Post
  | .normal, s, H | .ret, s, H => ∃ vs, Res s [] P rs vs ∧ R (resV vs) (H ++ H0)
  | _, _, _ => False
theorem leavesM {fn : Func} {rs : List ResultVar} {vs : List Value} {R : Ending → World → Prop} {a : Act} {n : Sz} {m : Nat} (hrs : fn.results = rs.toArray) (hr : Res s [] P rs vs) (ha : Fr n s a) {H0 : List Ent} (hR : ∀ w, Holds G (H ++ H0) w → R (.returned (resV vs)) w) :
    ∀ (ds : List Nat) (w : World), Holds G (H ++ (dsE ds ++ H0)) w → LeavesInM (FW none) m P fn a.tmps R (ds.map mkD) .returning w
  | [], w, hw => by
    have hw' : Holds G (H ++ H0) w := hw
    exact ⟨_, run_results hrs hr ha (hw'.sub (List.nil_sublist _)), hR _ hw'⟩
  | d :: ds, w, hw => by
    have hw1 : Holds G (.obj d (.deferred (some [])) :: (H ++ (dsE ds ++ H0))) w := hw.perm List.perm_middle
    have hd : w.heap[d]? = some (.deferred (some [])) := (hw1.ok _ List.mem_cons_self).2
    exact ⟨by simp, .inl ⟨_, _, rfl, run_takeDeferred hd, leavesM hrs hr ha hR ds _ (hw1.put (.deferred none)).drop⟩⟩
theorem callsIn_enterI {f : FuncId} {fn : Func} {c : Code} {args : List Value} {rs : List ResultVar} {R : Value → List Ent → Prop} {w : World} {m : Nat} (hf : P.funcs[f]? = some fn) (hb : fn.body = some c) (hnt : some fn.ntmps = some N) (hrs : fn.results = rs.toArray) (hl : Nat.ble args.length N = true)
    (h : SI P G N none H0 c (fpostI P rs H0 R) (ini args 0) H) (hw : Holds G (H ++ H0) w) : CallsIn (FW none) m P f args.toArray w fun e w' => ∃ v H', e = .returned v ∧ Holds G H' w' ∧ R v H' := by
  refine callsIn_of_wp_marks hf hb trivial ?_
  have hl' : args.length ≤ N := Nat.le_of_ble_eq_true hl
  refine wpIn_mono (h [] _ w m ⟨rfl, ?_, fun i v hi => ?_⟩ hw) fun e a' w' ⟨ds, s', H', ha', hw', hq⟩ => ?_
  · have hnt := Option.some.inj hnt
    simp [hnt]; omega
  · obtain ⟨-, h2⟩ := look_ini _ _ _ _ hi
    rw [Nat.sub_zero] at h2
    have hlt := (List.getElem?_eq_some_iff.1 h2).1
    simp only [Array.getD_eq_getD_getElem?, Array.getElem?_append, List.size_toArray, hlt, if_true, List.getElem?_toArray, h2, Option.getD_some]
  · have key : (∃ vs, Res s' [] P rs vs ∧ R (resV vs) (H' ++ H0)) → LeavesInM (FW none) m P fn a'.tmps (fun e w' => ∃ v H', e = .returned v ∧ Holds G H' w' ∧ R v H') a'.defers .returning w' := fun ⟨vs, h1, h2⟩ => by
      rw [ha'.defers]
      exact leavesM hrs h1 ha' (fun w2 hw2 => ⟨_, _, rfl, hw2, h2⟩) ds w' hw'
    cases e with
    | normal => exact key hq
    | ret => exact key hq
    | _ => exact hq.elim
theorem sc_enterI {f : FuncId} {fn : Func} {c : Code} {args : List Value} {rs : List ResultVar} {R : Value → List Ent → Prop} (hf : P.funcs[f]? = some fn) (hb : fn.body = some c) (hn : (fn.name == "runtime.NumGoroutine") = false) (hnt : some fn.ntmps = some N) (hrs : fn.results = rs.toArray) (hl : Nat.ble args.length N = true)
    (h : SI P G N none H0 c (fpostI P rs H0 R) (ini args 0) []) : SC P G f args H0 R := by
  refine ⟨callee_of hf hn (by rw [hb]; rfl), fun w hw => ?_⟩
  exact (callsIn_wide (n := 0)).1 (callsIn_enterI hf hb hnt hrs hl h hw)
theorem sv_enterI {f : FuncId} {fn : Func} {c : Code} {args : List Value} {rs : List ResultVar} {v : Value} (hf : P.funcs[f]? = some fn) (hb : fn.body = some c) (hn : (fn.name == "runtime.NumGoroutine") = false) (hnt : some fn.ntmps = some N) (hrs : fn.results = rs.toArray) (hl : Nat.ble args.length N = true)
    (h : SI P G N none H0 c (fpostI P rs H0 fun u H' => u = v ∧ ∃ X, H' = X ++ H0) (ini args 0) []) : SV P G f args H0 v := by
  have h1 := sc_enterI hf hb hn hnt hrs hl h
  refine ⟨h1.1, fun w hw => (h1.2 w hw).mono ?_⟩
  rintro e w' ⟨u, H', he, hw', hu, X, rfl⟩
  exact ⟨u, H0, he, hw'.sub (List.sublist_append_right _ _), hu, rfl⟩
theorem e_si {rs : List ResultVar} {vs : List Value} {v : Value} {e : Exit} {Q' : Fm → List Ent → Prop} {T L H : List Ent} [ht : TailC L T H] (he : e = .ret) (hr : res? s rs = some vs) (h : resV vs = v) : AtQ (QT (thn Q' (fpostI P rs H0 fun u H' => u = v ∧ ∃ X, H' = X ++ H0)) T) e s L := by
  subst he
  exact ⟨H, ht.here, vs, res?_of hr, h, H, rfl⟩
theorem e_si0 {rs : List ResultVar} {vs : List Value} {v : Value} {e : Exit} {T L H : List Ent} [ht : TailC L T H] (he : e = .normal ∨ e = .ret) (hr : res? s rs = some vs) (h : resV vs = v) : AtQ (QT (fpostI P rs H0 fun u H' => u = v ∧ ∃ X, H' = X ++ H0) T) e s L := by
  rcases he with rfl | rfl <;> exact ⟨H, ht.here, vs, res?_of hr, h, H, rfl⟩
/-- A region at whose end but some operations the yield stands. -/
theorem si_yield {id : Nat} {l1 l2 : List Oper} {o : Oper} {ops : Array Oper} {x : Operand} {xs : Array Operand} {ats : Array TypeId} {l d : Nat} {enc : List Value} {s' : Fm} {H' H2 : List Ent} (he : l1 ++ o :: l2 = ops.toList) (hd1 : l1.all noDef = true) (hd2 : l2.all noDef = true) (hq : ∀ s H, ¬ Q .outgrown s H)
    (h1 : ∀ ds T, SL P G ⟨N, ds⟩ ops (QT (fun e s1 H1 => e = .normal ∧ Le s' s1 ∧ ∀ w, Holds G (H1 ++ T) w → Holds G (H' ++ T) w) T) l1 s (H ++ T))
    (hg : o.guard = none) (ho : o.op = .call { callee := .value x, args := xs, argTypes := ats }) (hx : ev s' x = some (.func (.yield l) #[] #[])) (hxs : Evs s' xs.toList enc) (h1d : o.dst = some d) (h2d : Nat.blt d N = true)
    (hy : ∀ T w m, Holds G (H' ++ T) w → YieldAt (FW none) m P l enc.toArray w fun e w' => e = .returned (.bool true) ∧ Holds G (H2 ++ T) w')
    (h2 : ∀ ds T, SL P G ⟨N, ds⟩ ops (QT Q T) l2 ((d, .bool true) :: s') (H2 ++ T)) : SI P G N none H0 (.region id ops false) Q s H := fun ds a w k ha hw => by
  refine wpIn_region_list ?_
  rw [← he]
  refine li_app (Q1 := lift G ⟨N, ds.map mkD⟩ (QT (fun e s1 H1 => e = .normal ∧ Le s' s1 ∧ ∀ w, Holds G (H1 ++ (dsE ds ++ H0)) w → Holds G (H' ++ (dsE ds ++ H0)) w) (dsE ds ++ H0))) ?_ (fun c a' w' ⟨s1, L, _, _, H1, _, hc, _⟩ => by cases hc) (fun a' w' ⟨s1, L, _, _, H1, _, hc, _⟩ => by cases hc) l1 hd1 a w (h1 (ds.map mkD) (dsE ds ++ H0) a w ha hw)
  rintro a1 w1 ⟨s1, L, ha1, hw1, H1, rfl, -, hle, hH⟩
  have ha2 := ha1.le hle
  obtain ⟨fn, tmps, assign, body, hyr, hrd⟩ := hy _ w1 (k - 1) (hH _ hw1)
  refine wpListIn_plain hg fun K hK => ?_
  refine ⟨fun _ _ => trivial, ?_⟩
  have hev : a1.eval x = .func (.yield l) #[] #[] := ha2.ev hx
  have hmap : xs.map a1.eval = enc.toArray := by
    have := hxs.map ha2
    apply Array.toList_inj.1
    rw [Array.toList_map, this]
  have hrun : (o.semAt (FW none).round a1.eval).run P w1 = .ok (.round l fn tmps assign body) w1 := by
    show (execOp a1.eval o).run P w1 = _
    have e2 : execOp a1.eval o = (do let d ← Deferred.ofValue (a1.eval x) (xs.map a1.eval); invoke d.target d.args) := by
      cases o; simp only at ho; subst ho; rfl
    rw [e2, hev, hmap]
    simp only [Deferred.ofValue, invoke, Sem.run_bind, Sem.run_pure, Result.andThen_ok]
    simpa using hyr
  rw [hrun]
  refine ⟨fun e => Bool.noConfusion e, hrd.mono ?_⟩
  rintro e w2 ⟨rfl, hw2⟩
  refine hK _ _ ?_
  have h9 := h2 (ds.map mkD) (dsE ds ++ H0) (a1.put (some d) (.bool true)) w2 (ha2.put (some d) _ h2d) hw2
  have h10 := li_app (ro := none) (k := k) (Q := liftI G N H0 Q) (l2 := []) (fun a' w' ⟨s', L, ha', hw', H', e, hq'⟩ => by subst e; exact ⟨ds, s', H', ha', hw', hq'⟩)
    (fun c a' w' ⟨s', L, ha', hw', H', e, hq'⟩ => by subst e; exact ⟨ds, s', H', ha', hw', hq'⟩) (fun a' w' ⟨s', L, ha', hw', H', e, hq'⟩ => hq _ _ hq') l2 hd2 _ _ h9
  rw [List.append_nil] at h10
  rw [h1d]
  exact h10
end
end Go.Sx
end
section
namespace Go.Proofs.YtflmckoolagikaaDoor
open Go Go.RowKit Go.Fw Go.Sx
set_option maxRecDepth 100000
set_option maxHeartbeats 1000000
attribute [local irreducible] SW SL SQ AtQ SV SC BB LD PK Yields SO SOT SOA SY SI
theorem envBack_sc (G : Ctx) (H : List Ent) (a : Option Addr) (n c : Nat) : SC Tryd.prog G 54 [.slice a n c] H (fun v H' => ∃ b, v = .func (.func 102) #[] #[.pointer (some ⟨b, 0, none⟩)] ∧ H' = .blk b 47 [.slice a n c] :: H) := by
  refine sc_enter1 Tryd.func54 rfl rfl rfl rfl rfl ?_
  repeat' (first | (apply g_sl; first | (apply ks_nil; refine sl_nil ?_) | (apply ks_asgn; refine s_asgn rfl rfl ?_) | (apply ks_box; refine c_box rfl rfl rfl rfl rfl rfl (fun _ => ?_)) | first | (refine s_mkfn (y_mkfn rfl rfl rfl) rfl ?_) | (refine c_box rfl rfl rfl rfl rfl rfl (fun _ => ?_))) | (apply sw_seq) | (apply at_srd) | (apply sw_skip) | (apply sw_ret) | (apply sw_exit) | (apply sw_block) | (apply sw_region) | (refine sw_cd rfl ?_; first | (apply gd_t) | (apply gd_ft) | (apply gd_tf) | (apply gd_dec_t <;> intro hq <;> (try (exfalso; omega))) | (apply gd_dec_f <;> intro hq <;> (try (exfalso; omega))) | (apply gd_beq_t <;> intro hq <;> (try (exfalso; omega))) | (apply gd_beq_f <;> intro hq <;> (try (exfalso; omega))) | (apply gd_bne_t <;> intro hq <;> (try (exfalso; omega))) | (apply gd_bne_f <;> intro hq <;> (try (exfalso; omega))) | (apply gd_not_t <;> intro hq) | (apply gd_not_f <;> intro hq) | (apply gd_raw_t <;> intro hq) | (apply gd_raw_f <;> intro hq)) | (apply at_thn) | (apply at_thn_ret) | (apply at_thn_exit) | (apply at_inb) | (apply at_inb_ret) | (apply at_inb_exit) | refine at_inb_pass rfl ?_ | refine c_drawn (by kernel_rfl) ?_)
  exact e_sc _ (.inr rfl) rfl (List.Sublist.refl _) ⟨_, rfl, rfl⟩
/-- What the rounds are handed. -/
def backE (L : List Vr) (k : Nat) : Array Value := #[.int .i64 ((L.length - 1 - k : Nat) : Int), vrV (L.getD (L.length - 1 - k) default)]
theorem envBack_it (G : Ctx) (L : List Vr) (b : Nat) (a : Option Addr) (n c : Nat) [h1 : ∀ H, RdC G H a (vrs L)] (hn : n = L.length) (hm : n ≤ 2000000) :
    It Tryd.prog G 102 #[.pointer (some ⟨b, 0, none⟩)] n (backE L) (fun H => HasBlk H b 47 [.slice a n c]) := by
  refine ⟨callee_of Tryd.func102 rfl rfl, fun l E hD hY w m hw => ?_⟩
  have hlx : (vrs L).length = n * 4 := by rw [vrs_len, hn]
  have key : CallsIn (FW none) m Tryd.prog 102 ([.func (.yield l) #[] #[], .pointer (some ⟨b, 0, none⟩)] : List Value).toArray w fun e w' => ∃ v H', e = .returned v ∧ Holds G H' w' ∧ H' = E n ++ [] := by
    refine callsIn_enterI (H := E 0) (H0 := []) Tryd.func102 rfl rfl rfl rfl (R := fun _ H' => H' = E n ++ []) ?_ (by rwa [List.append_nil])
    have i0 : HasBlk (E 0) b 47 [.slice a n c] := hD 0
    apply si_seq
    apply si_sw
    intro ds T
    repeat' (first | (apply g_sl; first | (apply ks_nil; refine sl_nil ?_) | (apply ks_move; refine s_move rfl rfl ?_) | (apply ks_bin; refine s_bin rfl rfl rfl ?_; first | fail | (first | (apply kb_sub; first | refine bb_sub ⟨by omega, by omega⟩ ?_ | refine bb_of rfl ?_) | refine bb_of rfl ?_)) | (apply ks_load; first | (refine s_load rfl rfl ?_; first | refine ld_cell rfl ?_ | refine ld_whole rfl ?_ | refine ld_elem rfl ?_ | refine ld_part rfl rfl ?_) | fail) | (apply ks_asgn; refine s_asgn rfl rfl ?_) | (apply ks_un; refine s_un (y_un rfl rfl rfl) rfl ?_) | (apply ks_indexA; first | refine s_indexA (c_indexAddr rfl rfl rfl rfl (by omega) (by omega)) rfl ?_ | fail) | (apply ks_fn; first | fail) | (apply ks_bi; first | fail | refine s_call (c_len rfl rfl) rfl ?_ | refine s_call (c_len_str rfl rfl) rfl ?_ | refine s_call (c_bi rfl rfl rfl rfl) rfl ?_ | refine c_append rfl rfl rfl rfl (by first | rfl | simp [ints]) (by first | rfl | exact ints_one _ | exact octs_one _ | exact strs_one _) (by omega) rfl rfl (fun _ _ => ?_) | refine c_append_nil rfl rfl rfl rfl (by first | rfl | simp [ints]) (by first | rfl | exact ints_one _ | exact octs_one _ | exact strs_one _) (by omega) rfl rfl (fun _ _ => ?_)) | fail) | (apply sw_seq) | (apply at_srd) | (apply sw_skip) | (apply sw_ret) | (apply sw_exit) | (apply sw_block) | (apply sw_region) | (refine sw_cd rfl ?_; first | (apply gd_t) | (apply gd_ft) | (apply gd_tf) | (apply gd_dec_t <;> intro hq <;> (try (exfalso; omega))) | (apply gd_dec_f <;> intro hq <;> (try (exfalso; omega))) | (apply gd_beq_t <;> intro hq <;> (try (exfalso; omega))) | (apply gd_beq_f <;> intro hq <;> (try (exfalso; omega))) | (apply gd_bne_t <;> intro hq <;> (try (exfalso; omega))) | (apply gd_bne_f <;> intro hq <;> (try (exfalso; omega))) | (apply gd_not_t <;> intro hq) | (apply gd_not_f <;> intro hq) | (apply gd_raw_t <;> intro hq) | (apply gd_raw_f <;> intro hq)) | (apply at_thn) | (apply at_thn_ret) | (apply at_thn_exit) | (apply at_inb) | (apply at_inb_ret) | (apply at_inb_exit) | refine at_inb_pass rfl ?_ | refine c_drawn (by kernel_rfl) ?_)
    refine at_qt (at_round ?_)
    apply si_block
    refine si_loop (α := Nat) (fun k => [(0, .func (.yield l) #[] #[]), (1, .pointer (some ⟨b, 0, none⟩)), (3, .int .i64 ((n : Int) - 1 - k))]) E (fun k => k ≤ n) (fun k => n - k) 0 (Nat.zero_le _) (by repeat (first | exact Le.nil _ | refine Le.cons (by first | rfl | (exact congrArg some (congrArg (Value.int _) (by omega)))) ?_)) (fun _ _ h => h) ?_
    clear i0 ds T
    intro k hk
    have ik : HasBlk (E k) b 47 [.slice a n c] := hD k
    by_cases hlt : k < n
    · obtain ⟨x, hx⟩ := get_of (X := L) (k := n - 1 - k) (by omega)
      have hxi : take? ((vrs L).drop (((n : Int) - 1 - k).toNat * 4)) 4 = some (vrC x) := by
        rw [show ((n : Int) - 1 - k).toNat = n - 1 - k from by omega]
        exact fm_elem hx
      have hen : backE L k = (([.int .i64 ((n : Int) - 1 - k), vrV x] : List Value)).toArray := by
        unfold backE
        rw [← hn, List.getD_eq_getElem?_getD, hx, show (((n - 1 - k : Nat) : Int)) = (n : Int) - 1 - k from by omega]
        rfl
      have hyk := hY k hlt
      rw [hen] at hyk
      clear hY hD hen hx
      apply si_seq
      apply si_sw
      intro ds T
      repeat' (first | (apply g_sl; first | (apply ks_nil; refine sl_nil ?_) | (apply ks_move; refine s_move rfl rfl ?_) | (apply ks_bin; refine s_bin rfl rfl rfl ?_; first | fail | (first | (apply kb_sub; first | refine bb_sub ⟨by omega, by omega⟩ ?_ | refine bb_of rfl ?_) | refine bb_of rfl ?_)) | (apply ks_load; first | (refine s_load rfl rfl ?_; first | refine ld_cell rfl ?_ | refine ld_whole rfl ?_ | refine ld_elem rfl ?_ | refine ld_part rfl rfl ?_) | fail) | (apply ks_asgn; refine s_asgn rfl rfl ?_) | (apply ks_un; refine s_un (y_un rfl rfl rfl) rfl ?_) | (apply ks_indexA; first | refine s_indexA (c_indexAddr rfl rfl rfl rfl (by omega) (by omega)) rfl ?_ | fail) | (apply ks_fn; first | fail) | (apply ks_bi; first | fail | refine s_call (c_len rfl rfl) rfl ?_ | refine s_call (c_len_str rfl rfl) rfl ?_ | refine s_call (c_bi rfl rfl rfl rfl) rfl ?_ | refine c_append rfl rfl rfl rfl (by first | rfl | simp [ints]) (by first | rfl | exact ints_one _ | exact octs_one _ | exact strs_one _) (by omega) rfl rfl (fun _ _ => ?_) | refine c_append_nil rfl rfl rfl rfl (by first | rfl | simp [ints]) (by first | rfl | exact ints_one _ | exact octs_one _ | exact strs_one _) (by omega) rfl rfl (fun _ _ => ?_)) | fail) | (apply sw_seq) | (apply at_srd) | (apply sw_skip) | (apply sw_ret) | (apply sw_exit) | (apply sw_block) | (apply sw_region) | (refine sw_cd rfl ?_; first | (apply gd_t) | (apply gd_ft) | (apply gd_tf) | (apply gd_dec_t <;> intro hq <;> (try (exfalso; omega))) | (apply gd_dec_f <;> intro hq <;> (try (exfalso; omega))) | (apply gd_beq_t <;> intro hq <;> (try (exfalso; omega))) | (apply gd_beq_f <;> intro hq <;> (try (exfalso; omega))) | (apply gd_bne_t <;> intro hq <;> (try (exfalso; omega))) | (apply gd_bne_f <;> intro hq <;> (try (exfalso; omega))) | (apply gd_not_t <;> intro hq) | (apply gd_not_f <;> intro hq) | (apply gd_raw_t <;> intro hq) | (apply gd_raw_f <;> intro hq)) | (apply at_thn) | (apply at_thn_ret) | (apply at_thn_exit) | (apply at_inb) | (apply at_inb_ret) | (apply at_inb_exit) | refine at_inb_pass rfl ?_ | refine c_drawn (by kernel_rfl) ?_)
      refine at_qt (at_round ?_)
      clear ds T
      apply si_seq
      apply si_block
      apply si_seq
      refine si_yield (l1 := [_, _, _, _, _, _]) (l2 := [_]) (s' := [(11, .func (.yield l) #[] #[]), (12, .int .i64 ((n : Int) - 1 - k)), (16, vrV x), (0, .func (.yield l) #[] #[]), (1, .pointer (some ⟨b, 0, none⟩)), (3, .int .i64 ((n : Int) - 1 - k))]) (H' := E k) (H2 := E (k + 1)) (enc := [.int .i64 ((n : Int) - 1 - k), vrV x]) rfl rfl rfl (fun _ _ h => h) ?_ rfl rfl rfl (evs_of rfl) rfl rfl (fun T w m h => hyk T w m h) ?_
      · intro ds T
        repeat' (first | (apply g_sl; first | (apply ks_nil; refine sl_nil ?_) | (apply ks_move; refine s_move rfl rfl ?_) | (apply ks_bin; refine s_bin rfl rfl rfl ?_; first | first | (refine s_indexA (c_indexAddr rfl rfl rfl hlx (by omega) (by omega)) rfl ?_) | (refine s_load rfl rfl ?_; refine ld_elems hxi rfl ?_) | (first | (apply kb_sub; first | refine bb_sub ⟨by omega, by omega⟩ ?_ | refine bb_of rfl ?_) | refine bb_of rfl ?_)) | (apply ks_load; first | (refine s_load rfl rfl ?_; first | refine ld_cell rfl ?_ | refine ld_whole rfl ?_ | refine ld_elem rfl ?_ | refine ld_part rfl rfl ?_) | first | (refine s_indexA (c_indexAddr rfl rfl rfl hlx (by omega) (by omega)) rfl ?_) | (refine s_load rfl rfl ?_; refine ld_elems hxi rfl ?_)) | (apply ks_asgn; refine s_asgn rfl rfl ?_) | (apply ks_un; refine s_un (y_un rfl rfl rfl) rfl ?_) | (apply ks_indexA; first | refine s_indexA (c_indexAddr rfl rfl rfl rfl (by omega) (by omega)) rfl ?_ | first | (refine s_indexA (c_indexAddr rfl rfl rfl hlx (by omega) (by omega)) rfl ?_) | (refine s_load rfl rfl ?_; refine ld_elems hxi rfl ?_)) | (apply ks_fn; first | fail) | (apply ks_bi; first | first | (refine s_indexA (c_indexAddr rfl rfl rfl hlx (by omega) (by omega)) rfl ?_) | (refine s_load rfl rfl ?_; refine ld_elems hxi rfl ?_) | refine s_call (c_len rfl rfl) rfl ?_ | refine s_call (c_len_str rfl rfl) rfl ?_ | refine s_call (c_bi rfl rfl rfl rfl) rfl ?_ | refine c_append rfl rfl rfl rfl (by first | rfl | simp [ints]) (by first | rfl | exact ints_one _ | exact octs_one _ | exact strs_one _) (by omega) rfl rfl (fun _ _ => ?_) | refine c_append_nil rfl rfl rfl rfl (by first | rfl | simp [ints]) (by first | rfl | exact ints_one _ | exact octs_one _ | exact strs_one _) (by omega) rfl rfl (fun _ _ => ?_)) | first | (refine s_indexA (c_indexAddr rfl rfl rfl hlx (by omega) (by omega)) rfl ?_) | (refine s_load rfl rfl ?_; refine ld_elems hxi rfl ?_)) | (apply sw_seq) | (apply at_srd) | (apply sw_skip) | (apply sw_ret) | (apply sw_exit) | (apply sw_block) | (apply sw_region) | (refine sw_cd rfl ?_; first | (apply gd_t) | (apply gd_ft) | (apply gd_tf) | (apply gd_dec_t <;> intro hq <;> (try (exfalso; omega))) | (apply gd_dec_f <;> intro hq <;> (try (exfalso; omega))) | (apply gd_beq_t <;> intro hq <;> (try (exfalso; omega))) | (apply gd_beq_f <;> intro hq <;> (try (exfalso; omega))) | (apply gd_bne_t <;> intro hq <;> (try (exfalso; omega))) | (apply gd_bne_f <;> intro hq <;> (try (exfalso; omega))) | (apply gd_not_t <;> intro hq) | (apply gd_not_f <;> intro hq) | (apply gd_raw_t <;> intro hq) | (apply gd_raw_f <;> intro hq)) | (apply at_thn) | (apply at_thn_ret) | (apply at_thn_exit) | (apply at_inb) | (apply at_inb_ret) | (apply at_inb_exit) | refine at_inb_pass rfl ?_ | refine c_drawn (by kernel_rfl) ?_)
        exact at_qt (at_mk ⟨rfl, (by repeat (first | exact Le.nil _ | refine Le.cons (by first | rfl | (exact congrArg some (congrArg (Value.int _) (by omega)))) ?_)), fun _ h => h⟩)
      · intro ds T
        repeat' (first | (apply g_sl; first | (apply ks_nil; refine sl_nil ?_) | (apply ks_move; refine s_move rfl rfl ?_) | (apply ks_bin; refine s_bin rfl rfl rfl ?_; first | fail | (first | (apply kb_sub; first | refine bb_sub ⟨by omega, by omega⟩ ?_ | refine bb_of rfl ?_) | refine bb_of rfl ?_)) | (apply ks_load; first | (refine s_load rfl rfl ?_; first | refine ld_cell rfl ?_ | refine ld_whole rfl ?_ | refine ld_elem rfl ?_ | refine ld_part rfl rfl ?_) | fail) | (apply ks_asgn; refine s_asgn rfl rfl ?_) | (apply ks_un; refine s_un (y_un rfl rfl rfl) rfl ?_) | (apply ks_indexA; first | refine s_indexA (c_indexAddr rfl rfl rfl rfl (by omega) (by omega)) rfl ?_ | fail) | (apply ks_fn; first | fail) | (apply ks_bi; first | fail | refine s_call (c_len rfl rfl) rfl ?_ | refine s_call (c_len_str rfl rfl) rfl ?_ | refine s_call (c_bi rfl rfl rfl rfl) rfl ?_ | refine c_append rfl rfl rfl rfl (by first | rfl | simp [ints]) (by first | rfl | exact ints_one _ | exact octs_one _ | exact strs_one _) (by omega) rfl rfl (fun _ _ => ?_) | refine c_append_nil rfl rfl rfl rfl (by first | rfl | simp [ints]) (by first | rfl | exact ints_one _ | exact octs_one _ | exact strs_one _) (by omega) rfl rfl (fun _ _ => ?_)) | fail) | (apply sw_seq) | (apply at_srd) | (apply sw_skip) | (apply sw_ret) | (apply sw_exit) | (apply sw_block) | (apply sw_region) | (refine sw_cd rfl ?_; first | (apply gd_t) | (apply gd_ft) | (apply gd_tf) | (apply gd_dec_t <;> intro hq <;> (try (exfalso; omega))) | (apply gd_dec_f <;> intro hq <;> (try (exfalso; omega))) | (apply gd_beq_t <;> intro hq <;> (try (exfalso; omega))) | (apply gd_beq_f <;> intro hq <;> (try (exfalso; omega))) | (apply gd_bne_t <;> intro hq <;> (try (exfalso; omega))) | (apply gd_bne_f <;> intro hq <;> (try (exfalso; omega))) | (apply gd_not_t <;> intro hq) | (apply gd_not_f <;> intro hq) | (apply gd_raw_t <;> intro hq) | (apply gd_raw_f <;> intro hq)) | (apply at_thn) | (apply at_thn_ret) | (apply at_thn_exit) | (apply at_inb) | (apply at_inb_ret) | (apply at_inb_exit) | refine at_inb_pass rfl ?_ | refine c_drawn (by kernel_rfl) ?_)
        refine at_qt (at_round ?_)
        clear ds T
        refine si_cond (t := false) rfl (fun e => Bool.noConfusion e) (fun _ => ?_)
        apply si_skip
        apply at_inb
        apply at_round
        apply si_sw
        intro ds T
        repeat' (first | (apply g_sl; first | (apply ks_nil; refine sl_nil ?_) | (apply ks_move; refine s_move rfl rfl ?_) | (apply ks_bin; refine s_bin rfl rfl rfl ?_; first | fail | (first | (apply kb_sub; first | refine bb_sub ⟨by omega, by omega⟩ ?_ | refine bb_of rfl ?_) | refine bb_of rfl ?_)) | (apply ks_load; first | (refine s_load rfl rfl ?_; first | refine ld_cell rfl ?_ | refine ld_whole rfl ?_ | refine ld_elem rfl ?_ | refine ld_part rfl rfl ?_) | fail) | (apply ks_asgn; refine s_asgn rfl rfl ?_) | (apply ks_un; refine s_un (y_un rfl rfl rfl) rfl ?_) | (apply ks_indexA; first | refine s_indexA (c_indexAddr rfl rfl rfl rfl (by omega) (by omega)) rfl ?_ | fail) | (apply ks_fn; first | fail) | (apply ks_bi; first | fail | refine s_call (c_len rfl rfl) rfl ?_ | refine s_call (c_len_str rfl rfl) rfl ?_ | refine s_call (c_bi rfl rfl rfl rfl) rfl ?_ | refine c_append rfl rfl rfl rfl (by first | rfl | simp [ints]) (by first | rfl | exact ints_one _ | exact octs_one _ | exact strs_one _) (by omega) rfl rfl (fun _ _ => ?_) | refine c_append_nil rfl rfl rfl rfl (by first | rfl | simp [ints]) (by first | rfl | exact ints_one _ | exact octs_one _ | exact strs_one _) (by omega) rfl rfl (fun _ _ => ?_)) | fail) | (apply sw_seq) | (apply at_srd) | (apply sw_skip) | (apply sw_ret) | (apply sw_exit) | (apply sw_block) | (apply sw_region) | (refine sw_cd rfl ?_; first | (apply gd_t) | (apply gd_ft) | (apply gd_tf) | (apply gd_dec_t <;> intro hq <;> (try (exfalso; omega))) | (apply gd_dec_f <;> intro hq <;> (try (exfalso; omega))) | (apply gd_beq_t <;> intro hq <;> (try (exfalso; omega))) | (apply gd_beq_f <;> intro hq <;> (try (exfalso; omega))) | (apply gd_bne_t <;> intro hq <;> (try (exfalso; omega))) | (apply gd_bne_f <;> intro hq <;> (try (exfalso; omega))) | (apply gd_not_t <;> intro hq) | (apply gd_not_f <;> intro hq) | (apply gd_raw_t <;> intro hq) | (apply gd_raw_f <;> intro hq)) | (apply at_thn) | (apply at_thn_ret) | (apply at_thn_exit) | (apply at_inb) | (apply at_inb_ret) | (apply at_inb_exit) | refine at_inb_pass rfl ?_ | refine c_drawn (by kernel_rfl) ?_)
        exact at_qt (at_round ⟨k + 1, by omega, by omega, (by repeat (first | exact Le.nil _ | refine Le.cons (by first | rfl | (exact congrArg some (congrArg (Value.int _) (by omega)))) ?_)), fun _ _ h => h⟩)
    · obtain rfl : k = n := by omega
      apply si_seq
      apply si_sw
      intro ds T
      repeat' (first | (apply g_sl; first | (apply ks_nil; refine sl_nil ?_) | (apply ks_move; refine s_move rfl rfl ?_) | (apply ks_bin; refine s_bin rfl rfl rfl ?_; first | fail | (first | (apply kb_sub; first | refine bb_sub ⟨by omega, by omega⟩ ?_ | refine bb_of rfl ?_) | refine bb_of rfl ?_)) | (apply ks_load; first | (refine s_load rfl rfl ?_; first | refine ld_cell rfl ?_ | refine ld_whole rfl ?_ | refine ld_elem rfl ?_ | refine ld_part rfl rfl ?_) | fail) | (apply ks_asgn; refine s_asgn rfl rfl ?_) | (apply ks_un; refine s_un (y_un rfl rfl rfl) rfl ?_) | (apply ks_indexA; first | refine s_indexA (c_indexAddr rfl rfl rfl rfl (by omega) (by omega)) rfl ?_ | fail) | (apply ks_fn; first | fail) | (apply ks_bi; first | fail | refine s_call (c_len rfl rfl) rfl ?_ | refine s_call (c_len_str rfl rfl) rfl ?_ | refine s_call (c_bi rfl rfl rfl rfl) rfl ?_ | refine c_append rfl rfl rfl rfl (by first | rfl | simp [ints]) (by first | rfl | exact ints_one _ | exact octs_one _ | exact strs_one _) (by omega) rfl rfl (fun _ _ => ?_) | refine c_append_nil rfl rfl rfl rfl (by first | rfl | simp [ints]) (by first | rfl | exact ints_one _ | exact octs_one _ | exact strs_one _) (by omega) rfl rfl (fun _ _ => ?_)) | fail) | (apply sw_seq) | (apply at_srd) | (apply sw_skip) | (apply sw_ret) | (apply sw_exit) | (apply sw_block) | (apply sw_region) | (refine sw_cd rfl ?_; first | (apply gd_t) | (apply gd_ft) | (apply gd_tf) | (apply gd_dec_t <;> intro hq <;> (try (exfalso; omega))) | (apply gd_dec_f <;> intro hq <;> (try (exfalso; omega))) | (apply gd_beq_t <;> intro hq <;> (try (exfalso; omega))) | (apply gd_beq_f <;> intro hq <;> (try (exfalso; omega))) | (apply gd_bne_t <;> intro hq <;> (try (exfalso; omega))) | (apply gd_bne_f <;> intro hq <;> (try (exfalso; omega))) | (apply gd_not_t <;> intro hq) | (apply gd_not_f <;> intro hq) | (apply gd_raw_t <;> intro hq) | (apply gd_raw_f <;> intro hq)) | (apply at_thn) | (apply at_thn_ret) | (apply at_thn_exit) | (apply at_inb) | (apply at_inb_ret) | (apply at_inb_exit) | refine at_inb_pass rfl ?_ | refine c_drawn (by kernel_rfl) ?_)
      refine at_qt ?_
      apply at_thn_exit
      apply at_thn_exit
      apply at_inb_exit
      exact at_mk ⟨[], .nil, rfl⟩
  refine CallsIn.mono key ?_
  rintro e w' ⟨v, H', rfl, hw', rfl⟩
  exact ⟨⟨v, rfl⟩, by rwa [List.append_nil] at hw'⟩
end Go.Proofs.YtflmckoolagikaaDoor
end
