/- Texts of this claim, merged: Par6 ParS Utf Width WidthSum Cut Utf2 Utf3 Utf4 ParT ParU. -/
import Derived.Test.YtflmckoolagikaaDoorPw3
import Derived.WalkKit
import Derived.WalkSpells
import Derived.WalkLawsBesides
import Derived.Handy
import Derived.Lib.Hide
import Derived.Laws.BitsAllLaws
import Derived.Deep.MidRow
import Derived.Deep.WholeRow
import Derived.BigQuiet
import Derived.Laws.CopyOwn
import Derived.Deep.QuietTactic
import Derived.Laws.AppendOwnNone
import Derived.Laws.MakeOwn
import Derived.Laws.IdiomStrings
import Derived.OrdersHeld
import Derived.Lib.SliceRun
import Derived.ChangeKeysEq
import Derived.Laws.CopyRow
import Derived.Lib.AppendStr
import Derived.ArgAppend
import Derived.Test.YtflmckoolagikaaDoorRows
import Derived.Lib.Replace
import Derived.Lib.Join
import Derived.Lib.IndexLaws
import Derived.Lib.IndexMore
import Derived.Lib.SplitLaws
import Derived.Shelf.Strings.Builder1
import Derived.Shelf.Strings.Builder2
import Derived.Shelf.Strings.OnBuilder
import Derived.Shelf.Strings.Trim
import Derived.Shelf.Small.Utf8
import Derived.Shelf.Small.Strs
import Derived.Shelf.Strings.BuilderF
import Derived.Shelf.Strconv.Atoi
import Derived.Shelf.Strconv.Itoa0
import Derived.Shelf.Strconv.Itoa1
import Derived.Shelf.LaysM
import Derived.Shelf.Strconv.Itoa2
import Derived.Shelf.Strconv.Itoa3
import Derived.Shelf.Strconv.AtoiErrFast
import Derived.Shelf.Strconv.ParseIntEmpty
import Derived.Shelf.Strconv.AtoiFail
import Derived.Shelf.Strconv.Clone
import Derived.Shelf.Strconv.SyntaxError
import Derived.Shelf.LaysC
import Derived.Shelf.Strconv.ToError
import Derived.Shelf.Strconv.AtoiErr
import Derived.Shelf.Strconv.Lower
import Derived.Shelf.Strconv.ParseUint10
import Derived.Shelf.Strconv.ParseUint10Empty
import Derived.Shelf.Strconv.ParseUint10Any
import Derived.Shelf.Strconv.ParseInt10
import Derived.Shelf.Strconv.AtoiLong
import Derived.Shelf.Strconv.AtoiInnerAll
import Derived.Shelf.Strconv.RangeError
import Derived.Shelf.Strconv.ToErrorRange
import Derived.Shelf.Strconv.AtoiAll
import Derived.Shelf.Strconv.ErrVarAll
import Derived.Shelf.Strings.Search1
import Derived.Shelf.Strings.Search2
import Derived.Shelf.Strings.Search3
import Derived.Shelf.Strings.Count
import Derived.Shelf.Strings.Shaped
import Derived.Shelf.Strings.Prefix
import Derived.Shelf.Strings.Split
import Derived.Shelf.Strings.Replace
import Derived.Shelf.Strings.SplitShaped
import Derived.Shelf.Strings.Runes
import Derived.Shelf.Strings.AsciiSet
import Derived.Shelf.Bits.Mul64
import Derived.Shelf.Strings.Repeat
import Derived.Shelf.Unicode.DecodeSlow
import Derived.Shelf.Unicode.DecodeAny
import Derived.Shelf.Slices.Equal
import Derived.Shelf.Unicode.ValidAny
import Derived.Test.YtflmckoolagikaaDoorProg
import Derived.Lib.Bytealg
import Derived.Lib.ItoaNum
import Derived.Lib.AppendIntMem
section
namespace Go.Proofs.YtflmckoolagikaaDoor
open Go Go.RowKit Go.Fw Go.Sx
set_option maxRecDepth 100000
set_option maxHeartbeats 4000000
/-- What ParseStep tells. -/
def StepR (G : Ctx) (H : List Ent) (Z : Ps × List Pa) (v : Value) (H' : List Ent) : Prop :=
  ∃ (F : List Ent) (X : List Ac) (a : Option Addr) (c : Nat), v = .tuple #[psV Z.1.1 Z.1.2.1 Z.1.2.2.1 Z.1.2.2.2.1 Z.1.2.2.2.2, .slice a X.length c] ∧ X.map plA = Z.2 ∧ (∀ y ∈ X, Sl ints G F y.2.2.2.2.1) ∧ Sl acs G F (a, c, X) ∧ H' = F ++ H
theorem stepR_nil {G : Ctx} {H H' : List Ent} {Z : Ps × List Pa} (s m : Int) (i g t : ByteArray) (F : List Ent) (hF : H' = F ++ H) (hZ : Z = ((s, m, i, g, t), [])) : StepR G H Z (.tuple #[psV s m i g t, .slice none 0 0]) H' := by
  subst hZ
  exact ⟨F, [], none, 0, rfl, rfl, (fun _ h => nomatch h), Sl.nil (f := acs) rfl, hF⟩
theorem stepR_one {G : Ctx} {H H' : List Ent} {Z : Ps × List Pa} (s m : Int) (i g t : ByteArray) (a : Option Addr) (y : Ac) (F : List Ent) (hF : H' = F ++ H) (hm : Ent.own 35 6 a 1 1 (acC y) ∈ F) (hy : y.2.2.2.2.1 = nA) (hZ : Z = ((s, m, i, g, t), [plA y])) : StepR G H Z (.tuple #[psV s m i g t, .slice a 1 1]) H' := by
  subst hZ
  exact ⟨F, [y], a, 1, rfl, rfl, (fun z hz => by rw [List.mem_singleton] at hz; subst hz; rw [hy]; exact Sl.nil rfl), Sl.own hm (by unfold acs; simp) rfl, hF⟩
theorem stepR_row {G : Ctx} {H H' : List Ent} {Z : Ps × List Pa} (s m : Int) (i g t : ByteArray) (a : Option Addr) (y : Ac) (F : List Ent) (hF : H' = F ++ H) (hm : Ent.own 35 6 a 1 1 (acC y) ∈ F) (hy : Sl ints G F y.2.2.2.2.1) (hZ : Z = ((s, m, i, g, t), [plA y])) : StepR G H Z (.tuple #[psV s m i g t, .slice a 1 1]) H' := by
  subst hZ
  exact ⟨F, [y], a, 1, rfl, rfl, (fun z hz => by rw [List.mem_singleton] at hz; subst hz; exact hy), Sl.own hm (by unfold acs; simp) rfl, hF⟩
theorem ite_len {c : Prop} [Decidable c] {a b : Ps × List Pa} (ha : a.2.length ≤ 1) (hb : b.2.length ≤ 1) : (if c then a else b).2.length ≤ 1 := by split <;> assumption
theorem step1_len (x : Int) : (step1 x).2.length ≤ 1 := by
  unfold step1 stepW
  repeat' (first | exact Nat.le_refl _ | exact Nat.zero_le _ | apply ite_len)
attribute [local irreducible] SW SL SQ AtQ SV SC BB LD PK Yields SO SOT SOA SY
theorem step_no (G : Ctx) (H : List Ent) (M : Int) (hM : ∀ H w, Holds G H w → w.cell? ⟨2, 0, none⟩ = some (.int .i64 M)) (s m : Int) (i g t : ByteArray) (x : Int) (R : Ps × List Pa) (hs : 0 ≤ s ∧ s ≤ 10) (hx : 0 ≤ x ∧ x ≤ 1114111) (hi : i.size ≤ 3) (hg : g.size ≤ 100) (ht : t.size ≤ 256) (hw : whatP s x ≠ 82) : SC Tryd.prog G 30 [psV s m i g t, .int .i64 x] H (StepR G H (stepW (s, m, i, g, t) x (whatQ s x) R)) := by
  have c1 := fun H => bet_sv G H x 0 1114111
  have c2 := fun H => stepTable_sv G H s
  have c3 := fun H => class_sv G H x
  have c4 := fun H => clsIx_sv G H x
  have c5 := fun (H : List Ent) (a : Option Addr) (c : Nat) (h : RdC G H a (ints [x])) (ho : x < 128) => bytes_sv G H [x] a 1 c rfl rfl (by simp) (fun y hy => by rw [List.mem_singleton] at hy; subst hy; unfold Oct; omega)
  have c6 := fun H => runeText_sv G H x hx
  have c7 := fun H => finalAct_sc G H M hM s m i g t x (by omega)
  have htl : (tabL s).length = 15 := by
    unfold tabL
    repeat' split
    all_goals rfl
  have hcl := clsN_lt x
  have hto : ∀ y ∈ tabL s, 0 ≤ y ∧ y ≤ 255 := by
    unfold tabL
    repeat' split
    all_goals decide
  have hv : (nums (strOfNums (tabL s))).getD ((clsN x : Nat) : Int).toNat 0 = whatP s x := by rw [nums_strOf hto]; rfl
  have htz : (strOfNums (tabL s)).size = 15 := by rw [strOfNums_size, htl]
  have hwQ : whatQ s x = if s = 0 ∧ whatP s x = 88 then 46 else whatP s x := rfl
  generalize strOfNums (tabL s) = T at *
  generalize clsN x = cn at *
  generalize whatP s x = w at *
  have HQ := Lib.hid hwQ
  clear hwQ hto htl
  refine sc_enter2 Tryd.func30 rfl rfl rfl rfl rfl ?_
  repeat' (first | (apply g_sl; first | (apply ks_nil; refine sl_nil ?_) | (apply ks_move; refine s_move rfl rfl ?_) | (apply ks_bin; refine s_bin rfl rfl rfl ?_; first | first | refine c_bsA rfl rfl rfl rfl rfl rfl rfl rfl rfl (fun _ => ?_) | (refine c_storew rfl rfl rfl rfl rfl rfl rfl rfl ?_) | (first | (apply kb_add; first | refine bb_add ⟨by omega, by omega⟩ ?_ | refine bb_of rfl ?_) | refine bb_of rfl ?_)) | (apply ks_load; first | (refine s_load rfl rfl ?_; first | refine ld_cell rfl ?_ | refine ld_whole rfl ?_ | refine ld_elem rfl ?_ | refine ld_part rfl rfl ?_) | first | refine c_bsA rfl rfl rfl rfl rfl rfl rfl rfl rfl (fun _ => ?_) | (refine c_storew rfl rfl rfl rfl rfl rfl rfl rfl ?_)) | (apply ks_asgn; refine s_asgn rfl rfl ?_) | (apply ks_pick; refine s_pick rfl rfl ?_; first | (apply kp_t; refine pk_t rfl ?_) | (apply kp_f; refine pk_f rfl ?_) | refine pk_s rfl rfl ?_) | (apply ks_field; first | refine s_field (c_field0 rfl rfl) rfl ?_ | refine s_field (c_field rfl rfl) rfl ?_) | (apply ks_un; refine s_un (y_un rfl rfl rfl) rfl ?_) | (apply ks_extr; refine s_extr (y_extract rfl rfl rfl) rfl ?_) | (apply ks_build; first | refine s_build (c_build rfl rfl rfl) rfl ?_ | first | refine c_bsA rfl rfl rfl rfl rfl rfl rfl rfl rfl (fun _ => ?_) | (refine c_storew rfl rfl rfl rfl rfl rfl rfl rfl ?_)) | (apply ks_index; first | first | refine c_bsA rfl rfl rfl rfl rfl rfl rfl rfl rfl (fun _ => ?_) | (refine c_storew rfl rfl rfl rfl rfl rfl rfl rfl ?_) | refine s_index (c_indexArr rfl rfl rfl (by omega) (by omega) rfl) rfl ?_ | refine s_index (c_indexArrA rfl rfl rfl (by omega) (by omega) rfl) rfl ?_ | refine s_index (c_indexStr rfl rfl rfl (by omega) rfl) rfl ?_) | (apply ks_fn; first | first | refine c_callv rfl rfl rfl (c1 _) rfl rfl ?_) | (apply ks_bi; first | first | refine c_bsA rfl rfl rfl rfl rfl rfl rfl rfl rfl (fun _ => ?_) | (refine c_storew rfl rfl rfl rfl rfl rfl rfl rfl ?_) | refine s_call (c_len rfl rfl) rfl ?_ | refine s_call (c_len_str rfl rfl) rfl ?_ | refine s_call (c_bi rfl rfl rfl rfl) rfl ?_ | refine c_append rfl rfl rfl rfl (by first | rfl | simp [ints]) (by first | rfl | exact ints_one _ | exact octs_one _ | exact strs_one _) (by omega) rfl rfl (fun _ _ => ?_) | refine c_append_nil rfl rfl rfl rfl (by first | rfl | simp [ints]) (by first | rfl | exact ints_one _ | exact octs_one _ | exact strs_one _) (by omega) rfl rfl (fun _ _ => ?_)) | (apply ks_store; first | first | refine c_store rfl rfl rfl rfl rfl rfl rfl ?_ | refine c_storew rfl rfl rfl rfl rfl rfl rfl rfl ?_ | refine c_storee rfl rfl rfl rfl rfl (by omega) rfl ?_ | first | refine c_bsA rfl rfl rfl rfl rfl rfl rfl rfl rfl (fun _ => ?_) | (refine c_storew rfl rfl rfl rfl rfl rfl rfl rfl ?_)) | (apply ks_box; refine c_box rfl rfl rfl rfl rfl rfl (fun _ => ?_)) | (apply ks_alloc; refine c_alloc rfl rfl rfl rfl (fun _ => ?_)) | (apply ks_bs; first | refine c_buildSlice rfl rfl rfl rfl rfl rfl rfl rfl rfl rfl (fun _ => ?_) | first | refine c_bsA rfl rfl rfl rfl rfl rfl rfl rfl rfl (fun _ => ?_) | (refine c_storew rfl rfl rfl rfl rfl rfl rfl rfl ?_)) | (apply ks_guard; first | (refine sl_gd rfl rfl rfl rfl ?_; first | (apply gd_t) | (apply gd_ft) | (apply gd_tf) | (apply gd_dec_t <;> intro hq <;> (try (exfalso; omega))) | (apply gd_dec_f <;> intro hq <;> (try (exfalso; omega))) | (apply gd_beq_t <;> intro hq <;> (try (exfalso; omega))) | (apply gd_beq_f <;> intro hq <;> (try (exfalso; omega))) | (apply gd_bne_t <;> intro hq <;> (try (exfalso; omega))) | (apply gd_bne_f <;> intro hq <;> (try (exfalso; omega))) | (apply gd_not_t <;> intro hq) | (apply gd_not_f <;> intro hq) | (apply gd_raw_t <;> intro hq) | (apply gd_raw_f <;> intro hq)) | refine sl_skip_u rfl rfl rfl rfl rfl rfl ?_) | first | refine c_bsA rfl rfl rfl rfl rfl rfl rfl rfl rfl (fun _ => ?_) | (refine c_storew rfl rfl rfl rfl rfl rfl rfl rfl ?_)) | (apply sw_seq) | (apply at_srd) | (apply sw_skip) | (apply sw_ret) | (apply sw_exit) | (apply sw_block) | ((fail_if_success (refine g_reg (id := 5) ?_)); apply sw_region) | (refine sw_cd rfl ?_; first | (apply gd_t) | (apply gd_ft) | (apply gd_tf) | (apply gd_dec_t <;> intro hq <;> (try (exfalso; omega))) | (apply gd_dec_f <;> intro hq <;> (try (exfalso; omega))) | (apply gd_beq_t <;> intro hq <;> (try (exfalso; omega))) | (apply gd_beq_f <;> intro hq <;> (try (exfalso; omega))) | (apply gd_bne_t <;> intro hq <;> (try (exfalso; omega))) | (apply gd_bne_f <;> intro hq <;> (try (exfalso; omega))) | (apply gd_not_t <;> intro hq) | (apply gd_not_f <;> intro hq) | (apply gd_raw_t <;> intro hq) | (apply gd_raw_f <;> intro hq)) | (apply at_thn) | (apply at_thn_ret) | (apply at_thn_exit) | (apply at_inb) | (apply at_inb_ret) | (apply at_inb_exit) | refine at_inb_pass rfl ?_ | ((fail_if_success (refine g_reg (id := 5) ?_)); refine c_drawn (by kernel_rfl) ?_))
  all_goals (try simp only [decide_eq_true_eq, decide_eq_false_iff_not] at *)
  all_goals first | (exfalso; omega) | skip
  rename_i b2 b4 bd b6
  have hs1 : x < 128 → signB x = strOfNums [x] := fun h => if_pos h
  have hs2 : ¬ x < 128 → signB x = e0 := fun h => if_neg h
  refine sw_cut2 (α := Unit) (fun _ => [(1, .int .i64 x), (2, .pointer (some ⟨b2, 0, none⟩)), (4, .pointer (some ⟨b4, 0, none⟩)), (5, .slice none 0 0), (6, .pointer (some ⟨b6, 0, none⟩)), (7, .slice (some ⟨bd, 0, none⟩) 1 1), (8, .string (signB x))]) (fun _ => .blk b6 23 [.int .i64 0, .int .i64 0, .string e0, .string e0, .string e0] :: .own 35 6 (some ⟨bd, 0, none⟩) 1 1 [.int .i64 6, .int .i64 0, .int .i64 0, .string e0, .slice none 0 0, .string e0] :: .blk b4 23 [.int .i64 0, .int .i64 0, .string e0, .string e0, .string e0] :: .blk b2 23 [.int .i64 s, .int .i64 m, .string i, .string g, .string t] :: H) (fun _ => True) ?_ ?_
  · repeat' (first | (apply g_sl; first | (apply ks_nil; refine sl_nil ?_) | (apply ks_move; refine s_move rfl rfl ?_) | (apply ks_bin; refine s_bin rfl rfl rfl ?_; first | fail | (first | (apply kb_add; first | refine bb_add ⟨by omega, by omega⟩ ?_ | refine bb_of rfl ?_) | refine bb_of rfl ?_)) | (apply ks_load; first | (refine s_load rfl rfl ?_; first | refine ld_cell rfl ?_ | refine ld_whole rfl ?_ | refine ld_elem rfl ?_ | refine ld_part rfl rfl ?_) | fail) | (apply ks_asgn; refine s_asgn rfl rfl ?_) | (apply ks_pick; refine s_pick rfl rfl ?_; first | (apply kp_t; refine pk_t rfl ?_) | (apply kp_f; refine pk_f rfl ?_) | refine pk_s rfl rfl ?_) | (apply ks_field; first | refine s_field (c_field0 rfl rfl) rfl ?_ | refine s_field (c_field rfl rfl) rfl ?_) | (apply ks_un; refine s_un (y_un rfl rfl rfl) rfl ?_) | (apply ks_extr; refine s_extr (y_extract rfl rfl rfl) rfl ?_) | (apply ks_build; first | refine s_build (c_build rfl rfl rfl) rfl ?_ | fail) | (apply ks_index; first | fail | refine s_index (c_indexArr rfl rfl rfl (by omega) (by omega) rfl) rfl ?_ | refine s_index (c_indexArrA rfl rfl rfl (by omega) (by omega) rfl) rfl ?_ | refine s_index (c_indexStr rfl rfl rfl (by omega) rfl) rfl ?_) | (apply ks_fn; first | refine c_callv rfl rfl rfl (c5 _ _ _ inferInstance (by omega)) rfl rfl ?_) | (apply ks_bi; first | fail | refine s_call (c_len rfl rfl) rfl ?_ | refine s_call (c_len_str rfl rfl) rfl ?_ | refine s_call (c_bi rfl rfl rfl rfl) rfl ?_ | refine c_append rfl rfl rfl rfl (by first | rfl | simp [ints]) (by first | rfl | exact ints_one _ | exact octs_one _ | exact strs_one _) (by omega) rfl rfl (fun _ _ => ?_) | refine c_append_nil rfl rfl rfl rfl (by first | rfl | simp [ints]) (by first | rfl | exact ints_one _ | exact octs_one _ | exact strs_one _) (by omega) rfl rfl (fun _ _ => ?_)) | (apply ks_store; first | first | refine c_store rfl rfl rfl rfl rfl rfl rfl ?_ | refine c_storew rfl rfl rfl rfl rfl rfl rfl rfl ?_ | refine c_storee rfl rfl rfl rfl rfl (by omega) rfl ?_ | fail) | (apply ks_box; refine c_box rfl rfl rfl rfl rfl rfl (fun _ => ?_)) | (apply ks_alloc; refine c_alloc rfl rfl rfl rfl (fun _ => ?_)) | (apply ks_bs; first | refine c_buildSlice rfl rfl rfl rfl rfl rfl rfl rfl rfl rfl (fun _ => ?_) | fail) | (apply ks_guard; first | (refine sl_gd rfl rfl rfl rfl ?_; first | (apply gd_t) | (apply gd_ft) | (apply gd_tf) | (apply gd_dec_t <;> intro hq <;> (try (exfalso; omega))) | (apply gd_dec_f <;> intro hq <;> (try (exfalso; omega))) | (apply gd_beq_t <;> intro hq <;> (try (exfalso; omega))) | (apply gd_beq_f <;> intro hq <;> (try (exfalso; omega))) | (apply gd_bne_t <;> intro hq <;> (try (exfalso; omega))) | (apply gd_bne_f <;> intro hq <;> (try (exfalso; omega))) | (apply gd_not_t <;> intro hq) | (apply gd_not_f <;> intro hq) | (apply gd_raw_t <;> intro hq) | (apply gd_raw_f <;> intro hq)) | refine sl_skip_u rfl rfl rfl rfl rfl rfl ?_) | fail) | (apply sw_seq) | (apply at_srd) | (apply sw_skip) | (apply sw_ret) | (apply sw_exit) | (apply sw_block) | ((fail_if_success (refine g_reg (id := 7) ?_)); apply sw_region) | (refine sw_cd rfl ?_; first | (apply gd_t) | (apply gd_ft) | (apply gd_tf) | (apply gd_dec_t <;> intro hq <;> (try (exfalso; omega))) | (apply gd_dec_f <;> intro hq <;> (try (exfalso; omega))) | (apply gd_beq_t <;> intro hq <;> (try (exfalso; omega))) | (apply gd_beq_f <;> intro hq <;> (try (exfalso; omega))) | (apply gd_bne_t <;> intro hq <;> (try (exfalso; omega))) | (apply gd_bne_f <;> intro hq <;> (try (exfalso; omega))) | (apply gd_not_t <;> intro hq) | (apply gd_not_f <;> intro hq) | (apply gd_raw_t <;> intro hq) | (apply gd_raw_f <;> intro hq)) | (apply at_thn) | (apply at_thn_ret) | (apply at_thn_exit) | (apply at_inb) | (apply at_inb_ret) | (apply at_inb_exit) | refine at_inb_pass rfl ?_ | ((fail_if_success (refine g_reg (id := 7) ?_)); refine c_drawn (by kernel_rfl) ?_))
    · rw [hs1 (by omega)]
      exact at_meet () trivial (by repeat (first | exact Le.nil _ | refine Le.cons (by first | rfl | (exact congrArg some (congrArg (Value.int _) (by omega)))) ?_)) (fun _ hw => hw.subs (by repeat (first | refine Subs.cons (by repeat constructor) ?_ | exact Subs.sub (by repeat (first | exact List.Sublist.refl _ | exact List.nil_sublist _ | refine List.Sublist.cons _ ?_)))))
    · rw [hs2 (by omega)]
      exact at_meet () trivial (by repeat (first | exact Le.nil _ | refine Le.cons (by first | rfl | (exact congrArg some (congrArg (Value.int _) (by omega)))) ?_)) (fun _ hw => hw.subs (by repeat (first | refine Subs.cons (by repeat constructor) ?_ | exact Subs.sub (by repeat (first | exact List.Sublist.refl _ | exact List.nil_sublist _ | refine List.Sublist.cons _ ?_)))))
  intro _ _
  clear hs1 hs2
  repeat' (first | (apply g_sl; first | (apply ks_nil; refine sl_nil ?_) | (apply ks_move; refine s_move rfl rfl ?_) | (apply ks_bin; refine s_bin rfl rfl rfl ?_; first | first | (refine s_index (c_indexNumV hv rfl rfl rfl (by omega) (by omega)) rfl ?_) | (first | (apply kb_add; first | refine bb_add ⟨by omega, by omega⟩ ?_ | refine bb_of rfl ?_) | refine bb_of rfl ?_)) | (apply ks_load; first | (refine s_load rfl rfl ?_; first | refine ld_cell rfl ?_ | refine ld_whole rfl ?_ | refine ld_elem rfl ?_ | refine ld_part rfl rfl ?_) | first | (refine s_index (c_indexNumV hv rfl rfl rfl (by omega) (by omega)) rfl ?_)) | (apply ks_asgn; refine s_asgn rfl rfl ?_) | (apply ks_pick; refine s_pick rfl rfl ?_; first | (apply kp_t; refine pk_t rfl ?_) | (apply kp_f; refine pk_f rfl ?_) | refine pk_s rfl rfl ?_) | (apply ks_field; first | refine s_field (c_field0 rfl rfl) rfl ?_ | refine s_field (c_field rfl rfl) rfl ?_) | (apply ks_un; refine s_un (y_un rfl rfl rfl) rfl ?_) | (apply ks_extr; refine s_extr (y_extract rfl rfl rfl) rfl ?_) | (apply ks_build; first | refine s_build (c_build rfl rfl rfl) rfl ?_ | first | (refine s_index (c_indexNumV hv rfl rfl rfl (by omega) (by omega)) rfl ?_)) | (apply ks_index; first | first | (refine s_index (c_indexNumV hv rfl rfl rfl (by omega) (by omega)) rfl ?_) | refine s_index (c_indexArr rfl rfl rfl (by omega) (by omega) rfl) rfl ?_ | refine s_index (c_indexArrA rfl rfl rfl (by omega) (by omega) rfl) rfl ?_ | refine s_index (c_indexStr rfl rfl rfl (by omega) rfl) rfl ?_) | (apply ks_fn; first | first | refine c_callv rfl rfl rfl (c2 _) rfl rfl ?_ | refine c_callv rfl rfl rfl (c3 _) rfl rfl ?_ | refine c_callv rfl rfl rfl (c4 _) rfl rfl ?_) | (apply ks_bi; first | first | (refine s_index (c_indexNumV hv rfl rfl rfl (by omega) (by omega)) rfl ?_) | refine s_call (c_len rfl rfl) rfl ?_ | refine s_call (c_len_str rfl rfl) rfl ?_ | refine s_call (c_bi rfl rfl rfl rfl) rfl ?_ | refine c_append rfl rfl rfl rfl (by first | rfl | simp [ints]) (by first | rfl | exact ints_one _ | exact octs_one _ | exact strs_one _) (by omega) rfl rfl (fun _ _ => ?_) | refine c_append_nil rfl rfl rfl rfl (by first | rfl | simp [ints]) (by first | rfl | exact ints_one _ | exact octs_one _ | exact strs_one _) (by omega) rfl rfl (fun _ _ => ?_)) | (apply ks_store; first | first | refine c_store rfl rfl rfl rfl rfl rfl rfl ?_ | refine c_storew rfl rfl rfl rfl rfl rfl rfl rfl ?_ | refine c_storee rfl rfl rfl rfl rfl (by omega) rfl ?_ | first | (refine s_index (c_indexNumV hv rfl rfl rfl (by omega) (by omega)) rfl ?_)) | (apply ks_box; refine c_box rfl rfl rfl rfl rfl rfl (fun _ => ?_)) | (apply ks_alloc; refine c_alloc rfl rfl rfl rfl (fun _ => ?_)) | (apply ks_bs; first | refine c_buildSlice rfl rfl rfl rfl rfl rfl rfl rfl rfl rfl (fun _ => ?_) | first | (refine s_index (c_indexNumV hv rfl rfl rfl (by omega) (by omega)) rfl ?_)) | (apply ks_guard; first | (refine sl_gd rfl rfl rfl rfl ?_; first | (apply gd_t) | (apply gd_ft) | (apply gd_tf) | (apply gd_dec_t <;> intro hq <;> (try (exfalso; omega))) | (apply gd_dec_f <;> intro hq <;> (try (exfalso; omega))) | (apply gd_beq_t <;> intro hq <;> (try (exfalso; omega))) | (apply gd_beq_f <;> intro hq <;> (try (exfalso; omega))) | (apply gd_bne_t <;> intro hq <;> (try (exfalso; omega))) | (apply gd_bne_f <;> intro hq <;> (try (exfalso; omega))) | (apply gd_not_t <;> intro hq) | (apply gd_not_f <;> intro hq) | (apply gd_raw_t <;> intro hq) | (apply gd_raw_f <;> intro hq)) | refine sl_skip_u rfl rfl rfl rfl rfl rfl ?_) | first | (refine s_index (c_indexNumV hv rfl rfl rfl (by omega) (by omega)) rfl ?_)) | (apply sw_seq) | (apply at_srd) | (apply sw_skip) | (apply sw_ret) | (apply sw_exit) | (apply sw_block) | ((fail_if_success (refine g_reg (id := 8) ?_)); apply sw_region) | (refine sw_cd rfl ?_; first | (apply gd_t) | (apply gd_ft) | (apply gd_tf) | (apply gd_dec_t <;> intro hq <;> (try (exfalso; omega))) | (apply gd_dec_f <;> intro hq <;> (try (exfalso; omega))) | (apply gd_beq_t <;> intro hq <;> (try (exfalso; omega))) | (apply gd_beq_f <;> intro hq <;> (try (exfalso; omega))) | (apply gd_bne_t <;> intro hq <;> (try (exfalso; omega))) | (apply gd_bne_f <;> intro hq <;> (try (exfalso; omega))) | (apply gd_not_t <;> intro hq) | (apply gd_not_f <;> intro hq) | (apply gd_raw_t <;> intro hq) | (apply gd_raw_f <;> intro hq)) | (apply at_thn) | (apply at_thn_ret) | (apply at_thn_exit) | (apply at_inb) | (apply at_inb_ret) | (apply at_inb_exit) | refine at_inb_pass rfl ?_ | ((fail_if_success (refine g_reg (id := 8) ?_)); refine c_drawn (by kernel_rfl) ?_))
  refine sw_cut2 (α := Unit) (fun _ => [(1, .int .i64 x), (2, .pointer (some ⟨b2, 0, none⟩)), (4, .pointer (some ⟨b4, 0, none⟩)), (5, .slice none 0 0), (6, .pointer (some ⟨b6, 0, none⟩)), (7, .slice (some ⟨bd, 0, none⟩) 1 1), (8, .string (signB x)), (9, .int .u8 (whatQ s x))]) (fun _ => .blk b6 23 [.int .i64 0, .int .i64 0, .string e0, .string e0, .string e0] :: .own 35 6 (some ⟨bd, 0, none⟩) 1 1 [.int .i64 6, .int .i64 0, .int .i64 0, .string e0, .slice none 0 0, .string e0] :: .blk b4 23 [.int .i64 0, .int .i64 0, .string e0, .string e0, .string e0] :: .blk b2 23 [.int .i64 s, .int .i64 m, .string i, .string g, .string t] :: H) (fun _ => True) ?_ ?_
  · repeat' (first | (apply g_sl; first | (apply ks_nil; refine sl_nil ?_) | (apply ks_move; refine s_move rfl rfl ?_) | (apply ks_bin; refine s_bin rfl rfl rfl ?_; first | fail | (first | (apply kb_add; first | refine bb_add ⟨by omega, by omega⟩ ?_ | refine bb_of rfl ?_) | refine bb_of rfl ?_)) | (apply ks_load; first | (refine s_load rfl rfl ?_; first | refine ld_cell rfl ?_ | refine ld_whole rfl ?_ | refine ld_elem rfl ?_ | refine ld_part rfl rfl ?_) | fail) | (apply ks_asgn; refine s_asgn rfl rfl ?_) | (apply ks_pick; refine s_pick rfl rfl ?_; first | (apply kp_t; refine pk_t rfl ?_) | (apply kp_f; refine pk_f rfl ?_) | refine pk_s rfl rfl ?_) | (apply ks_field; first | refine s_field (c_field0 rfl rfl) rfl ?_ | refine s_field (c_field rfl rfl) rfl ?_) | (apply ks_un; refine s_un (y_un rfl rfl rfl) rfl ?_) | (apply ks_extr; refine s_extr (y_extract rfl rfl rfl) rfl ?_) | (apply ks_build; first | refine s_build (c_build rfl rfl rfl) rfl ?_ | fail) | (apply ks_index; first | fail | refine s_index (c_indexArr rfl rfl rfl (by omega) (by omega) rfl) rfl ?_ | refine s_index (c_indexArrA rfl rfl rfl (by omega) (by omega) rfl) rfl ?_ | refine s_index (c_indexStr rfl rfl rfl (by omega) rfl) rfl ?_) | (apply ks_fn; first | fail) | (apply ks_bi; first | fail | refine s_call (c_len rfl rfl) rfl ?_ | refine s_call (c_len_str rfl rfl) rfl ?_ | refine s_call (c_bi rfl rfl rfl rfl) rfl ?_ | refine c_append rfl rfl rfl rfl (by first | rfl | simp [ints]) (by first | rfl | exact ints_one _ | exact octs_one _ | exact strs_one _) (by omega) rfl rfl (fun _ _ => ?_) | refine c_append_nil rfl rfl rfl rfl (by first | rfl | simp [ints]) (by first | rfl | exact ints_one _ | exact octs_one _ | exact strs_one _) (by omega) rfl rfl (fun _ _ => ?_)) | (apply ks_store; first | first | refine c_store rfl rfl rfl rfl rfl rfl rfl ?_ | refine c_storew rfl rfl rfl rfl rfl rfl rfl rfl ?_ | refine c_storee rfl rfl rfl rfl rfl (by omega) rfl ?_ | fail) | (apply ks_box; refine c_box rfl rfl rfl rfl rfl rfl (fun _ => ?_)) | (apply ks_alloc; refine c_alloc rfl rfl rfl rfl (fun _ => ?_)) | (apply ks_bs; first | refine c_buildSlice rfl rfl rfl rfl rfl rfl rfl rfl rfl rfl (fun _ => ?_) | fail) | (apply ks_guard; first | (refine sl_gd rfl rfl rfl rfl ?_; first | (apply gd_t) | (apply gd_ft) | (apply gd_tf) | (apply gd_dec_t <;> intro hq <;> (try (exfalso; omega))) | (apply gd_dec_f <;> intro hq <;> (try (exfalso; omega))) | (apply gd_beq_t <;> intro hq <;> (try (exfalso; omega))) | (apply gd_beq_f <;> intro hq <;> (try (exfalso; omega))) | (apply gd_bne_t <;> intro hq <;> (try (exfalso; omega))) | (apply gd_bne_f <;> intro hq <;> (try (exfalso; omega))) | (apply gd_not_t <;> intro hq) | (apply gd_not_f <;> intro hq) | (apply gd_raw_t <;> intro hq) | (apply gd_raw_f <;> intro hq)) | refine sl_skip_u rfl rfl rfl rfl rfl rfl ?_) | fail) | (apply sw_seq) | (apply at_srd) | (apply sw_skip) | (apply sw_ret) | (apply sw_exit) | (apply sw_block) | ((fail_if_success (refine g_reg (id := 10) ?_)); apply sw_region) | (refine sw_cd rfl ?_; first | (apply gd_t) | (apply gd_ft) | (apply gd_tf) | (apply gd_dec_t <;> intro hq <;> (try (exfalso; omega))) | (apply gd_dec_f <;> intro hq <;> (try (exfalso; omega))) | (apply gd_beq_t <;> intro hq <;> (try (exfalso; omega))) | (apply gd_beq_f <;> intro hq <;> (try (exfalso; omega))) | (apply gd_bne_t <;> intro hq <;> (try (exfalso; omega))) | (apply gd_bne_f <;> intro hq <;> (try (exfalso; omega))) | (apply gd_not_t <;> intro hq) | (apply gd_not_f <;> intro hq) | (apply gd_raw_t <;> intro hq) | (apply gd_raw_f <;> intro hq)) | (apply at_thn) | (apply at_thn_ret) | (apply at_thn_exit) | (apply at_inb) | (apply at_inb_ret) | (apply at_inb_exit) | refine at_inb_pass rfl ?_ | ((fail_if_success (refine g_reg (id := 10) ?_)); refine c_drawn (by kernel_rfl) ?_))
    all_goals
      rw [HQ.out]
      first | rw [if_pos ⟨by omega, by omega⟩] | rw [if_neg (by omega)]
      exact at_meet () trivial (by repeat (first | exact Le.nil _ | refine Le.cons (by first | rfl | (exact congrArg some (congrArg (Value.int _) (by omega)))) ?_)) (fun _ hw => hw.subs (by repeat (first | refine Subs.cons (by repeat constructor) ?_ | exact Subs.sub (by repeat (first | exact List.Sublist.refl _ | exact List.nil_sublist _ | refine List.Sublist.cons _ ?_)))))
  intro _ _
  have hQ : whatQ s x ≠ 82 := by rw [HQ.out]; split <;> omega
  generalize whatQ s x = W at *
  clear HQ hv
  have hsz : (signB x).size ≤ 1 := by unfold signB; split; rw [strOfNums_size]; exact Nat.le_refl _; exact Nat.zero_le _
  have hrz : (rtB x).size ≤ 10 := by
    unfold rtB
    rw [strOfNums_size]
    have := runeL_len (fixR x)
    omega
  repeat' (first | (apply g_sl; first | (apply ks_nil; refine sl_nil ?_) | (apply ks_move; refine s_move rfl rfl ?_) | (apply ks_bin; refine s_bin rfl rfl rfl ?_; first | first | refine c_bsA rfl rfl rfl rfl rfl rfl rfl rfl rfl (fun _ => ?_) | (refine c_storew rfl rfl rfl rfl rfl rfl rfl rfl ?_) | (refine bb_cat (by omega) ?_) | (first | (apply kb_add; first | refine bb_add ⟨by omega, by omega⟩ ?_ | refine bb_of rfl ?_) | refine bb_of rfl ?_)) | (apply ks_load; first | (refine s_load rfl rfl ?_; first | refine ld_cell rfl ?_ | refine ld_whole rfl ?_ | refine ld_elem rfl ?_ | refine ld_part rfl rfl ?_) | first | refine c_bsA rfl rfl rfl rfl rfl rfl rfl rfl rfl (fun _ => ?_) | (refine c_storew rfl rfl rfl rfl rfl rfl rfl rfl ?_) | (refine bb_cat (by omega) ?_)) | (apply ks_asgn; refine s_asgn rfl rfl ?_) | (apply ks_pick; refine s_pick rfl rfl ?_; first | (apply kp_t; refine pk_t rfl ?_) | (apply kp_f; refine pk_f rfl ?_) | refine pk_s rfl rfl ?_) | (apply ks_field; first | refine s_field (c_field0 rfl rfl) rfl ?_ | refine s_field (c_field rfl rfl) rfl ?_) | (apply ks_un; refine s_un (y_un rfl rfl rfl) rfl ?_) | (apply ks_extr; refine s_extr (y_extract rfl rfl rfl) rfl ?_) | (apply ks_build; first | refine s_build (c_build rfl rfl rfl) rfl ?_ | first | refine c_bsA rfl rfl rfl rfl rfl rfl rfl rfl rfl (fun _ => ?_) | (refine c_storew rfl rfl rfl rfl rfl rfl rfl rfl ?_) | (refine bb_cat (by omega) ?_)) | (apply ks_index; first | first | refine c_bsA rfl rfl rfl rfl rfl rfl rfl rfl rfl (fun _ => ?_) | (refine c_storew rfl rfl rfl rfl rfl rfl rfl rfl ?_) | (refine bb_cat (by omega) ?_) | refine s_index (c_indexArr rfl rfl rfl (by omega) (by omega) rfl) rfl ?_ | refine s_index (c_indexArrA rfl rfl rfl (by omega) (by omega) rfl) rfl ?_ | refine s_index (c_indexStr rfl rfl rfl (by omega) rfl) rfl ?_) | (apply ks_fn; first | first | refine c_callv rfl rfl rfl (c6 _) rfl rfl ?_ | (refine c_call rfl rfl rfl (c7 _) rfl rfl ?_; rintro _ _ ⟨k1, k2, k3, it, tx, a3, c3, L, rfl, rfl, hy1⟩)) | (apply ks_bi; first | first | refine c_bsA rfl rfl rfl rfl rfl rfl rfl rfl rfl (fun _ => ?_) | (refine c_storew rfl rfl rfl rfl rfl rfl rfl rfl ?_) | (refine bb_cat (by omega) ?_) | refine s_call (c_len rfl rfl) rfl ?_ | refine s_call (c_len_str rfl rfl) rfl ?_ | refine s_call (c_bi rfl rfl rfl rfl) rfl ?_ | refine c_append rfl rfl rfl rfl (by first | rfl | simp [ints]) (by first | rfl | exact ints_one _ | exact octs_one _ | exact strs_one _) (by omega) rfl rfl (fun _ _ => ?_) | refine c_append_nil rfl rfl rfl rfl (by first | rfl | simp [ints]) (by first | rfl | exact ints_one _ | exact octs_one _ | exact strs_one _) (by omega) rfl rfl (fun _ _ => ?_)) | (apply ks_store; first | first | refine c_store rfl rfl rfl rfl rfl rfl rfl ?_ | refine c_storew rfl rfl rfl rfl rfl rfl rfl rfl ?_ | refine c_storee rfl rfl rfl rfl rfl (by omega) rfl ?_ | first | refine c_bsA rfl rfl rfl rfl rfl rfl rfl rfl rfl (fun _ => ?_) | (refine c_storew rfl rfl rfl rfl rfl rfl rfl rfl ?_) | (refine bb_cat (by omega) ?_)) | (apply ks_box; refine c_box rfl rfl rfl rfl rfl rfl (fun _ => ?_)) | (apply ks_alloc; refine c_alloc rfl rfl rfl rfl (fun _ => ?_)) | (apply ks_bs; first | refine c_buildSlice rfl rfl rfl rfl rfl rfl rfl rfl rfl rfl (fun _ => ?_) | first | refine c_bsA rfl rfl rfl rfl rfl rfl rfl rfl rfl (fun _ => ?_) | (refine c_storew rfl rfl rfl rfl rfl rfl rfl rfl ?_) | (refine bb_cat (by omega) ?_)) | (apply ks_guard; first | (refine sl_gd rfl rfl rfl rfl ?_; first | (apply gd_t) | (apply gd_ft) | (apply gd_tf) | (apply gd_dec_t <;> intro hq <;> (try (exfalso; omega))) | (apply gd_dec_f <;> intro hq <;> (try (exfalso; omega))) | (apply gd_beq_t <;> intro hq <;> (try (exfalso; omega))) | (apply gd_beq_f <;> intro hq <;> (try (exfalso; omega))) | (apply gd_bne_t <;> intro hq <;> (try (exfalso; omega))) | (apply gd_bne_f <;> intro hq <;> (try (exfalso; omega))) | (apply gd_not_t <;> intro hq) | (apply gd_not_f <;> intro hq) | (apply gd_raw_t <;> intro hq) | (apply gd_raw_f <;> intro hq)) | refine sl_skip_u rfl rfl rfl rfl rfl rfl ?_) | first | refine c_bsA rfl rfl rfl rfl rfl rfl rfl rfl rfl (fun _ => ?_) | (refine c_storew rfl rfl rfl rfl rfl rfl rfl rfl ?_) | (refine bb_cat (by omega) ?_)) | (apply g_sq; first | (apply kq_nil; refine sq_nil ?_) | (apply kq_move; refine q_move rfl rfl ?_) | (apply kq_bin; refine q_bin rfl rfl rfl ?_; first | fail | (first | (apply kb_add; first | refine bb_add ⟨by omega, by omega⟩ ?_ | refine bb_of rfl ?_) | refine bb_of rfl ?_)) | (apply kq_load; first | (refine q_load rfl rfl ?_; first | refine ld_cell rfl ?_ | refine ld_whole rfl ?_ | refine ld_elem rfl ?_ | refine ld_part rfl rfl ?_) | fail) | (apply kq_asgn; refine q_asgn rfl rfl ?_) | (apply kq_pick; refine q_pick rfl rfl ?_; first | (apply kp_t; refine pk_t rfl ?_) | (apply kp_f; refine pk_f rfl ?_) | refine pk_s rfl rfl ?_) | (apply kq_field; first | refine q_field (c_field0 rfl rfl) rfl ?_ | refine q_field (c_field rfl rfl) rfl ?_) | (apply kq_un; refine q_un (y_un rfl rfl rfl) rfl ?_) | (apply kq_extr; refine q_extr (y_extract rfl rfl rfl) rfl ?_) | (apply kq_build; first | refine q_build (c_build rfl rfl rfl) rfl ?_ | fail) | (apply kq_index; first | fail | refine q_index (c_indexArr rfl rfl rfl (by omega) (by omega) rfl) rfl ?_ | refine q_index (c_indexArrA rfl rfl rfl (by omega) (by omega) rfl) rfl ?_ | refine q_index (c_indexStr rfl rfl rfl (by omega) rfl) rfl ?_) | (apply kq_fn; first | fail) | (apply kq_bi; first | fail | refine q_call (c_len rfl rfl) rfl ?_ | refine q_call (c_len_str rfl rfl) rfl ?_) | (apply kq_guard; first | (refine sq_gd rfl rfl rfl rfl ?_; first | (apply gd_t) | (apply gd_ft) | (apply gd_tf) | (apply gd_dec_t <;> intro hq <;> (try (exfalso; omega))) | (apply gd_dec_f <;> intro hq <;> (try (exfalso; omega))) | (apply gd_beq_t <;> intro hq <;> (try (exfalso; omega))) | (apply gd_beq_f <;> intro hq <;> (try (exfalso; omega))) | (apply gd_bne_t <;> intro hq <;> (try (exfalso; omega))) | (apply gd_bne_f <;> intro hq <;> (try (exfalso; omega))) | (apply gd_not_t <;> intro hq) | (apply gd_not_f <;> intro hq) | (apply gd_raw_t <;> intro hq) | (apply gd_raw_f <;> intro hq)) | refine sq_skip_u rfl rfl rfl rfl rfl rfl ?_) | fail) | (apply g_atso; refine so_back (k := 0) (fun _ hw => hw.subs (by repeat (first | refine Subs.cons (by repeat constructor) ?_ | exact Subs.sub (by repeat (first | exact List.Sublist.refl _ | exact List.nil_sublist _ | refine List.Sublist.cons _ ?_))))) ?_) | (apply g_sot; first | (refine sot_skip rfl ?_) | (refine sot_take rfl rfl rfl rfl (by kernel_rfl) (by decide +kernel) (by decide +kernel) ?_; (first | (apply ky_move; refine sy_val (y_move rfl rfl) ?_) | (apply ky_bin; refine sy_bin rfl rfl ?_; first | fail | (first | (apply kb_add; first | refine bb_add ⟨by omega, by omega⟩ ?_ | refine bb_of rfl ?_) | refine bb_of rfl ?_)) | (apply ky_load; first | (refine sy_load rfl ?_; first | refine ld_cell rfl ?_ | refine ld_whole rfl ?_ | refine ld_elem rfl ?_ | refine ld_part rfl rfl ?_) | fail) | (apply ky_asgn; refine sy_val (y_assign rfl rfl) ?_) | (apply ky_pick; refine sy_pick rfl ?_; first | (apply kp_t; refine pk_t rfl ?_) | (apply kp_f; refine pk_f rfl ?_) | refine pk_s rfl rfl ?_) | (apply ky_field; first | refine sy_val (c_field0 rfl rfl) ?_ | refine sy_val (c_field rfl rfl) ?_) | (apply ky_un; refine sy_val (y_un rfl rfl rfl) ?_) | (apply ky_extr; refine sy_val (y_extract rfl rfl rfl) ?_) | (apply ky_build; first | refine sy_val (c_build rfl rfl rfl) ?_ | fail) | (apply ky_index; first | fail | refine sy_val (c_indexArr rfl rfl rfl (by omega) (by omega) rfl) ?_ | refine sy_val (c_indexArrA rfl rfl rfl (by omega) (by omega) rfl) ?_ | refine sy_val (c_indexStr rfl rfl rfl (by omega) rfl) ?_) | (apply ky_bi; first | fail | refine sy_val (c_len rfl rfl) ?_ | refine sy_val (c_len_str rfl rfl) ?_) | fail)) | (refine sot_takeg rfl rfl rfl rfl rfl (by kernel_rfl) (by decide +kernel) (by decide +kernel) ?_; first | (apply gd_t) | (apply gd_ft) | (apply gd_tf) | (apply gd_dec_t <;> intro hq <;> (try (exfalso; omega))) | (apply gd_dec_f <;> intro hq <;> (try (exfalso; omega))) | (apply gd_beq_t <;> intro hq <;> (try (exfalso; omega))) | (apply gd_beq_f <;> intro hq <;> (try (exfalso; omega))) | (apply gd_bne_t <;> intro hq <;> (try (exfalso; omega))) | (apply gd_bne_f <;> intro hq <;> (try (exfalso; omega))) | (apply gd_not_t <;> intro hq) | (apply gd_not_f <;> intro hq) | (apply gd_raw_t <;> intro hq) | (apply gd_raw_f <;> intro hq)) | (refine sot_next rfl ?_) | (refine so_done (by decide +kernel) ?_) | (refine sot_all (by kernel_rfl) ?_)) | (apply g_soa; first | (refine soa_end rfl) | (refine soa_no (by decide +kernel) ?_) | (refine soa_yes rfl ?_ ?_)) | (apply g_sy; (first | (apply ky_move; refine sy_val (y_move rfl rfl) ?_) | (apply ky_bin; refine sy_bin rfl rfl ?_; first | fail | (first | (apply kb_add; first | refine bb_add ⟨by omega, by omega⟩ ?_ | refine bb_of rfl ?_) | refine bb_of rfl ?_)) | (apply ky_load; first | (refine sy_load rfl ?_; first | refine ld_cell rfl ?_ | refine ld_whole rfl ?_ | refine ld_elem rfl ?_ | refine ld_part rfl rfl ?_) | fail) | (apply ky_asgn; refine sy_val (y_assign rfl rfl) ?_) | (apply ky_pick; refine sy_pick rfl ?_; first | (apply kp_t; refine pk_t rfl ?_) | (apply kp_f; refine pk_f rfl ?_) | refine pk_s rfl rfl ?_) | (apply ky_field; first | refine sy_val (c_field0 rfl rfl) ?_ | refine sy_val (c_field rfl rfl) ?_) | (apply ky_un; refine sy_val (y_un rfl rfl rfl) ?_) | (apply ky_extr; refine sy_val (y_extract rfl rfl rfl) ?_) | (apply ky_build; first | refine sy_val (c_build rfl rfl rfl) ?_ | fail) | (apply ky_index; first | fail | refine sy_val (c_indexArr rfl rfl rfl (by omega) (by omega) rfl) ?_ | refine sy_val (c_indexArrA rfl rfl rfl (by omega) (by omega) rfl) ?_ | refine sy_val (c_indexStr rfl rfl rfl (by omega) rfl) ?_) | (apply ky_bi; first | fail | refine sy_val (c_len rfl rfl) ?_ | refine sy_val (c_len_str rfl rfl) ?_) | fail)) | (apply sw_seq) | (apply at_srd) | (apply sw_skip) | (apply sw_ret) | (apply sw_exit) | (apply sw_block) | (apply sw_region) | (refine sw_cd rfl ?_; first | (apply gd_t) | (apply gd_ft) | (apply gd_tf) | (apply gd_dec_t <;> intro hq <;> (try (exfalso; omega))) | (apply gd_dec_f <;> intro hq <;> (try (exfalso; omega))) | (apply gd_beq_t <;> intro hq <;> (try (exfalso; omega))) | (apply gd_beq_f <;> intro hq <;> (try (exfalso; omega))) | (apply gd_bne_t <;> intro hq <;> (try (exfalso; omega))) | (apply gd_bne_f <;> intro hq <;> (try (exfalso; omega))) | (apply gd_not_t <;> intro hq) | (apply gd_not_f <;> intro hq) | (apply gd_raw_t <;> intro hq) | (apply gd_raw_f <;> intro hq)) | (apply at_thn) | (apply at_thn_ret) | (apply at_thn_exit) | (apply at_inb) | (apply at_inb_ret) | (apply at_inb_exit) | refine at_inb_pass rfl ?_ | (first | (refine g_reg (id := 58) ?_; refine c_drawno (.blk b6 23 [.int .i64 0, .int .i64 0, .string e0, .string e0, .string e0] :: .blk b2 23 [.int .i64 s, .int .i64 m, .string i, .string g, .string t] :: H) (fun _ hw => hw.subs (by repeat (first | refine Subs.cons (by repeat constructor) ?_ | exact Subs.sub (by repeat (first | exact List.Sublist.refl _ | exact List.nil_sublist _ | refine List.Sublist.cons _ ?_))))) ?_) | (refine g_reg (id := 60) ?_; refine c_drawno (.blk b6 23 [.int .i64 0, .int .i64 0, .string e0, .string e0, .string e0] :: .blk b2 23 [.int .i64 s, .int .i64 m, .string i, .string g, .string t] :: H) (fun _ hw => hw.subs (by repeat (first | refine Subs.cons (by repeat constructor) ?_ | exact Subs.sub (by repeat (first | exact List.Sublist.refl _ | exact List.nil_sublist _ | refine List.Sublist.cons _ ?_))))) ?_)) | refine c_drawn (by kernel_rfl) ?_)
  all_goals try clear c1 c2 c3 c4 c5 c6
  all_goals first
    | (refine e_scc _ (by first | exact .inl rfl | exact .inr rfl) rfl rfl rfl (fun _ hw => hw) ?_; refine stepR_nil _ _ _ _ _ [_, _, _, _] rfl ?_; unfold stepW; dsimp only; (repeat (first | rw [if_pos (by first | assumption | omega)] | rw [if_neg (by first | assumption | omega)])); first | done | rfl)
    | (refine e_scc _ (by first | exact .inl rfl | exact .inr rfl) rfl rfl rfl (fun _ hw => hw) ?_; (first | refine stepR_one _ _ _ _ _ _ dA [_, _, _, _] rfl ?_ rfl ?_ | refine stepR_one _ _ _ _ _ _ dA [_, _, _, _, _] rfl ?_ rfl ?_); (first | exact List.mem_cons_self | exact List.mem_cons_of_mem _ List.mem_cons_self | exact List.mem_cons_of_mem _ (List.mem_cons_of_mem _ List.mem_cons_self) | exact List.mem_cons_of_mem _ (List.mem_cons_of_mem _ (List.mem_cons_of_mem _ List.mem_cons_self)) | exact List.mem_cons_of_mem _ (List.mem_cons_of_mem _ (List.mem_cons_of_mem _ (List.mem_cons_of_mem _ List.mem_cons_self)))); (unfold stepW; dsimp only; (repeat (first | rw [if_pos (by first | assumption | omega)] | rw [if_neg (by first | assumption | omega)])); first | done | rfl))
    | (refine e_scc _ (by first | exact .inl rfl | exact .inr rfl) rfl rfl rfl (fun _ hw => hw) ?_; (first | refine stepR_one _ _ _ _ _ _ (2, x, 0, e0, nA, e0) [_, _, _, _] rfl ?_ rfl ?_ | refine stepR_one _ _ _ _ _ _ (2, x, 0, e0, nA, e0) [_, _, _, _, _] rfl ?_ rfl ?_); (first | exact List.mem_cons_self | exact List.mem_cons_of_mem _ List.mem_cons_self | exact List.mem_cons_of_mem _ (List.mem_cons_of_mem _ List.mem_cons_self) | exact List.mem_cons_of_mem _ (List.mem_cons_of_mem _ (List.mem_cons_of_mem _ List.mem_cons_self)) | exact List.mem_cons_of_mem _ (List.mem_cons_of_mem _ (List.mem_cons_of_mem _ (List.mem_cons_of_mem _ List.mem_cons_self)))); (unfold stepW; dsimp only; (repeat (first | rw [if_pos (by first | assumption | omega)] | rw [if_neg (by first | assumption | omega)])); first | done | rfl))
    | (refine e_scc _ (by first | exact .inl rfl | exact .inr rfl) rfl rfl rfl (fun _ hw => hw) ?_; (first | refine stepR_one _ _ _ _ _ _ (1, x, 0, e0, nA, e0) [_, _, _, _] rfl ?_ rfl ?_ | refine stepR_one _ _ _ _ _ _ (1, x, 0, e0, nA, e0) [_, _, _, _, _] rfl ?_ rfl ?_); (first | exact List.mem_cons_self | exact List.mem_cons_of_mem _ List.mem_cons_self | exact List.mem_cons_of_mem _ (List.mem_cons_of_mem _ List.mem_cons_self) | exact List.mem_cons_of_mem _ (List.mem_cons_of_mem _ (List.mem_cons_of_mem _ List.mem_cons_self)) | exact List.mem_cons_of_mem _ (List.mem_cons_of_mem _ (List.mem_cons_of_mem _ (List.mem_cons_of_mem _ List.mem_cons_self)))); (unfold stepW; dsimp only; (repeat (first | rw [if_pos (by first | assumption | omega)] | rw [if_neg (by first | assumption | omega)])); first | done | rfl))
    | (refine e_scc _ (by first | exact .inl rfl | exact .inr rfl) rfl rfl rfl (fun _ hw => hw) ?_; (first | refine stepR_one _ _ _ _ _ _ (5, 0, 0, e0, nA, t) [_, _, _, _] rfl ?_ rfl ?_ | refine stepR_one _ _ _ _ _ _ (5, 0, 0, e0, nA, t) [_, _, _, _, _] rfl ?_ rfl ?_); (first | exact List.mem_cons_self | exact List.mem_cons_of_mem _ List.mem_cons_self | exact List.mem_cons_of_mem _ (List.mem_cons_of_mem _ List.mem_cons_self) | exact List.mem_cons_of_mem _ (List.mem_cons_of_mem _ (List.mem_cons_of_mem _ List.mem_cons_self)) | exact List.mem_cons_of_mem _ (List.mem_cons_of_mem _ (List.mem_cons_of_mem _ (List.mem_cons_of_mem _ List.mem_cons_self)))); (unfold stepW; dsimp only; (repeat (first | rw [if_pos (by first | assumption | omega)] | rw [if_neg (by first | assumption | omega)])); first | done | rfl))
    | skip
  all_goals
    refine e_scc _ (by first | exact .inl rfl | exact .inr rfl) rfl rfl rfl (fun _ hw => hw) ?_
    refine stepR_row _ _ _ _ _ _ (k1, k2, k3, it, (a3, c3, L), tx) [_, _, _, _, _, _] rfl ?_ (Sl.own (e := 3) (sz := 1) (vs := ints L) (n := L.length) ?_ rfl rfl) ?_
    · (first | exact List.mem_cons_self | exact List.mem_cons_of_mem _ List.mem_cons_self | exact List.mem_cons_of_mem _ (List.mem_cons_of_mem _ List.mem_cons_self) | exact List.mem_cons_of_mem _ (List.mem_cons_of_mem _ (List.mem_cons_of_mem _ List.mem_cons_self)) | exact List.mem_cons_of_mem _ (List.mem_cons_of_mem _ (List.mem_cons_of_mem _ (List.mem_cons_of_mem _ List.mem_cons_self))))
    · (first | exact List.mem_cons_self | exact List.mem_cons_of_mem _ List.mem_cons_self | exact List.mem_cons_of_mem _ (List.mem_cons_of_mem _ List.mem_cons_self) | exact List.mem_cons_of_mem _ (List.mem_cons_of_mem _ (List.mem_cons_of_mem _ List.mem_cons_self)) | exact List.mem_cons_of_mem _ (List.mem_cons_of_mem _ (List.mem_cons_of_mem _ (List.mem_cons_of_mem _ List.mem_cons_self))))
    · unfold stepW
      dsimp only
      (repeat (first | rw [if_pos (by first | assumption | omega)] | rw [if_neg (by first | assumption | omega)]))
      exact Prod.ext rfl (by rw [hy1])
theorem step_yes (G : Ctx) (H : List Ent) (M : Int) (hM : ∀ H w, Holds G H w → w.cell? ⟨2, 0, none⟩ = some (.int .i64 M)) (s m : Int) (i g t : ByteArray) (x : Int) (hs : 0 ≤ s ∧ s ≤ 10) (hx : 0 ≤ x ∧ x ≤ 1114111) (hi : i.size ≤ 3) (hg : g.size ≤ 100) (ht : t.size ≤ 256) (hw : whatP s x = 82) (hw1 : whatP 1 x ≠ 82) : SC Tryd.prog G 30 [psV s m i g t, .int .i64 x] H (StepR G H (stepW (s, m, i, g, t) x (whatQ s x) (step1 x))) := by
  have c1 := fun H => bet_sv G H x 0 1114111
  have c2 := fun H => stepTable_sv G H s
  have c3 := fun H => class_sv G H x
  have c4 := fun H => clsIx_sv G H x
  have c5 := fun (H : List Ent) (a : Option Addr) (c : Nat) (h : RdC G H a (ints [x])) (ho : x < 128) => bytes_sv G H [x] a 1 c rfl rfl (by simp) (fun y hy => by rw [List.mem_singleton] at hy; subst hy; unfold Oct; omega)
  have c6 := fun H => runeText_sv G H x hx
  have c7 := fun H => step_no G H M hM 1 0 e0 e0 e0 x (sP 1, []) (by omega) hx (Nat.zero_le _) (Nat.zero_le _) (Nat.zero_le _) hw1
  have htl : (tabL s).length = 15 := by
    unfold tabL
    repeat' split
    all_goals rfl
  have hcl := clsN_lt x
  have hto : ∀ y ∈ tabL s, 0 ≤ y ∧ y ≤ 255 := by
    unfold tabL
    repeat' split
    all_goals decide
  have hv : (nums (strOfNums (tabL s))).getD ((clsN x : Nat) : Int).toNat 0 = whatP s x := by rw [nums_strOf hto]; rfl
  have htz : (strOfNums (tabL s)).size = 15 := by rw [strOfNums_size, htl]
  have hwQ : whatQ s x = if s = 0 ∧ whatP s x = 88 then 46 else whatP s x := rfl
  generalize strOfNums (tabL s) = T at *
  generalize clsN x = cn at *
  generalize whatP s x = w at *
  have HQ := Lib.hid hwQ
  clear hwQ hto htl
  refine sc_enter2 Tryd.func30 rfl rfl rfl rfl rfl ?_
  repeat' (first | (apply g_sl; first | (apply ks_nil; refine sl_nil ?_) | (apply ks_move; refine s_move rfl rfl ?_) | (apply ks_bin; refine s_bin rfl rfl rfl ?_; first | first | refine c_bsA rfl rfl rfl rfl rfl rfl rfl rfl rfl (fun _ => ?_) | (refine c_storew rfl rfl rfl rfl rfl rfl rfl rfl ?_) | (first | (apply kb_add; first | refine bb_add ⟨by omega, by omega⟩ ?_ | refine bb_of rfl ?_) | refine bb_of rfl ?_)) | (apply ks_load; first | (refine s_load rfl rfl ?_; first | refine ld_cell rfl ?_ | refine ld_whole rfl ?_ | refine ld_elem rfl ?_ | refine ld_part rfl rfl ?_) | first | refine c_bsA rfl rfl rfl rfl rfl rfl rfl rfl rfl (fun _ => ?_) | (refine c_storew rfl rfl rfl rfl rfl rfl rfl rfl ?_)) | (apply ks_asgn; refine s_asgn rfl rfl ?_) | (apply ks_pick; refine s_pick rfl rfl ?_; first | (apply kp_t; refine pk_t rfl ?_) | (apply kp_f; refine pk_f rfl ?_) | refine pk_s rfl rfl ?_) | (apply ks_field; first | refine s_field (c_field0 rfl rfl) rfl ?_ | refine s_field (c_field rfl rfl) rfl ?_) | (apply ks_un; refine s_un (y_un rfl rfl rfl) rfl ?_) | (apply ks_extr; refine s_extr (y_extract rfl rfl rfl) rfl ?_) | (apply ks_build; first | refine s_build (c_build rfl rfl rfl) rfl ?_ | first | refine c_bsA rfl rfl rfl rfl rfl rfl rfl rfl rfl (fun _ => ?_) | (refine c_storew rfl rfl rfl rfl rfl rfl rfl rfl ?_)) | (apply ks_index; first | first | refine c_bsA rfl rfl rfl rfl rfl rfl rfl rfl rfl (fun _ => ?_) | (refine c_storew rfl rfl rfl rfl rfl rfl rfl rfl ?_) | refine s_index (c_indexArr rfl rfl rfl (by omega) (by omega) rfl) rfl ?_ | refine s_index (c_indexArrA rfl rfl rfl (by omega) (by omega) rfl) rfl ?_ | refine s_index (c_indexStr rfl rfl rfl (by omega) rfl) rfl ?_) | (apply ks_fn; first | first | refine c_callv rfl rfl rfl (c1 _) rfl rfl ?_) | (apply ks_bi; first | first | refine c_bsA rfl rfl rfl rfl rfl rfl rfl rfl rfl (fun _ => ?_) | (refine c_storew rfl rfl rfl rfl rfl rfl rfl rfl ?_) | refine s_call (c_len rfl rfl) rfl ?_ | refine s_call (c_len_str rfl rfl) rfl ?_ | refine s_call (c_bi rfl rfl rfl rfl) rfl ?_ | refine c_append rfl rfl rfl rfl (by first | rfl | simp [ints]) (by first | rfl | exact ints_one _ | exact octs_one _ | exact strs_one _) (by omega) rfl rfl (fun _ _ => ?_) | refine c_append_nil rfl rfl rfl rfl (by first | rfl | simp [ints]) (by first | rfl | exact ints_one _ | exact octs_one _ | exact strs_one _) (by omega) rfl rfl (fun _ _ => ?_)) | (apply ks_store; first | first | refine c_store rfl rfl rfl rfl rfl rfl rfl ?_ | refine c_storew rfl rfl rfl rfl rfl rfl rfl rfl ?_ | refine c_storee rfl rfl rfl rfl rfl (by omega) rfl ?_ | first | refine c_bsA rfl rfl rfl rfl rfl rfl rfl rfl rfl (fun _ => ?_) | (refine c_storew rfl rfl rfl rfl rfl rfl rfl rfl ?_)) | (apply ks_box; refine c_box rfl rfl rfl rfl rfl rfl (fun _ => ?_)) | (apply ks_alloc; refine c_alloc rfl rfl rfl rfl (fun _ => ?_)) | (apply ks_bs; first | refine c_buildSlice rfl rfl rfl rfl rfl rfl rfl rfl rfl rfl (fun _ => ?_) | first | refine c_bsA rfl rfl rfl rfl rfl rfl rfl rfl rfl (fun _ => ?_) | (refine c_storew rfl rfl rfl rfl rfl rfl rfl rfl ?_)) | (apply ks_guard; first | (refine sl_gd rfl rfl rfl rfl ?_; first | (apply gd_t) | (apply gd_ft) | (apply gd_tf) | (apply gd_dec_t <;> intro hq <;> (try (exfalso; omega))) | (apply gd_dec_f <;> intro hq <;> (try (exfalso; omega))) | (apply gd_beq_t <;> intro hq <;> (try (exfalso; omega))) | (apply gd_beq_f <;> intro hq <;> (try (exfalso; omega))) | (apply gd_bne_t <;> intro hq <;> (try (exfalso; omega))) | (apply gd_bne_f <;> intro hq <;> (try (exfalso; omega))) | (apply gd_not_t <;> intro hq) | (apply gd_not_f <;> intro hq) | (apply gd_raw_t <;> intro hq) | (apply gd_raw_f <;> intro hq)) | refine sl_skip_u rfl rfl rfl rfl rfl rfl ?_) | first | refine c_bsA rfl rfl rfl rfl rfl rfl rfl rfl rfl (fun _ => ?_) | (refine c_storew rfl rfl rfl rfl rfl rfl rfl rfl ?_)) | (apply sw_seq) | (apply at_srd) | (apply sw_skip) | (apply sw_ret) | (apply sw_exit) | (apply sw_block) | ((fail_if_success (refine g_reg (id := 5) ?_)); apply sw_region) | (refine sw_cd rfl ?_; first | (apply gd_t) | (apply gd_ft) | (apply gd_tf) | (apply gd_dec_t <;> intro hq <;> (try (exfalso; omega))) | (apply gd_dec_f <;> intro hq <;> (try (exfalso; omega))) | (apply gd_beq_t <;> intro hq <;> (try (exfalso; omega))) | (apply gd_beq_f <;> intro hq <;> (try (exfalso; omega))) | (apply gd_bne_t <;> intro hq <;> (try (exfalso; omega))) | (apply gd_bne_f <;> intro hq <;> (try (exfalso; omega))) | (apply gd_not_t <;> intro hq) | (apply gd_not_f <;> intro hq) | (apply gd_raw_t <;> intro hq) | (apply gd_raw_f <;> intro hq)) | (apply at_thn) | (apply at_thn_ret) | (apply at_thn_exit) | (apply at_inb) | (apply at_inb_ret) | (apply at_inb_exit) | refine at_inb_pass rfl ?_ | ((fail_if_success (refine g_reg (id := 5) ?_)); refine c_drawn (by kernel_rfl) ?_))
  all_goals (try simp only [decide_eq_true_eq, decide_eq_false_iff_not] at *)
  all_goals first | (exfalso; omega) | skip
  rename_i b2 b4 bd b6
  have hs1 : x < 128 → signB x = strOfNums [x] := fun h => if_pos h
  have hs2 : ¬ x < 128 → signB x = e0 := fun h => if_neg h
  refine sw_cut2 (α := Unit) (fun _ => [(1, .int .i64 x), (2, .pointer (some ⟨b2, 0, none⟩)), (4, .pointer (some ⟨b4, 0, none⟩)), (5, .slice none 0 0), (6, .pointer (some ⟨b6, 0, none⟩)), (7, .slice (some ⟨bd, 0, none⟩) 1 1), (8, .string (signB x))]) (fun _ => .blk b6 23 [.int .i64 0, .int .i64 0, .string e0, .string e0, .string e0] :: .own 35 6 (some ⟨bd, 0, none⟩) 1 1 [.int .i64 6, .int .i64 0, .int .i64 0, .string e0, .slice none 0 0, .string e0] :: .blk b4 23 [.int .i64 0, .int .i64 0, .string e0, .string e0, .string e0] :: .blk b2 23 [.int .i64 s, .int .i64 m, .string i, .string g, .string t] :: H) (fun _ => True) ?_ ?_
  · repeat' (first | (apply g_sl; first | (apply ks_nil; refine sl_nil ?_) | (apply ks_move; refine s_move rfl rfl ?_) | (apply ks_bin; refine s_bin rfl rfl rfl ?_; first | fail | (first | (apply kb_add; first | refine bb_add ⟨by omega, by omega⟩ ?_ | refine bb_of rfl ?_) | refine bb_of rfl ?_)) | (apply ks_load; first | (refine s_load rfl rfl ?_; first | refine ld_cell rfl ?_ | refine ld_whole rfl ?_ | refine ld_elem rfl ?_ | refine ld_part rfl rfl ?_) | fail) | (apply ks_asgn; refine s_asgn rfl rfl ?_) | (apply ks_pick; refine s_pick rfl rfl ?_; first | (apply kp_t; refine pk_t rfl ?_) | (apply kp_f; refine pk_f rfl ?_) | refine pk_s rfl rfl ?_) | (apply ks_field; first | refine s_field (c_field0 rfl rfl) rfl ?_ | refine s_field (c_field rfl rfl) rfl ?_) | (apply ks_un; refine s_un (y_un rfl rfl rfl) rfl ?_) | (apply ks_extr; refine s_extr (y_extract rfl rfl rfl) rfl ?_) | (apply ks_build; first | refine s_build (c_build rfl rfl rfl) rfl ?_ | fail) | (apply ks_index; first | fail | refine s_index (c_indexArr rfl rfl rfl (by omega) (by omega) rfl) rfl ?_ | refine s_index (c_indexArrA rfl rfl rfl (by omega) (by omega) rfl) rfl ?_ | refine s_index (c_indexStr rfl rfl rfl (by omega) rfl) rfl ?_) | (apply ks_fn; first | refine c_callv rfl rfl rfl (c5 _ _ _ inferInstance (by omega)) rfl rfl ?_) | (apply ks_bi; first | fail | refine s_call (c_len rfl rfl) rfl ?_ | refine s_call (c_len_str rfl rfl) rfl ?_ | refine s_call (c_bi rfl rfl rfl rfl) rfl ?_ | refine c_append rfl rfl rfl rfl (by first | rfl | simp [ints]) (by first | rfl | exact ints_one _ | exact octs_one _ | exact strs_one _) (by omega) rfl rfl (fun _ _ => ?_) | refine c_append_nil rfl rfl rfl rfl (by first | rfl | simp [ints]) (by first | rfl | exact ints_one _ | exact octs_one _ | exact strs_one _) (by omega) rfl rfl (fun _ _ => ?_)) | (apply ks_store; first | first | refine c_store rfl rfl rfl rfl rfl rfl rfl ?_ | refine c_storew rfl rfl rfl rfl rfl rfl rfl rfl ?_ | refine c_storee rfl rfl rfl rfl rfl (by omega) rfl ?_ | fail) | (apply ks_box; refine c_box rfl rfl rfl rfl rfl rfl (fun _ => ?_)) | (apply ks_alloc; refine c_alloc rfl rfl rfl rfl (fun _ => ?_)) | (apply ks_bs; first | refine c_buildSlice rfl rfl rfl rfl rfl rfl rfl rfl rfl rfl (fun _ => ?_) | fail) | (apply ks_guard; first | (refine sl_gd rfl rfl rfl rfl ?_; first | (apply gd_t) | (apply gd_ft) | (apply gd_tf) | (apply gd_dec_t <;> intro hq <;> (try (exfalso; omega))) | (apply gd_dec_f <;> intro hq <;> (try (exfalso; omega))) | (apply gd_beq_t <;> intro hq <;> (try (exfalso; omega))) | (apply gd_beq_f <;> intro hq <;> (try (exfalso; omega))) | (apply gd_bne_t <;> intro hq <;> (try (exfalso; omega))) | (apply gd_bne_f <;> intro hq <;> (try (exfalso; omega))) | (apply gd_not_t <;> intro hq) | (apply gd_not_f <;> intro hq) | (apply gd_raw_t <;> intro hq) | (apply gd_raw_f <;> intro hq)) | refine sl_skip_u rfl rfl rfl rfl rfl rfl ?_) | fail) | (apply sw_seq) | (apply at_srd) | (apply sw_skip) | (apply sw_ret) | (apply sw_exit) | (apply sw_block) | ((fail_if_success (refine g_reg (id := 7) ?_)); apply sw_region) | (refine sw_cd rfl ?_; first | (apply gd_t) | (apply gd_ft) | (apply gd_tf) | (apply gd_dec_t <;> intro hq <;> (try (exfalso; omega))) | (apply gd_dec_f <;> intro hq <;> (try (exfalso; omega))) | (apply gd_beq_t <;> intro hq <;> (try (exfalso; omega))) | (apply gd_beq_f <;> intro hq <;> (try (exfalso; omega))) | (apply gd_bne_t <;> intro hq <;> (try (exfalso; omega))) | (apply gd_bne_f <;> intro hq <;> (try (exfalso; omega))) | (apply gd_not_t <;> intro hq) | (apply gd_not_f <;> intro hq) | (apply gd_raw_t <;> intro hq) | (apply gd_raw_f <;> intro hq)) | (apply at_thn) | (apply at_thn_ret) | (apply at_thn_exit) | (apply at_inb) | (apply at_inb_ret) | (apply at_inb_exit) | refine at_inb_pass rfl ?_ | ((fail_if_success (refine g_reg (id := 7) ?_)); refine c_drawn (by kernel_rfl) ?_))
    · rw [hs1 (by omega)]
      exact at_meet () trivial (by repeat (first | exact Le.nil _ | refine Le.cons (by first | rfl | (exact congrArg some (congrArg (Value.int _) (by omega)))) ?_)) (fun _ hw => hw.subs (by repeat (first | refine Subs.cons (by repeat constructor) ?_ | exact Subs.sub (by repeat (first | exact List.Sublist.refl _ | exact List.nil_sublist _ | refine List.Sublist.cons _ ?_)))))
    · rw [hs2 (by omega)]
      exact at_meet () trivial (by repeat (first | exact Le.nil _ | refine Le.cons (by first | rfl | (exact congrArg some (congrArg (Value.int _) (by omega)))) ?_)) (fun _ hw => hw.subs (by repeat (first | refine Subs.cons (by repeat constructor) ?_ | exact Subs.sub (by repeat (first | exact List.Sublist.refl _ | exact List.nil_sublist _ | refine List.Sublist.cons _ ?_)))))
  intro _ _
  clear hs1 hs2
  repeat' (first | (apply g_sl; first | (apply ks_nil; refine sl_nil ?_) | (apply ks_move; refine s_move rfl rfl ?_) | (apply ks_bin; refine s_bin rfl rfl rfl ?_; first | first | (refine s_index (c_indexNumV hv rfl rfl rfl (by omega) (by omega)) rfl ?_) | (first | (apply kb_add; first | refine bb_add ⟨by omega, by omega⟩ ?_ | refine bb_of rfl ?_) | refine bb_of rfl ?_)) | (apply ks_load; first | (refine s_load rfl rfl ?_; first | refine ld_cell rfl ?_ | refine ld_whole rfl ?_ | refine ld_elem rfl ?_ | refine ld_part rfl rfl ?_) | first | (refine s_index (c_indexNumV hv rfl rfl rfl (by omega) (by omega)) rfl ?_)) | (apply ks_asgn; refine s_asgn rfl rfl ?_) | (apply ks_pick; refine s_pick rfl rfl ?_; first | (apply kp_t; refine pk_t rfl ?_) | (apply kp_f; refine pk_f rfl ?_) | refine pk_s rfl rfl ?_) | (apply ks_field; first | refine s_field (c_field0 rfl rfl) rfl ?_ | refine s_field (c_field rfl rfl) rfl ?_) | (apply ks_un; refine s_un (y_un rfl rfl rfl) rfl ?_) | (apply ks_extr; refine s_extr (y_extract rfl rfl rfl) rfl ?_) | (apply ks_build; first | refine s_build (c_build rfl rfl rfl) rfl ?_ | first | (refine s_index (c_indexNumV hv rfl rfl rfl (by omega) (by omega)) rfl ?_)) | (apply ks_index; first | first | (refine s_index (c_indexNumV hv rfl rfl rfl (by omega) (by omega)) rfl ?_) | refine s_index (c_indexArr rfl rfl rfl (by omega) (by omega) rfl) rfl ?_ | refine s_index (c_indexArrA rfl rfl rfl (by omega) (by omega) rfl) rfl ?_ | refine s_index (c_indexStr rfl rfl rfl (by omega) rfl) rfl ?_) | (apply ks_fn; first | first | refine c_callv rfl rfl rfl (c2 _) rfl rfl ?_ | refine c_callv rfl rfl rfl (c3 _) rfl rfl ?_ | refine c_callv rfl rfl rfl (c4 _) rfl rfl ?_) | (apply ks_bi; first | first | (refine s_index (c_indexNumV hv rfl rfl rfl (by omega) (by omega)) rfl ?_) | refine s_call (c_len rfl rfl) rfl ?_ | refine s_call (c_len_str rfl rfl) rfl ?_ | refine s_call (c_bi rfl rfl rfl rfl) rfl ?_ | refine c_append rfl rfl rfl rfl (by first | rfl | simp [ints]) (by first | rfl | exact ints_one _ | exact octs_one _ | exact strs_one _) (by omega) rfl rfl (fun _ _ => ?_) | refine c_append_nil rfl rfl rfl rfl (by first | rfl | simp [ints]) (by first | rfl | exact ints_one _ | exact octs_one _ | exact strs_one _) (by omega) rfl rfl (fun _ _ => ?_)) | (apply ks_store; first | first | refine c_store rfl rfl rfl rfl rfl rfl rfl ?_ | refine c_storew rfl rfl rfl rfl rfl rfl rfl rfl ?_ | refine c_storee rfl rfl rfl rfl rfl (by omega) rfl ?_ | first | (refine s_index (c_indexNumV hv rfl rfl rfl (by omega) (by omega)) rfl ?_)) | (apply ks_box; refine c_box rfl rfl rfl rfl rfl rfl (fun _ => ?_)) | (apply ks_alloc; refine c_alloc rfl rfl rfl rfl (fun _ => ?_)) | (apply ks_bs; first | refine c_buildSlice rfl rfl rfl rfl rfl rfl rfl rfl rfl rfl (fun _ => ?_) | first | (refine s_index (c_indexNumV hv rfl rfl rfl (by omega) (by omega)) rfl ?_)) | (apply ks_guard; first | (refine sl_gd rfl rfl rfl rfl ?_; first | (apply gd_t) | (apply gd_ft) | (apply gd_tf) | (apply gd_dec_t <;> intro hq <;> (try (exfalso; omega))) | (apply gd_dec_f <;> intro hq <;> (try (exfalso; omega))) | (apply gd_beq_t <;> intro hq <;> (try (exfalso; omega))) | (apply gd_beq_f <;> intro hq <;> (try (exfalso; omega))) | (apply gd_bne_t <;> intro hq <;> (try (exfalso; omega))) | (apply gd_bne_f <;> intro hq <;> (try (exfalso; omega))) | (apply gd_not_t <;> intro hq) | (apply gd_not_f <;> intro hq) | (apply gd_raw_t <;> intro hq) | (apply gd_raw_f <;> intro hq)) | refine sl_skip_u rfl rfl rfl rfl rfl rfl ?_) | first | (refine s_index (c_indexNumV hv rfl rfl rfl (by omega) (by omega)) rfl ?_)) | (apply sw_seq) | (apply at_srd) | (apply sw_skip) | (apply sw_ret) | (apply sw_exit) | (apply sw_block) | ((fail_if_success (refine g_reg (id := 8) ?_)); apply sw_region) | (refine sw_cd rfl ?_; first | (apply gd_t) | (apply gd_ft) | (apply gd_tf) | (apply gd_dec_t <;> intro hq <;> (try (exfalso; omega))) | (apply gd_dec_f <;> intro hq <;> (try (exfalso; omega))) | (apply gd_beq_t <;> intro hq <;> (try (exfalso; omega))) | (apply gd_beq_f <;> intro hq <;> (try (exfalso; omega))) | (apply gd_bne_t <;> intro hq <;> (try (exfalso; omega))) | (apply gd_bne_f <;> intro hq <;> (try (exfalso; omega))) | (apply gd_not_t <;> intro hq) | (apply gd_not_f <;> intro hq) | (apply gd_raw_t <;> intro hq) | (apply gd_raw_f <;> intro hq)) | (apply at_thn) | (apply at_thn_ret) | (apply at_thn_exit) | (apply at_inb) | (apply at_inb_ret) | (apply at_inb_exit) | refine at_inb_pass rfl ?_ | ((fail_if_success (refine g_reg (id := 8) ?_)); refine c_drawn (by kernel_rfl) ?_))
  refine sw_cut2 (α := Unit) (fun _ => [(1, .int .i64 x), (2, .pointer (some ⟨b2, 0, none⟩)), (4, .pointer (some ⟨b4, 0, none⟩)), (5, .slice none 0 0), (6, .pointer (some ⟨b6, 0, none⟩)), (7, .slice (some ⟨bd, 0, none⟩) 1 1), (8, .string (signB x)), (9, .int .u8 (whatQ s x))]) (fun _ => .blk b6 23 [.int .i64 0, .int .i64 0, .string e0, .string e0, .string e0] :: .own 35 6 (some ⟨bd, 0, none⟩) 1 1 [.int .i64 6, .int .i64 0, .int .i64 0, .string e0, .slice none 0 0, .string e0] :: .blk b4 23 [.int .i64 0, .int .i64 0, .string e0, .string e0, .string e0] :: .blk b2 23 [.int .i64 s, .int .i64 m, .string i, .string g, .string t] :: H) (fun _ => True) ?_ ?_
  · repeat' (first | (apply g_sl; first | (apply ks_nil; refine sl_nil ?_) | (apply ks_move; refine s_move rfl rfl ?_) | (apply ks_bin; refine s_bin rfl rfl rfl ?_; first | fail | (first | (apply kb_add; first | refine bb_add ⟨by omega, by omega⟩ ?_ | refine bb_of rfl ?_) | refine bb_of rfl ?_)) | (apply ks_load; first | (refine s_load rfl rfl ?_; first | refine ld_cell rfl ?_ | refine ld_whole rfl ?_ | refine ld_elem rfl ?_ | refine ld_part rfl rfl ?_) | fail) | (apply ks_asgn; refine s_asgn rfl rfl ?_) | (apply ks_pick; refine s_pick rfl rfl ?_; first | (apply kp_t; refine pk_t rfl ?_) | (apply kp_f; refine pk_f rfl ?_) | refine pk_s rfl rfl ?_) | (apply ks_field; first | refine s_field (c_field0 rfl rfl) rfl ?_ | refine s_field (c_field rfl rfl) rfl ?_) | (apply ks_un; refine s_un (y_un rfl rfl rfl) rfl ?_) | (apply ks_extr; refine s_extr (y_extract rfl rfl rfl) rfl ?_) | (apply ks_build; first | refine s_build (c_build rfl rfl rfl) rfl ?_ | fail) | (apply ks_index; first | fail | refine s_index (c_indexArr rfl rfl rfl (by omega) (by omega) rfl) rfl ?_ | refine s_index (c_indexArrA rfl rfl rfl (by omega) (by omega) rfl) rfl ?_ | refine s_index (c_indexStr rfl rfl rfl (by omega) rfl) rfl ?_) | (apply ks_fn; first | fail) | (apply ks_bi; first | fail | refine s_call (c_len rfl rfl) rfl ?_ | refine s_call (c_len_str rfl rfl) rfl ?_ | refine s_call (c_bi rfl rfl rfl rfl) rfl ?_ | refine c_append rfl rfl rfl rfl (by first | rfl | simp [ints]) (by first | rfl | exact ints_one _ | exact octs_one _ | exact strs_one _) (by omega) rfl rfl (fun _ _ => ?_) | refine c_append_nil rfl rfl rfl rfl (by first | rfl | simp [ints]) (by first | rfl | exact ints_one _ | exact octs_one _ | exact strs_one _) (by omega) rfl rfl (fun _ _ => ?_)) | (apply ks_store; first | first | refine c_store rfl rfl rfl rfl rfl rfl rfl ?_ | refine c_storew rfl rfl rfl rfl rfl rfl rfl rfl ?_ | refine c_storee rfl rfl rfl rfl rfl (by omega) rfl ?_ | fail) | (apply ks_box; refine c_box rfl rfl rfl rfl rfl rfl (fun _ => ?_)) | (apply ks_alloc; refine c_alloc rfl rfl rfl rfl (fun _ => ?_)) | (apply ks_bs; first | refine c_buildSlice rfl rfl rfl rfl rfl rfl rfl rfl rfl rfl (fun _ => ?_) | fail) | (apply ks_guard; first | (refine sl_gd rfl rfl rfl rfl ?_; first | (apply gd_t) | (apply gd_ft) | (apply gd_tf) | (apply gd_dec_t <;> intro hq <;> (try (exfalso; omega))) | (apply gd_dec_f <;> intro hq <;> (try (exfalso; omega))) | (apply gd_beq_t <;> intro hq <;> (try (exfalso; omega))) | (apply gd_beq_f <;> intro hq <;> (try (exfalso; omega))) | (apply gd_bne_t <;> intro hq <;> (try (exfalso; omega))) | (apply gd_bne_f <;> intro hq <;> (try (exfalso; omega))) | (apply gd_not_t <;> intro hq) | (apply gd_not_f <;> intro hq) | (apply gd_raw_t <;> intro hq) | (apply gd_raw_f <;> intro hq)) | refine sl_skip_u rfl rfl rfl rfl rfl rfl ?_) | fail) | (apply sw_seq) | (apply at_srd) | (apply sw_skip) | (apply sw_ret) | (apply sw_exit) | (apply sw_block) | ((fail_if_success (refine g_reg (id := 10) ?_)); apply sw_region) | (refine sw_cd rfl ?_; first | (apply gd_t) | (apply gd_ft) | (apply gd_tf) | (apply gd_dec_t <;> intro hq <;> (try (exfalso; omega))) | (apply gd_dec_f <;> intro hq <;> (try (exfalso; omega))) | (apply gd_beq_t <;> intro hq <;> (try (exfalso; omega))) | (apply gd_beq_f <;> intro hq <;> (try (exfalso; omega))) | (apply gd_bne_t <;> intro hq <;> (try (exfalso; omega))) | (apply gd_bne_f <;> intro hq <;> (try (exfalso; omega))) | (apply gd_not_t <;> intro hq) | (apply gd_not_f <;> intro hq) | (apply gd_raw_t <;> intro hq) | (apply gd_raw_f <;> intro hq)) | (apply at_thn) | (apply at_thn_ret) | (apply at_thn_exit) | (apply at_inb) | (apply at_inb_ret) | (apply at_inb_exit) | refine at_inb_pass rfl ?_ | ((fail_if_success (refine g_reg (id := 10) ?_)); refine c_drawn (by kernel_rfl) ?_))
    all_goals
      rw [HQ.out]
      first | rw [if_pos ⟨by omega, by omega⟩] | rw [if_neg (by omega)]
      exact at_meet () trivial (by repeat (first | exact Le.nil _ | refine Le.cons (by first | rfl | (exact congrArg some (congrArg (Value.int _) (by omega)))) ?_)) (fun _ hw => hw.subs (by repeat (first | refine Subs.cons (by repeat constructor) ?_ | exact Subs.sub (by repeat (first | exact List.Sublist.refl _ | exact List.nil_sublist _ | refine List.Sublist.cons _ ?_)))))
  intro _ _
  have hQ : whatQ s x = 82 := by rw [HQ.out, if_neg (by omega)]; exact hw
  generalize whatQ s x = W at *
  clear HQ hv
  subst hQ
  clear hcl hw htz c1 c2 c3 c4 c5 c6
  have hl1 := step1_len x
  have hz1 : stepW (1, 0, e0, e0, e0) x (whatQ 1 x) (sP 1, []) = step1 x := rfl
  rw [hz1] at c7
  generalize step1 x = R1 at *
  repeat' (first | (apply g_sl; first | (apply ks_nil; refine sl_nil ?_) | (apply ks_move; refine s_move rfl rfl ?_) | (apply ks_bin; refine s_bin rfl rfl rfl ?_; first | first | refine c_bsA rfl rfl rfl rfl rfl rfl rfl rfl rfl (fun _ => ?_) | (refine c_storew rfl rfl rfl rfl rfl rfl rfl rfl ?_) | (first | (apply kb_add; first | refine bb_add ⟨by omega, by omega⟩ ?_ | refine bb_of rfl ?_) | refine bb_of rfl ?_)) | (apply ks_load; first | (refine s_load rfl rfl ?_; first | refine ld_cell rfl ?_ | refine ld_whole rfl ?_ | refine ld_elem rfl ?_ | refine ld_part rfl rfl ?_) | first | refine c_bsA rfl rfl rfl rfl rfl rfl rfl rfl rfl (fun _ => ?_) | (refine c_storew rfl rfl rfl rfl rfl rfl rfl rfl ?_)) | (apply ks_asgn; refine s_asgn rfl rfl ?_) | (apply ks_pick; refine s_pick rfl rfl ?_; first | (apply kp_t; refine pk_t rfl ?_) | (apply kp_f; refine pk_f rfl ?_) | refine pk_s rfl rfl ?_) | (apply ks_field; first | refine s_field (c_field0 rfl rfl) rfl ?_ | refine s_field (c_field rfl rfl) rfl ?_) | (apply ks_un; refine s_un (y_un rfl rfl rfl) rfl ?_) | (apply ks_extr; refine s_extr (y_extract rfl rfl rfl) rfl ?_) | (apply ks_build; first | refine s_build (c_build rfl rfl rfl) rfl ?_ | first | refine c_bsA rfl rfl rfl rfl rfl rfl rfl rfl rfl (fun _ => ?_) | (refine c_storew rfl rfl rfl rfl rfl rfl rfl rfl ?_)) | (apply ks_index; first | first | refine c_bsA rfl rfl rfl rfl rfl rfl rfl rfl rfl (fun _ => ?_) | (refine c_storew rfl rfl rfl rfl rfl rfl rfl rfl ?_) | refine s_index (c_indexArr rfl rfl rfl (by omega) (by omega) rfl) rfl ?_ | refine s_index (c_indexArrA rfl rfl rfl (by omega) (by omega) rfl) rfl ?_ | refine s_index (c_indexStr rfl rfl rfl (by omega) rfl) rfl ?_) | (apply ks_fn; first | (refine c_call rfl rfl rfl (c7 _) rfl rfl ?_; rintro _ _ ⟨F, X, a3, c3, rfl, hX1, hX2, hX3, rfl⟩)) | (apply ks_bi; first | first | refine c_bsA rfl rfl rfl rfl rfl rfl rfl rfl rfl (fun _ => ?_) | (refine c_storew rfl rfl rfl rfl rfl rfl rfl rfl ?_) | refine s_call (c_len rfl rfl) rfl ?_ | refine s_call (c_len_str rfl rfl) rfl ?_ | refine s_call (c_bi rfl rfl rfl rfl) rfl ?_ | refine c_append rfl rfl rfl rfl (by first | rfl | simp [ints]) (by first | rfl | exact ints_one _ | exact octs_one _ | exact strs_one _) (by omega) rfl rfl (fun _ _ => ?_) | refine c_append_nil rfl rfl rfl rfl (by first | rfl | simp [ints]) (by first | rfl | exact ints_one _ | exact octs_one _ | exact strs_one _) (by omega) rfl rfl (fun _ _ => ?_)) | (apply ks_store; first | first | refine c_store rfl rfl rfl rfl rfl rfl rfl ?_ | refine c_storew rfl rfl rfl rfl rfl rfl rfl rfl ?_ | refine c_storee rfl rfl rfl rfl rfl (by omega) rfl ?_ | first | refine c_bsA rfl rfl rfl rfl rfl rfl rfl rfl rfl (fun _ => ?_) | (refine c_storew rfl rfl rfl rfl rfl rfl rfl rfl ?_)) | (apply ks_box; refine c_box rfl rfl rfl rfl rfl rfl (fun _ => ?_)) | (apply ks_alloc; refine c_alloc rfl rfl rfl rfl (fun _ => ?_)) | (apply ks_bs; first | refine c_buildSlice rfl rfl rfl rfl rfl rfl rfl rfl rfl rfl (fun _ => ?_) | first | refine c_bsA rfl rfl rfl rfl rfl rfl rfl rfl rfl (fun _ => ?_) | (refine c_storew rfl rfl rfl rfl rfl rfl rfl rfl ?_)) | (apply ks_guard; first | (refine sl_gd rfl rfl rfl rfl ?_; first | (apply gd_t) | (apply gd_ft) | (apply gd_tf) | (apply gd_dec_t <;> intro hq <;> (try (exfalso; omega))) | (apply gd_dec_f <;> intro hq <;> (try (exfalso; omega))) | (apply gd_beq_t <;> intro hq <;> (try (exfalso; omega))) | (apply gd_beq_f <;> intro hq <;> (try (exfalso; omega))) | (apply gd_bne_t <;> intro hq <;> (try (exfalso; omega))) | (apply gd_bne_f <;> intro hq <;> (try (exfalso; omega))) | (apply gd_not_t <;> intro hq) | (apply gd_not_f <;> intro hq) | (apply gd_raw_t <;> intro hq) | (apply gd_raw_f <;> intro hq)) | refine sl_skip_u rfl rfl rfl rfl rfl rfl ?_) | first | refine c_bsA rfl rfl rfl rfl rfl rfl rfl rfl rfl (fun _ => ?_) | (refine c_storew rfl rfl rfl rfl rfl rfl rfl rfl ?_)) | (apply sw_seq) | (apply at_srd) | (apply sw_skip) | (apply sw_ret) | (apply sw_exit) | (apply sw_block) | ((fail_if_success (refine g_reg (id := 63) ?_)); apply sw_region) | (refine sw_cd rfl ?_; first | (apply gd_t) | (apply gd_ft) | (apply gd_tf) | (apply gd_dec_t <;> intro hq <;> (try (exfalso; omega))) | (apply gd_dec_f <;> intro hq <;> (try (exfalso; omega))) | (apply gd_beq_t <;> intro hq <;> (try (exfalso; omega))) | (apply gd_beq_f <;> intro hq <;> (try (exfalso; omega))) | (apply gd_bne_t <;> intro hq <;> (try (exfalso; omega))) | (apply gd_bne_f <;> intro hq <;> (try (exfalso; omega))) | (apply gd_not_t <;> intro hq) | (apply gd_not_f <;> intro hq) | (apply gd_raw_t <;> intro hq) | (apply gd_raw_f <;> intro hq)) | (apply at_thn) | (apply at_thn_ret) | (apply at_thn_exit) | (apply at_inb) | (apply at_inb_ret) | (apply at_inb_exit) | refine at_inb_pass rfl ?_ | ((fail_if_success (refine g_reg (id := 63) ?_)); refine c_drawn (by kernel_rfl) ?_))
  clear c7
  rename_i b11
  have hXl : X.length ≤ 1 := by rw [← List.length_map (f := plA), hX1]; exact hl1
  have hlx := acs_len X
  have hone := acs_one X
  haveI : RdC G (F ++ H) a3 (acs X) := (hX3.mono fun w hw => hw.sub (List.sublist_append_left F H)).rd
  refine sw_held (.own 35 6 (some ⟨bd, 0, none⟩) 1 1 (acs [dA]) :: .blk b4 23 [.int .i64 0, .int .i64 0, .string e0, .string e0, .string e0] :: .blk b11 23 [.int .i64 R1.1.1, .int .i64 R1.1.2.1, .string R1.1.2.2.1, .string R1.1.2.2.2.1, .string R1.1.2.2.2.2] :: (F ++ H)) (fun w hw => ?_) ?_
  · have h1 := hw.sub (List.Sublist.cons_cons _ (List.Sublist.append (List.Sublist.refl F) (List.Sublist.cons _ (List.Sublist.cons_cons _ (List.Sublist.cons_cons _ (List.Sublist.cons _ (List.Sublist.refl H)))))))
    exact h1.perm (((List.perm_middle.cons _).trans (List.Perm.swap _ _ _)).trans (((List.perm_middle.cons _).trans (List.Perm.swap _ _ _)).cons _))
  have hS : stepW (s, m, i, g, t) x 82 R1 = (R1.1, dP :: R1.2) := by
    unfold stepW
    (repeat (first | rw [if_pos (by first | assumption | omega)] | rw [if_neg (by first | assumption | omega)]))
  refine c_drawno (.blk b11 23 [.int .i64 R1.1.1, .int .i64 R1.1.2.1, .string R1.1.2.2.1, .string R1.1.2.2.2.1, .string R1.1.2.2.2.2] :: (F ++ H)) (fun _ hw => hw.subs (by repeat (first | refine Subs.cons (by repeat constructor) ?_ | exact Subs.sub (by repeat (first | exact List.Sublist.refl _ | exact List.nil_sublist _ | refine List.Sublist.cons _ ?_))))) ?_
  repeat' (first | (apply g_sl; first | (apply ks_nil; refine sl_nil ?_) | (apply ks_move; refine s_move rfl rfl ?_) | (apply ks_bin; refine s_bin rfl rfl rfl ?_; first | first | (refine c_append rfl rfl rfl rfl hlx hone (by omega) rfl rfl (fun _ _ => ?_)) | (refine c_storew rfl rfl rfl rfl rfl rfl rfl rfl ?_) | (first | (apply kb_add; first | refine bb_add ⟨by omega, by omega⟩ ?_ | refine bb_of rfl ?_) | refine bb_of rfl ?_)) | (apply ks_load; first | (refine s_load rfl rfl ?_; first | refine ld_cell rfl ?_ | refine ld_whole rfl ?_ | refine ld_elem rfl ?_ | refine ld_part rfl rfl ?_) | first | (refine c_append rfl rfl rfl rfl hlx hone (by omega) rfl rfl (fun _ _ => ?_)) | (refine c_storew rfl rfl rfl rfl rfl rfl rfl rfl ?_)) | (apply ks_asgn; refine s_asgn rfl rfl ?_) | (apply ks_pick; refine s_pick rfl rfl ?_; first | (apply kp_t; refine pk_t rfl ?_) | (apply kp_f; refine pk_f rfl ?_) | refine pk_s rfl rfl ?_) | (apply ks_field; first | refine s_field (c_field0 rfl rfl) rfl ?_ | refine s_field (c_field rfl rfl) rfl ?_) | (apply ks_un; refine s_un (y_un rfl rfl rfl) rfl ?_) | (apply ks_extr; refine s_extr (y_extract rfl rfl rfl) rfl ?_) | (apply ks_build; first | refine s_build (c_build rfl rfl rfl) rfl ?_ | first | (refine c_append rfl rfl rfl rfl hlx hone (by omega) rfl rfl (fun _ _ => ?_)) | (refine c_storew rfl rfl rfl rfl rfl rfl rfl rfl ?_)) | (apply ks_index; first | first | (refine c_append rfl rfl rfl rfl hlx hone (by omega) rfl rfl (fun _ _ => ?_)) | (refine c_storew rfl rfl rfl rfl rfl rfl rfl rfl ?_) | refine s_index (c_indexArr rfl rfl rfl (by omega) (by omega) rfl) rfl ?_ | refine s_index (c_indexArrA rfl rfl rfl (by omega) (by omega) rfl) rfl ?_ | refine s_index (c_indexStr rfl rfl rfl (by omega) rfl) rfl ?_) | (apply ks_fn; first | fail) | (apply ks_bi; first | first | (refine c_append rfl rfl rfl rfl hlx hone (by omega) rfl rfl (fun _ _ => ?_)) | (refine c_storew rfl rfl rfl rfl rfl rfl rfl rfl ?_) | refine s_call (c_len rfl rfl) rfl ?_ | refine s_call (c_len_str rfl rfl) rfl ?_ | refine s_call (c_bi rfl rfl rfl rfl) rfl ?_ | refine c_append rfl rfl rfl rfl (by first | rfl | simp [ints]) (by first | rfl | exact ints_one _ | exact octs_one _ | exact strs_one _) (by omega) rfl rfl (fun _ _ => ?_) | refine c_append_nil rfl rfl rfl rfl (by first | rfl | simp [ints]) (by first | rfl | exact ints_one _ | exact octs_one _ | exact strs_one _) (by omega) rfl rfl (fun _ _ => ?_)) | (apply ks_store; first | first | refine c_store rfl rfl rfl rfl rfl rfl rfl ?_ | refine c_storew rfl rfl rfl rfl rfl rfl rfl rfl ?_ | refine c_storee rfl rfl rfl rfl rfl (by omega) rfl ?_ | first | (refine c_append rfl rfl rfl rfl hlx hone (by omega) rfl rfl (fun _ _ => ?_)) | (refine c_storew rfl rfl rfl rfl rfl rfl rfl rfl ?_)) | (apply ks_box; refine c_box rfl rfl rfl rfl rfl rfl (fun _ => ?_)) | (apply ks_alloc; refine c_alloc rfl rfl rfl rfl (fun _ => ?_)) | (apply ks_bs; first | refine c_buildSlice rfl rfl rfl rfl rfl rfl rfl rfl rfl rfl (fun _ => ?_) | first | (refine c_append rfl rfl rfl rfl hlx hone (by omega) rfl rfl (fun _ _ => ?_)) | (refine c_storew rfl rfl rfl rfl rfl rfl rfl rfl ?_)) | (apply ks_guard; first | (refine sl_gd rfl rfl rfl rfl ?_; first | (apply gd_t) | (apply gd_ft) | (apply gd_tf) | (apply gd_dec_t <;> intro hq <;> (try (exfalso; omega))) | (apply gd_dec_f <;> intro hq <;> (try (exfalso; omega))) | (apply gd_beq_t <;> intro hq <;> (try (exfalso; omega))) | (apply gd_beq_f <;> intro hq <;> (try (exfalso; omega))) | (apply gd_bne_t <;> intro hq <;> (try (exfalso; omega))) | (apply gd_bne_f <;> intro hq <;> (try (exfalso; omega))) | (apply gd_not_t <;> intro hq) | (apply gd_not_f <;> intro hq) | (apply gd_raw_t <;> intro hq) | (apply gd_raw_f <;> intro hq)) | refine sl_skip_u rfl rfl rfl rfl rfl rfl ?_) | first | (refine c_append rfl rfl rfl rfl hlx hone (by omega) rfl rfl (fun _ _ => ?_)) | (refine c_storew rfl rfl rfl rfl rfl rfl rfl rfl ?_)) | (apply g_sq; first | (apply kq_nil; refine sq_nil ?_) | (apply kq_move; refine q_move rfl rfl ?_) | (apply kq_bin; refine q_bin rfl rfl rfl ?_; first | fail | (first | (apply kb_add; first | refine bb_add ⟨by omega, by omega⟩ ?_ | refine bb_of rfl ?_) | refine bb_of rfl ?_)) | (apply kq_load; first | (refine q_load rfl rfl ?_; first | refine ld_cell rfl ?_ | refine ld_whole rfl ?_ | refine ld_elem rfl ?_ | refine ld_part rfl rfl ?_) | fail) | (apply kq_asgn; refine q_asgn rfl rfl ?_) | (apply kq_pick; refine q_pick rfl rfl ?_; first | (apply kp_t; refine pk_t rfl ?_) | (apply kp_f; refine pk_f rfl ?_) | refine pk_s rfl rfl ?_) | (apply kq_field; first | refine q_field (c_field0 rfl rfl) rfl ?_ | refine q_field (c_field rfl rfl) rfl ?_) | (apply kq_un; refine q_un (y_un rfl rfl rfl) rfl ?_) | (apply kq_extr; refine q_extr (y_extract rfl rfl rfl) rfl ?_) | (apply kq_build; first | refine q_build (c_build rfl rfl rfl) rfl ?_ | fail) | (apply kq_index; first | fail | refine q_index (c_indexArr rfl rfl rfl (by omega) (by omega) rfl) rfl ?_ | refine q_index (c_indexArrA rfl rfl rfl (by omega) (by omega) rfl) rfl ?_ | refine q_index (c_indexStr rfl rfl rfl (by omega) rfl) rfl ?_) | (apply kq_fn; first | fail) | (apply kq_bi; first | fail | refine q_call (c_len rfl rfl) rfl ?_ | refine q_call (c_len_str rfl rfl) rfl ?_) | (apply kq_guard; first | (refine sq_gd rfl rfl rfl rfl ?_; first | (apply gd_t) | (apply gd_ft) | (apply gd_tf) | (apply gd_dec_t <;> intro hq <;> (try (exfalso; omega))) | (apply gd_dec_f <;> intro hq <;> (try (exfalso; omega))) | (apply gd_beq_t <;> intro hq <;> (try (exfalso; omega))) | (apply gd_beq_f <;> intro hq <;> (try (exfalso; omega))) | (apply gd_bne_t <;> intro hq <;> (try (exfalso; omega))) | (apply gd_bne_f <;> intro hq <;> (try (exfalso; omega))) | (apply gd_not_t <;> intro hq) | (apply gd_not_f <;> intro hq) | (apply gd_raw_t <;> intro hq) | (apply gd_raw_f <;> intro hq)) | refine sq_skip_u rfl rfl rfl rfl rfl rfl ?_) | fail) | (apply g_atso; refine so_back (k := 0) (fun _ hw => hw.subs (by repeat (first | refine Subs.cons (by repeat constructor) ?_ | exact Subs.sub (by repeat (first | exact List.Sublist.refl _ | exact List.nil_sublist _ | refine List.Sublist.cons _ ?_))))) ?_) | (apply g_sot; first | (refine sot_skip rfl ?_) | (refine sot_take rfl rfl rfl rfl (by kernel_rfl) (by decide +kernel) (by decide +kernel) ?_; (first | (apply ky_move; refine sy_val (y_move rfl rfl) ?_) | (apply ky_bin; refine sy_bin rfl rfl ?_; first | fail | (first | (apply kb_add; first | refine bb_add ⟨by omega, by omega⟩ ?_ | refine bb_of rfl ?_) | refine bb_of rfl ?_)) | (apply ky_load; first | (refine sy_load rfl ?_; first | refine ld_cell rfl ?_ | refine ld_whole rfl ?_ | refine ld_elem rfl ?_ | refine ld_part rfl rfl ?_) | fail) | (apply ky_asgn; refine sy_val (y_assign rfl rfl) ?_) | (apply ky_pick; refine sy_pick rfl ?_; first | (apply kp_t; refine pk_t rfl ?_) | (apply kp_f; refine pk_f rfl ?_) | refine pk_s rfl rfl ?_) | (apply ky_field; first | refine sy_val (c_field0 rfl rfl) ?_ | refine sy_val (c_field rfl rfl) ?_) | (apply ky_un; refine sy_val (y_un rfl rfl rfl) ?_) | (apply ky_extr; refine sy_val (y_extract rfl rfl rfl) ?_) | (apply ky_build; first | refine sy_val (c_build rfl rfl rfl) ?_ | fail) | (apply ky_index; first | fail | refine sy_val (c_indexArr rfl rfl rfl (by omega) (by omega) rfl) ?_ | refine sy_val (c_indexArrA rfl rfl rfl (by omega) (by omega) rfl) ?_ | refine sy_val (c_indexStr rfl rfl rfl (by omega) rfl) ?_) | (apply ky_bi; first | fail | refine sy_val (c_len rfl rfl) ?_ | refine sy_val (c_len_str rfl rfl) ?_) | fail)) | (refine sot_takeg rfl rfl rfl rfl rfl (by kernel_rfl) (by decide +kernel) (by decide +kernel) ?_; first | (apply gd_t) | (apply gd_ft) | (apply gd_tf) | (apply gd_dec_t <;> intro hq <;> (try (exfalso; omega))) | (apply gd_dec_f <;> intro hq <;> (try (exfalso; omega))) | (apply gd_beq_t <;> intro hq <;> (try (exfalso; omega))) | (apply gd_beq_f <;> intro hq <;> (try (exfalso; omega))) | (apply gd_bne_t <;> intro hq <;> (try (exfalso; omega))) | (apply gd_bne_f <;> intro hq <;> (try (exfalso; omega))) | (apply gd_not_t <;> intro hq) | (apply gd_not_f <;> intro hq) | (apply gd_raw_t <;> intro hq) | (apply gd_raw_f <;> intro hq)) | (refine sot_next rfl ?_) | (refine so_done (by decide +kernel) ?_) | (refine sot_all (by kernel_rfl) ?_)) | (apply g_soa; first | (refine soa_end rfl) | (refine soa_no (by decide +kernel) ?_) | (refine soa_yes rfl ?_ ?_)) | (apply g_sy; (first | (apply ky_move; refine sy_val (y_move rfl rfl) ?_) | (apply ky_bin; refine sy_bin rfl rfl ?_; first | fail | (first | (apply kb_add; first | refine bb_add ⟨by omega, by omega⟩ ?_ | refine bb_of rfl ?_) | refine bb_of rfl ?_)) | (apply ky_load; first | (refine sy_load rfl ?_; first | refine ld_cell rfl ?_ | refine ld_whole rfl ?_ | refine ld_elem rfl ?_ | refine ld_part rfl rfl ?_) | fail) | (apply ky_asgn; refine sy_val (y_assign rfl rfl) ?_) | (apply ky_pick; refine sy_pick rfl ?_; first | (apply kp_t; refine pk_t rfl ?_) | (apply kp_f; refine pk_f rfl ?_) | refine pk_s rfl rfl ?_) | (apply ky_field; first | refine sy_val (c_field0 rfl rfl) ?_ | refine sy_val (c_field rfl rfl) ?_) | (apply ky_un; refine sy_val (y_un rfl rfl rfl) ?_) | (apply ky_extr; refine sy_val (y_extract rfl rfl rfl) ?_) | (apply ky_build; first | refine sy_val (c_build rfl rfl rfl) ?_ | fail) | (apply ky_index; first | fail | refine sy_val (c_indexArr rfl rfl rfl (by omega) (by omega) rfl) ?_ | refine sy_val (c_indexArrA rfl rfl rfl (by omega) (by omega) rfl) ?_ | refine sy_val (c_indexStr rfl rfl rfl (by omega) rfl) ?_) | (apply ky_bi; first | fail | refine sy_val (c_len rfl rfl) ?_ | refine sy_val (c_len_str rfl rfl) ?_) | fail)) | (apply sw_seq) | (apply at_srd) | (apply sw_skip) | (apply sw_ret) | (apply sw_exit) | (apply sw_block) | (apply sw_region) | (refine sw_cd rfl ?_; first | (apply gd_t) | (apply gd_ft) | (apply gd_tf) | (apply gd_dec_t <;> intro hq <;> (try (exfalso; omega))) | (apply gd_dec_f <;> intro hq <;> (try (exfalso; omega))) | (apply gd_beq_t <;> intro hq <;> (try (exfalso; omega))) | (apply gd_beq_f <;> intro hq <;> (try (exfalso; omega))) | (apply gd_bne_t <;> intro hq <;> (try (exfalso; omega))) | (apply gd_bne_f <;> intro hq <;> (try (exfalso; omega))) | (apply gd_not_t <;> intro hq) | (apply gd_not_f <;> intro hq) | (apply gd_raw_t <;> intro hq) | (apply gd_raw_f <;> intro hq)) | (apply at_thn) | (apply at_thn_ret) | (apply at_thn_exit) | (apply at_inb) | (apply at_inb_ret) | (apply at_inb_exit) | refine at_inb_pass rfl ?_ | (fail) | refine c_drawn (by kernel_rfl) ?_)
  all_goals
    rename_i a5 c5
    refine e_scc (.own 35 6 a5 (1 + X.length) c5 (acs [dA] ++ acs X) :: (F ++ H)) (by first | exact .inl rfl | exact .inr rfl) rfl rfl rfl (fun _ hw => hw.subs (by repeat (first | refine Subs.cons (by repeat constructor) ?_ | exact Subs.sub (by repeat (first | exact List.Sublist.refl _ | exact List.nil_sublist _ | refine List.Sublist.cons _ ?_))))) ?_
    refine ⟨.own 35 6 a5 (1 + X.length) c5 (acs [dA] ++ acs X) :: F, dA :: X, a5, c5, ?_, ?_, ?_, ?_, rfl⟩
    · rw [hS, Nat.add_comm 1 X.length]
      rfl
    · rw [hS, List.map_cons, hX1]
      rfl
    · intro y hy
      rcases List.mem_cons.1 hy with rfl | hy
      · exact Sl.nil rfl
      · exact (hX2 y hy).cons
    · exact Sl.own List.mem_cons_self (by unfold acs; simp) (by rw [List.length_cons]; omega)
theorem step_out (G : Ctx) (H : List Ent) (s m : Int) (i g t : ByteArray) (x : Int) (hx : x < 0 ∨ 1114111 < x) : SC Tryd.prog G 30 [psV s m i g t, .int .i64 x] H (StepR G H ((s, m, i, g, t), [])) := by
  have c1 := fun H => bet_sv G H x 0 1114111
  refine sc_enter2 Tryd.func30 rfl rfl rfl rfl rfl ?_
  repeat' (first | (apply g_sl; first | (apply ks_nil; refine sl_nil ?_) | (apply ks_move; refine s_move rfl rfl ?_) | (apply ks_bin; refine s_bin rfl rfl rfl ?_; first | first | (refine c_storew rfl rfl rfl rfl rfl rfl rfl rfl ?_) | (first | (apply kb_add; first | refine bb_add ⟨by omega, by omega⟩ ?_ | refine bb_of rfl ?_) | refine bb_of rfl ?_)) | (apply ks_load; first | (refine s_load rfl rfl ?_; first | refine ld_cell rfl ?_ | refine ld_whole rfl ?_ | refine ld_elem rfl ?_ | refine ld_part rfl rfl ?_) | first | (refine c_storew rfl rfl rfl rfl rfl rfl rfl rfl ?_)) | (apply ks_asgn; refine s_asgn rfl rfl ?_) | (apply ks_pick; refine s_pick rfl rfl ?_; first | (apply kp_t; refine pk_t rfl ?_) | (apply kp_f; refine pk_f rfl ?_) | refine pk_s rfl rfl ?_) | (apply ks_field; first | refine s_field (c_field0 rfl rfl) rfl ?_ | refine s_field (c_field rfl rfl) rfl ?_) | (apply ks_un; refine s_un (y_un rfl rfl rfl) rfl ?_) | (apply ks_extr; refine s_extr (y_extract rfl rfl rfl) rfl ?_) | (apply ks_build; first | refine s_build (c_build rfl rfl rfl) rfl ?_ | first | (refine c_storew rfl rfl rfl rfl rfl rfl rfl rfl ?_)) | (apply ks_index; first | first | (refine c_storew rfl rfl rfl rfl rfl rfl rfl rfl ?_) | refine s_index (c_indexArr rfl rfl rfl (by omega) (by omega) rfl) rfl ?_ | refine s_index (c_indexArrA rfl rfl rfl (by omega) (by omega) rfl) rfl ?_ | refine s_index (c_indexStr rfl rfl rfl (by omega) rfl) rfl ?_) | (apply ks_fn; first | refine c_callv rfl rfl rfl (c1 _) rfl rfl ?_) | (apply ks_bi; first | first | (refine c_storew rfl rfl rfl rfl rfl rfl rfl rfl ?_) | refine s_call (c_len rfl rfl) rfl ?_ | refine s_call (c_len_str rfl rfl) rfl ?_ | refine s_call (c_bi rfl rfl rfl rfl) rfl ?_ | refine c_append rfl rfl rfl rfl (by first | rfl | simp [ints]) (by first | rfl | exact ints_one _ | exact octs_one _ | exact strs_one _) (by omega) rfl rfl (fun _ _ => ?_) | refine c_append_nil rfl rfl rfl rfl (by first | rfl | simp [ints]) (by first | rfl | exact ints_one _ | exact octs_one _ | exact strs_one _) (by omega) rfl rfl (fun _ _ => ?_)) | (apply ks_store; first | first | refine c_store rfl rfl rfl rfl rfl rfl rfl ?_ | refine c_storew rfl rfl rfl rfl rfl rfl rfl rfl ?_ | refine c_storee rfl rfl rfl rfl rfl (by omega) rfl ?_ | first | (refine c_storew rfl rfl rfl rfl rfl rfl rfl rfl ?_)) | (apply ks_box; refine c_box rfl rfl rfl rfl rfl rfl (fun _ => ?_)) | (apply ks_alloc; refine c_alloc rfl rfl rfl rfl (fun _ => ?_)) | (apply ks_bs; first | refine c_buildSlice rfl rfl rfl rfl rfl rfl rfl rfl rfl rfl (fun _ => ?_) | first | (refine c_storew rfl rfl rfl rfl rfl rfl rfl rfl ?_)) | (apply ks_guard; first | (refine sl_gd rfl rfl rfl rfl ?_; first | (apply gd_t) | (apply gd_ft) | (apply gd_tf) | (apply gd_dec_t <;> intro hq <;> (try (exfalso; omega))) | (apply gd_dec_f <;> intro hq <;> (try (exfalso; omega))) | (apply gd_beq_t <;> intro hq <;> (try (exfalso; omega))) | (apply gd_beq_f <;> intro hq <;> (try (exfalso; omega))) | (apply gd_bne_t <;> intro hq <;> (try (exfalso; omega))) | (apply gd_bne_f <;> intro hq <;> (try (exfalso; omega))) | (apply gd_not_t <;> intro hq) | (apply gd_not_f <;> intro hq) | (apply gd_raw_t <;> intro hq) | (apply gd_raw_f <;> intro hq)) | refine sl_skip_u rfl rfl rfl rfl rfl rfl ?_) | first | (refine c_storew rfl rfl rfl rfl rfl rfl rfl rfl ?_)) | (apply sw_seq) | (apply at_srd) | (apply sw_skip) | (apply sw_ret) | (apply sw_exit) | (apply sw_block) | ((fail_if_success (refine g_reg (id := 3) ?_)); apply sw_region) | (refine sw_cd rfl ?_; first | (apply gd_t) | (apply gd_ft) | (apply gd_tf) | (apply gd_dec_t <;> intro hq <;> (try (exfalso; omega))) | (apply gd_dec_f <;> intro hq <;> (try (exfalso; omega))) | (apply gd_beq_t <;> intro hq <;> (try (exfalso; omega))) | (apply gd_beq_f <;> intro hq <;> (try (exfalso; omega))) | (apply gd_bne_t <;> intro hq <;> (try (exfalso; omega))) | (apply gd_bne_f <;> intro hq <;> (try (exfalso; omega))) | (apply gd_not_t <;> intro hq) | (apply gd_not_f <;> intro hq) | (apply gd_raw_t <;> intro hq) | (apply gd_raw_f <;> intro hq)) | (apply at_thn) | (apply at_thn_ret) | (apply at_thn_exit) | (apply at_inb) | (apply at_inb_ret) | (apply at_inb_exit) | refine at_inb_pass rfl ?_ | ((fail_if_success (refine g_reg (id := 3) ?_)); refine c_drawn (by kernel_rfl) ?_))
  all_goals (try simp only [decide_eq_true_eq, decide_eq_false_iff_not] at *)
  all_goals first | (exfalso; omega) | skip
  refine e_scc _ (by first | exact .inl rfl | exact .inr rfl) rfl rfl rfl (fun _ hw => hw) ?_
  exact stepR_nil _ _ _ _ _ [_, _] rfl rfl
theorem what82 (s x : Int) (h : whatP s x = 82) : whatP 1 x ≠ 82 := by
  intro h1
  have hc := clsN_lt x
  unfold whatP at h1
  have : ∀ n : Nat, n < 15 → (tabL 1).getD n 0 ≠ 82 := by decide
  exact this _ hc h1
theorem parseStep_sc (G : Ctx) (H : List Ent) (M : Int) (hM : ∀ H w, Holds G H w → w.cell? ⟨2, 0, none⟩ = some (.int .i64 M)) (s m : Int) (i g t : ByteArray) (x : Int) (hs : 0 ≤ s ∧ s ≤ 10) (hi : i.size ≤ 3) (hg : g.size ≤ 100) (ht : t.size ≤ 256) : SC Tryd.prog G 30 [psV s m i g t, .int .i64 x] H (StepR G H (stepP (s, m, i, g, t) x)) := by
  unfold stepP
  dsimp only
  by_cases hx : x < 0 ∨ 1114111 < x
  · rw [if_pos hx]
    exact step_out G H s m i g t x hx
  · rw [if_neg hx]
    by_cases hw : whatP s x = 82
    · exact step_yes G H M hM s m i g t x hs (by omega) hi hg ht hw (what82 s x hw)
    · exact step_no G H M hM s m i g t x _ hs (by omega) hi hg ht hw
end Go.Proofs.YtflmckoolagikaaDoor
end
section
namespace Go.Proofs.YtflmckoolagikaaDoor
open Go Go.RowKit Go.Fw Go.Sx
set_option maxRecDepth 100000
set_option maxHeartbeats 1000000
theorem inI_iff (i : ByteArray) : inI i 3 = 1 ↔ ((∀ x ∈ nums i, inB x = true) ∧ i.size ≤ 3) := by
  unfold inI
  rw [← List.all_eq_true]
  by_cases h : (nums i).all inB = true ∧ (i.size : Int) ≤ 3
  · rw [if_pos h]; exact ⟨fun _ => ⟨h.1, by omega⟩, fun _ => rfl⟩
  · rw [if_neg h]; exact ⟨fun e => absurd e (by decide), fun e => absurd ⟨e.1, by omega⟩ h⟩
theorem okI_iff (g : ByteArray) : okI g = 1 ↔ (∀ x ∈ nums g, okA x = true) := by
  unfold okI
  rw [← List.all_eq_true]
  by_cases h : (nums g).all okA = true
  · rw [if_pos h]; exact ⟨fun _ => h, fun _ => rfl⟩
  · rw [if_neg h]; exact ⟨fun e => absurd e (by decide), fun e => absurd e h⟩
theorem ok_mk (s m : Int) (i g t : ByteArray) : okP (s, m, i, g, t) ↔ ((0 ≤ s ∧ s ≤ 10) ∧ (m = 0 ∨ ((60 ≤ m ∧ m ≤ 63) ∧ (s = 4 ∨ s = 5))) ∧ ((∀ x ∈ nums i, inB x = true) ∧ i.size ≤ 3) ∧ (0 < i.size ↔ (s = 2 ∨ s = 5)) ∧ (∀ x ∈ nums g, okA x = true) ∧ g.size ≤ 100 ∧ (g.size = 0 ∨ s = 4 ∨ s = 5) ∧ t.size ≤ 256 ∧ (t.size = 0 ∨ s = 7 ∨ s = 8)) := by
  rw [← inI_iff, ← okI_iff]
  exact Iff.rfl
theorem ok_sP (k : Int) (h : 0 ≤ k ∧ k ≤ 10) (h2 : k ≠ 2) (h5 : k ≠ 5) : okP (sP k) := by
  refine (ok_mk k 0 e0 e0 e0).2 ⟨h, .inl rfl, ⟨fun _ h => (nomatch h), Nat.zero_le _⟩, ⟨fun h => absurd h (by decide), fun h => by omega⟩, fun _ h => (nomatch h), Nat.zero_le _, .inl rfl, Nat.zero_le _, .inl rfl⟩
theorem ite_ne {c : Prop} [Decidable c] {a b k : Nat} (ha : a ≠ k) (hb : b ≠ k) : (if c then a else b) ≠ k := by split <;> assumption
theorem cls4 {x : Int} (h : clsN x = 4) : 32 ≤ x ∧ x ≤ 47 := by
  refine Classical.byContradiction fun hn => absurd h ?_
  unfold clsN
  rw [if_neg hn]
  repeat' (first | decide | apply ite_ne)
theorem cls6 {x : Int} (h : clsN x = 6) : 48 ≤ x ∧ x ≤ 59 ∧ x ≠ 58 := by
  refine Classical.byContradiction fun hn => absurd h ?_
  unfold clsN
  by_cases h8 : x = 58
  · rw [if_pos h8]
    repeat' (first | decide | apply ite_ne)
  · rw [if_neg (show ¬ (48 ≤ x ∧ x ≤ 59) from fun e => hn ⟨e.1, e.2, h8⟩)]
    repeat' (first | decide | apply ite_ne)
theorem cls7 {x : Int} (h : clsN x = 7) : 60 ≤ x ∧ x ≤ 63 := by
  refine Classical.byContradiction fun hn => absurd h ?_
  unfold clsN
  rw [if_neg hn]
  repeat' (first | decide | apply ite_ne)
def tabOk (k n : Nat) : Bool :=
  ((tabL k).getD n 0 != 73 || (n == 4 && (k == 1 || k == 3 || k == 4))) && ((tabL k).getD n 0 != 74 || (n == 4 && (k == 2 || k == 5))) && ((tabL k).getD n 0 != 65 || (n == 6 && (k == 3 || k == 4))) &&
  ((tabL k).getD n 0 != 77 || (n == 7 && k == 3)) && ((tabL k).getD n 0 != 90 || (k == 7 || k == 9)) && ((tabL k).getD n 0 != 87 || k == 7)
theorem tab_all : (List.range 11).all (fun k => (List.range 15).all (tabOk k)) = true := by decide +kernel
theorem tab_fact (w : Int) (s : Int) (n : Nat) (hs : 0 ≤ s ∧ s ≤ 10) (hn : n < 15) (h : (tabL s).getD n 0 = w) :
    (w = 73 → n = 4 ∧ (s = 1 ∨ s = 3 ∨ s = 4)) ∧ (w = 74 → n = 4 ∧ (s = 2 ∨ s = 5)) ∧ (w = 65 → n = 6 ∧ (s = 3 ∨ s = 4)) ∧ (w = 77 → n = 7 ∧ s = 3) ∧ (w = 90 → s = 7 ∨ s = 9) ∧ (w = 87 → s = 7) := by
  obtain ⟨k, rfl⟩ : ∃ k : Nat, s = k := ⟨s.toNat, by omega⟩
  have h1 := List.all_eq_true.1 (List.all_eq_true.1 tab_all k (List.mem_range.2 (by omega))) n (List.mem_range.2 hn)
  unfold tabOk at h1
  rw [h] at h1
  simp only [Bool.and_eq_true, Bool.or_eq_true, bne_iff_ne, ne_eq, beq_iff_eq] at h1
  obtain ⟨⟨⟨⟨⟨a1, a2⟩, a3⟩, a4⟩, a5⟩, a6⟩ := h1
  clear h
  refine ⟨fun e => ?_, fun e => ?_, fun e => ?_, fun e => ?_, fun e => ?_, fun e => ?_⟩
  · have := a1.resolve_left (fun x => x e); omega
  · have := a2.resolve_left (fun x => x e); omega
  · have := a3.resolve_left (fun x => x e); omega
  · have := a4.resolve_left (fun x => x e); omega
  · have := a5.resolve_left (fun x => x e); omega
  · have := a6.resolve_left (fun x => x e); omega
theorem size_sign {x : Int} (h : 0 ≤ x ∧ x < 128) : (signB x).size = 1 ∧ nums (signB x) = [x] := by
  unfold signB
  rw [if_pos h.2]
  exact ⟨by rw [strOfNums_size]; rfl, nums_strOf fun y hy => by rw [List.mem_singleton] at hy; omega⟩
theorem size_cat (a b : ByteArray) : (a ++ b).size = a.size + b.size := by
  rw [← nums_length, nums_append, List.length_append, nums_length, nums_length]
theorem stepW_ok (p : Ps) (x w : Int) (R : Ps × List Pa) (hp : okP p) (hw : whatQ p.1 x = w) (hR : okP R.1) : okP (stepW p x w R).1 := by
  obtain ⟨s, m, i, g, t⟩ := p
  have hp0 := hp
  rw [ok_mk] at hp
  obtain ⟨h1, h2, h3, h4, h5, h6, h7, h8, h9⟩ := hp
  have hw2 : w = 46 ∨ whatP s x = w := by
    dsimp only at hw
    unfold whatQ at hw
    split at hw
    · exact .inl hw.symm
    · exact .inr hw
  have hf : w = 46 ∨ ((w = 73 → clsN x = 4 ∧ (s = 1 ∨ s = 3 ∨ s = 4)) ∧ (w = 74 → clsN x = 4 ∧ (s = 2 ∨ s = 5)) ∧ (w = 65 → clsN x = 6 ∧ (s = 3 ∨ s = 4)) ∧ (w = 77 → clsN x = 7 ∧ s = 3) ∧ (w = 90 → s = 7 ∨ s = 9) ∧ (w = 87 → s = 7)) :=
    hw2.imp id fun h => tab_fact w s _ h1 (clsN_lt x) h
  clear hw hw2
  unfold stepW
  dsimp only
  by_cases a1 : w = 88 ∨ w = 68
  · rw [if_pos a1]; exact ok_sP 0 (by omega) (by omega) (by omega)
  rw [if_neg a1]
  by_cases a2 : w = 69
  · rw [if_pos a2]; exact ok_sP 1 (by omega) (by omega) (by omega)
  rw [if_neg a2]
  by_cases a3 : w = 67
  · rw [if_pos a3]; exact hp0
  rw [if_neg a3]
  by_cases a4 : w = 80
  · rw [if_pos a4]; exact hp0
  rw [if_neg a4]
  by_cases a5 : w = 73
  · rw [if_pos a5]
    have hc := (hf.resolve_left (by omega)).1 a5
    have hx := cls4 hc.1
    obtain ⟨z1, z2⟩ := size_sign (x := x) (by omega)
    refine (ok_mk _ _ _ _ _).2 ⟨by split <;> omega, ?_, ⟨fun y hy => ?_, by omega⟩, ⟨fun _ => by split <;> omega, fun _ => by omega⟩, h5, h6, ?_, h8, ?_⟩
    · rcases h2 with h | h
      · exact .inl h
      · exact .inr ⟨h.1, by rw [if_neg (by omega)]; omega⟩
    · rw [z2, List.mem_singleton] at hy
      subst hy
      exact decide_eq_true hx
    · rcases h7 with h | h
      · exact .inl h
      · exact .inr (by rw [if_neg (by omega)]; omega)
    · rcases h9 with h | h
      · exact .inl h
      · omega
  rw [if_neg a5]
  by_cases a6 : w = 74
  · rw [if_pos a6]
    have hc := (hf.resolve_left (by omega)).2.1 a6
    have hx := cls4 hc.1
    obtain ⟨z1, z2⟩ := size_sign (x := x) (by omega)
    by_cases hi : i.size < 3
    · rw [if_pos hi]
      have hz := size_cat i (signB x)
      refine (ok_mk _ _ _ _ _).2 ⟨h1, h2, ⟨fun y hy => ?_, by omega⟩, ⟨fun _ => hc.2, fun _ => by omega⟩, h5, h6, h7, h8, h9⟩
      rw [nums_append, List.mem_append] at hy
      rcases hy with hy | hy
      · exact h3.1 y hy
      · rw [z2, List.mem_singleton] at hy
        subst hy
        exact decide_eq_true hx
    · rw [if_neg hi]; exact hp0
  rw [if_neg a6]
  by_cases a7 : w = 65
  · rw [if_pos a7]
    have hc := (hf.resolve_left (by omega)).2.2.1 a7
    have hx := cls6 hc.1
    obtain ⟨z1, z2⟩ := size_sign (x := x) (by omega)
    have hm : m = 0 ∨ ((60 ≤ m ∧ m ≤ 63) ∧ ((4 : Int) = 4 ∨ (4 : Int) = 5)) := h2.imp id fun h => ⟨h.1, .inl rfl⟩
    have hi4 : 0 < i.size ↔ ((4 : Int) = 2 ∨ (4 : Int) = 5) := ⟨fun h => by have := h4.1 h; omega, fun h => by omega⟩
    have ht4 : t.size = 0 ∨ (4 : Int) = 7 ∨ (4 : Int) = 8 := .inl (h9.resolve_right (by omega))
    by_cases hi : g.size < 100
    · rw [if_pos hi]
      have hz := size_cat g (signB x)
      refine (ok_mk _ _ _ _ _).2 ⟨by omega, hm, h3, hi4, fun y hy => ?_, by omega, by omega, h8, ht4⟩
      rw [nums_append, List.mem_append] at hy
      rcases hy with hy | hy
      · exact h5 y hy
      · rw [z2, List.mem_singleton] at hy
        subst hy
        unfold okA
        rw [decide_eq_true_eq]
        omega
    · rw [if_neg hi]
      exact (ok_mk _ _ _ _ _).2 ⟨by omega, hm, h3, hi4, h5, h6, by omega, h8, ht4⟩
  rw [if_neg a7]
  by_cases a8 : w = 77
  · rw [if_pos a8]
    have hc := (hf.resolve_left (by omega)).2.2.2.1 a8
    have hx := cls7 hc.1
    exact (ok_mk _ _ _ _ _).2 ⟨by omega, .inr ⟨hx, .inl rfl⟩, ⟨fun _ h => (nomatch h), Nat.zero_le _⟩, ⟨fun h => absurd h (by decide), fun h => by omega⟩, fun _ h => (nomatch h), Nat.zero_le _, .inl rfl, Nat.zero_le _, .inl rfl⟩
  rw [if_neg a8]
  by_cases a9 : w = 71
  · rw [if_pos a9]; exact ok_sP 6 (by omega) (by omega) (by omega)
  rw [if_neg a9]
  by_cases a10 : w = 83
  · rw [if_pos a10]; exact ok_sP 3 (by omega) (by omega) (by omega)
  rw [if_neg a10]
  by_cases a11 : w = 79
  · rw [if_pos a11]; exact ok_sP 7 (by omega) (by omega) (by omega)
  rw [if_neg a11]
  by_cases a12 : w = 84
  · rw [if_pos a12]; exact ok_sP 9 (by omega) (by omega) (by omega)
  rw [if_neg a12]
  by_cases a13 : w = 90
  · rw [if_pos a13]
    have hc := (hf.resolve_left (by omega)).2.2.2.2.1 a13
    exact (ok_mk _ _ _ _ _).2 ⟨by omega, by omega, h3, ⟨fun h => by have := h4.1 h; omega, fun h => by omega⟩, h5, h6, by omega, h8, by omega⟩
  rw [if_neg a13]
  by_cases a14 : w = 87
  · rw [if_pos a14]
    have hc := (hf.resolve_left (by omega)).2.2.2.2.2 a14
    by_cases hz : t.size + (rtB x).size ≤ 256
    · rw [if_pos hz]
      have hzz := size_cat t (rtB x)
      exact (ok_mk _ _ _ _ _).2 ⟨h1, h2, h3, h4, h5, h6, h7, by omega, .inr (.inl hc)⟩
    · rw [if_neg hz]; exact hp0
  rw [if_neg a14]
  by_cases a15 : w = 89
  · rw [if_pos a15]; exact ok_sP 0 (by omega) (by omega) (by omega)
  rw [if_neg a15]
  by_cases a16 : w = 70
  · rw [if_pos a16]; exact ok_sP 0 (by omega) (by omega) (by omega)
  rw [if_neg a16]
  by_cases a17 : w = 82
  · rw [if_pos a17]; exact hR
  rw [if_neg a17]
  exact hp0
theorem step1_ok (x : Int) : okP (step1 x).1 := stepW_ok (sP 1) x _ _ (ok_sP 1 (by omega) (by omega) (by omega)) rfl (ok_sP 1 (by omega) (by omega) (by omega))
/-- A right parser's step leaves a right parser. -/
theorem stepP_ok (p : Ps) (x : Int) (hp : okP p) : okP (stepP p x).1 := by
  unfold stepP
  split
  · exact hp
  · exact stepW_ok p x _ _ hp rfl (step1_ok x)
/-- All runes. -/
def runP (p : Ps) (L : List Int) : Ps × List Pa := L.foldl (fun z x => ((stepP z.1 x).1, z.2 ++ (stepP z.1 x).2)) (p, [])
theorem runP_snoc (p : Ps) (L : List Int) (x : Int) : runP p (L ++ [x]) = ((stepP (runP p L).1 x).1, (runP p L).2 ++ (stepP (runP p L).1 x).2) := by
  unfold runP
  rw [List.foldl_append]
  rfl
theorem runP_take {p : Ps} {L : List Int} {k : Nat} {x : Int} (h : L[k]? = some x) : runP p (L.take (k + 1)) = ((stepP (runP p (L.take k)).1 x).1, (runP p (L.take k)).2 ++ (stepP (runP p (L.take k)).1 x).2) := by
  rw [← runP_snoc, List.take_add_one, h]
  rfl
theorem ite_len2 {c : Prop} [Decidable c] {a b : Ps × List Pa} (ha : a.2.length ≤ 2) (hb : b.2.length ≤ 2) : (if c then a else b).2.length ≤ 2 := by split <;> assumption
theorem ite_l1 {c : Prop} [Decidable c] : (if c then ([] : List Pa) else [dP]).length ≤ 2 := by
  split
  · exact Nat.zero_le _
  · exact Nat.le_succ 1
theorem stepP_len (p : Ps) (x : Int) : (stepP p x).2.length ≤ 2 := by
  unfold stepP
  refine ite_len2 (Nat.zero_le _) ?_
  have h1 := step1_len x
  unfold stepW
  repeat' (first | exact Nat.zero_le _ | exact Nat.le_succ 1 | exact Nat.succ_le_succ h1 | exact ite_l1 | apply ite_len2)
end Go.Proofs.YtflmckoolagikaaDoor
end
section
namespace Go.Fw
open Go Go.RowKit Go.Sx
/-- How many bytes follow a first one, and the bounds of the second one. -/
def needU (c : Int) : Int × Int × Int :=
  if 194 ≤ c ∧ c ≤ 223 then (1, 128, 191) else if c = 224 then (2, 160, 191) else if c = 237 then (2, 128, 159) else if 225 ≤ c ∧ c ≤ 239 then (2, 128, 191) else if c = 240 then (3, 144, 191) else if c = 244 then (3, 128, 143) else if 241 ≤ c ∧ c ≤ 243 then (3, 128, 191) else (0, 0, 0)
/-- The longest beginning, and whether it is whole. -/
def longU (L : List Int) : Int × Bool :=
  if (needU (L.getD 0 0)).1 = 0 then (0, false)
  else if ¬ (2 ≤ L.length ∧ (needU (L.getD 0 0)).2.1 ≤ L.getD 1 0 ∧ L.getD 1 0 ≤ (needU (L.getD 0 0)).2.2) then (1, false)
  else if ¬ (2 ≤ (needU (L.getD 0 0)).1 ∧ 3 ≤ L.length ∧ 128 ≤ L.getD 2 0 ∧ L.getD 2 0 ≤ 191) then (2, decide ((needU (L.getD 0 0)).1 < 2))
  else if ¬ (3 ≤ (needU (L.getD 0 0)).1 ∧ 4 ≤ L.length ∧ 128 ≤ L.getD 3 0 ∧ L.getD 3 0 ≤ 191) then (3, decide ((needU (L.getD 0 0)).1 < 3))
  else (4, true)
/-- A beginning, not whole. -/
def partU (L : List Int) : Prop := (longU L).2 = false ∧ (longU L).1 = L.length
instance (L : List Int) : Decidable (partU L) := by unfold partU; infer_instance
/-- The bytes of one rune. -/
def wfU (L : List Int) : Bool := match L with
  | [a] => decide (0 ≤ a ∧ a < 128)
  | [a, b] => decide (194 ≤ a ∧ a ≤ 223 ∧ 128 ≤ b ∧ b ≤ 191)
  | [a, b, c] => decide (224 ≤ a ∧ a ≤ 239 ∧ 128 ≤ b ∧ b ≤ 191 ∧ 128 ≤ c ∧ c ≤ 191 ∧ (a = 224 → 160 ≤ b) ∧ (a = 237 → b ≤ 159))
  | [a, b, c, d] => decide (240 ≤ a ∧ a ≤ 244 ∧ 128 ≤ b ∧ b ≤ 191 ∧ 128 ≤ c ∧ c ≤ 191 ∧ 128 ≤ d ∧ d ≤ 191 ∧ (a = 240 → 144 ≤ b) ∧ (a = 244 → b ≤ 143))
  | _ => false
def fillsU : List (List Int) := [[128], [191], [160, 128], [144, 128, 128], [159, 191], [143, 191, 191], [160, 191]]
def fillU (s f : List Int) (n : Nat) : List Int := (s ++ f ++ List.replicate 4 (f.getLastD 0)).take n
/-- Is it the first bytes of some rune's, by trying? -/
def begU (s : List Int) : Bool := decide (s ≠ []) && (List.range 5).any fun n => decide (s.length < n) && fillsU.any fun f => wfU (fillU s f n)
theorem needU_ways (a : Int) : (194 ≤ a ∧ a ≤ 223 ∧ needU a = (1, 128, 191)) ∨ (a = 224 ∧ needU a = (2, 160, 191)) ∨ (a = 237 ∧ needU a = (2, 128, 159)) ∨ (225 ≤ a ∧ a ≤ 239 ∧ a ≠ 237 ∧ needU a = (2, 128, 191)) ∨ (a = 240 ∧ needU a = (3, 144, 191)) ∨ (a = 244 ∧ needU a = (3, 128, 143)) ∨ (241 ≤ a ∧ a ≤ 243 ∧ needU a = (3, 128, 191)) ∨ ((a < 194 ∨ 244 < a) ∧ needU a = (0, 0, 0)) := by
  unfold needU
  repeat' split
  all_goals first | omega | simp_all <;> omega
theorem begU_iff (s : List Int) (hs : s ≠ []) : begU s = true ↔ partU s := by
  have h0 : decide (s ≠ []) = true := decide_eq_true hs
  unfold begU partU
  rw [h0, Bool.true_and]
  match s, hs with
  | [a], _ =>
    rcases needU_ways a with ⟨h1, h2, hn⟩ | ⟨h1, hn⟩ | ⟨h1, hn⟩ | ⟨h1, h2, h3, hn⟩ | ⟨h1, hn⟩ | ⟨h1, hn⟩ | ⟨h1, h2, hn⟩ | ⟨h1, hn⟩ <;> simp [List.range_succ, fillsU, fillU, wfU, longU, hn] <;> omega
  | [a, b], _ =>
    rcases needU_ways a with ⟨h1, h2, hn⟩ | ⟨h1, hn⟩ | ⟨h1, hn⟩ | ⟨h1, h2, h3, hn⟩ | ⟨h1, hn⟩ | ⟨h1, hn⟩ | ⟨h1, h2, hn⟩ | ⟨h1, hn⟩ <;> simp [List.range_succ, fillsU, fillU, wfU, longU, hn] <;> (try split) <;> (try simp) <;> omega
  | [a, b, c], _ =>
    rcases needU_ways a with ⟨h1, h2, hn⟩ | ⟨h1, hn⟩ | ⟨h1, hn⟩ | ⟨h1, h2, h3, hn⟩ | ⟨h1, hn⟩ | ⟨h1, hn⟩ | ⟨h1, h2, hn⟩ | ⟨h1, hn⟩ <;> simp [List.range_succ, fillsU, fillU, wfU, longU, hn] <;> (try (repeat' split)) <;> (try simp) <;> omega
  | a :: b :: c :: d :: r, _ =>
    have hb : ∀ n, n < 5 → decide ((a :: b :: c :: d :: r).length < n) = false ∨ n = 5 := fun n hn => .inl (by simp; omega)
    rcases needU_ways a with ⟨h1, h2, hn⟩ | ⟨h1, hn⟩ | ⟨h1, hn⟩ | ⟨h1, h2, h3, hn⟩ | ⟨h1, hn⟩ | ⟨h1, hn⟩ | ⟨h1, h2, hn⟩ | ⟨h1, hn⟩ <;> simp [List.range_succ, longU, hn] <;> (try (repeat' split)) <;> (try simp) <;> (try omega)
end Go.Fw
end
section
namespace Go.Proofs.YtflmckoolagikaaDoor
open Go.RowKit Go.Fw
def refTab : List (Int × Int) := [(0, 0), (32, 1), (127, 0), (160, 1), (768, 0), (880, 1), (4352, 2), (4448, 1), (8203, 0), (8208, 1), (11904, 2), (12351, 1), (12353, 2), (19904, 1), (19968, 2), (42192, 1), (44032, 2), (55204, 1), (63744, 2), (64256, 1), (65024, 0), (65040, 1), (65072, 2), (65136, 1), (65280, 2), (65377, 1), (65504, 2), (65511, 1), (127744, 2), (128592, 1), (129280, 2), (129536, 1), (131072, 2), (262142, 1)]
def isRune (n : Int) : Bool := decide ((0 ≤ n ∧ n ≤ 55295) ∨ (57344 ≤ n ∧ n ≤ 1114111))
def refTo (n : Int) (k : Nat) : Int := (refTab.take k).foldl (fun w x => if x.1 ≤ n then x.2 else w) 0
def refWidth (n : Int) : Int := if isRune n = true then refTo n 34 else 0
set_option maxRecDepth 100000 in
theorem isRune_any (n : Int) (w : World) :
    Calls Tryd.prog 42 #[.int .i64 n] w fun e w' => e = .returned (.bool (isRune n)) ∧ w = w' := by
  by_cases h1 : 0 ≤ n ∧ n ≤ 55295
  · have Hfin : Hid (isRune n = true) := by unfold Hid isRune; simp; omega
    go_enter Tryd.func42, Tryd.ntmps42
    go_wp2_with (go_at_call 26; refine (between_t _ _ _ _ (by omega)).mono ?_; rintro e w' ⟨rfl, rfl⟩)
    go_ret
    exact ⟨ret_bool Hfin.out.symm, rfl⟩
  · by_cases h2 : 57344 ≤ n ∧ n ≤ 1114111
    · have Hfin : Hid (isRune n = true) := by unfold Hid isRune; simp; omega
      go_enter Tryd.func42, Tryd.ntmps42
      go_wp2_with (go_at_call 26; (first | refine (between_t _ _ _ _ (by omega)).mono ?_ | refine (between_f _ _ _ _ (by omega)).mono ?_); rintro e w' ⟨rfl, rfl⟩)
      go_ret
      exact ⟨ret_bool Hfin.out.symm, rfl⟩
    · have Hfin : Hid (isRune n = false) := by unfold Hid isRune; simp; omega
      go_enter Tryd.func42, Tryd.ntmps42
      go_wp2_with (go_at_call 26; (first | refine (between_t _ _ _ _ (by omega)).mono ?_ | refine (between_f _ _ _ _ (by omega)).mono ?_); rintro e w' ⟨rfl, rfl⟩)
      go_ret
      exact ⟨ret_bool Hfin.out.symm, rfl⟩
end Go.Proofs.YtflmckoolagikaaDoor
end
section
namespace Go.Proofs.YtflmckoolagikaaDoor
open Go.RowKit Go.Fw
theorem refWidth_bd (n : Int) : 0 ≤ refWidth n ∧ refWidth n ≤ 2 := by
  unfold refWidth refTo
  split
  · have : ∀ (l : List (Int × Int)) (w : Int), (∀ x ∈ l, 0 ≤ x.2 ∧ x.2 ≤ 2) → 0 ≤ w ∧ w ≤ 2 → 0 ≤ l.foldl (fun w x => if x.1 ≤ n then x.2 else w) w ∧ l.foldl (fun w x => if x.1 ≤ n then x.2 else w) w ≤ 2 := by
      intro l
      induction l with
      | nil => intro w _ h; exact h
      | cons x l ih =>
        intro w hl h
        rw [List.foldl_cons]
        refine ih _ (fun y hy => hl y (by simp [hy])) ?_
        have := hl x (by simp)
        split <;> omega
    exact this _ _ (by decide) (by omega)
  · omega
def refWidths (l : List Int) : Int := (l.map refWidth).sum
theorem refWidths_succ (l : List Int) (k : Nat) (hk : k < l.length) : refWidths (l.take (k + 1)) = refWidths (l.take k) + refWidth (l.getD k 0) := by
  unfold refWidths
  rw [List.take_succ_eq_append_getElem hk]
  rw [List.map_append, List.sum_append]
  simp only [List.map_cons, List.map_nil, List.sum_cons, List.sum_nil, List.getD, List.getElem?_eq_getElem hk, Option.getD_some, Int.add_zero]
end Go.Proofs.YtflmckoolagikaaDoor
end
section
namespace Go.Proofs.YtflmckoolagikaaDoor
open Go Go.RowKit Go.Fw Go.Sx
set_option maxRecDepth 100000
set_option maxHeartbeats 1000000
attribute [local irreducible] SW SL SQ AtQ SV SC BB LD PK Yields SO SOT SOA SY
theorem refWidths_mono (l : List Int) (i j : Nat) (h : i ≤ j) (hj : j ≤ l.length) : refWidths (l.take i) ≤ refWidths (l.take j) := by
  induction j with
  | zero => obtain rfl : i = 0 := by omega
            exact Int.le_refl _
  | succ j ih =>
    rcases Nat.eq_or_lt_of_le h with rfl | hlt
    · exact Int.le_refl _
    · have h1 := ih (by omega) (by omega)
      rw [refWidths_succ l j (by omega)]
      have := refWidth_bd (l.getD j 0)
      omega
/-- How many at most are no wider than w. -/
def IsCut (l : List Int) (w : Int) (k : Nat) : Prop := k ≤ l.length ∧ refWidths (l.take k) ≤ w ∧ ∀ j, k < j → j ≤ l.length → w < refWidths (l.take j)
theorem IsCut.at {l : List Int} {w : Int} {k i : Nat} (h : IsCut l w k) (hi : i < l.length) (h1 : refWidths (l.take i) ≤ w) (h2 : w < refWidths (l.take i) + refWidth (l.getD i 0)) : i = k := by
  obtain ⟨g1, g2, g3⟩ := h
  rw [← refWidths_succ l i hi] at h2
  rcases Nat.lt_trichotomy i k with hlt | rfl | hlt
  · have := refWidths_mono l (i + 1) k hlt g1
    omega
  · rfl
  · have := g3 i hlt (by omega)
    omega
theorem IsCut.last {l : List Int} {w : Int} {k : Nat} (h : IsCut l w k) (h1 : refWidths (l.take l.length) ≤ w) : l.length = k := by
  obtain ⟨g1, g2, g3⟩ := h
  rcases Nat.eq_or_lt_of_le g1 with h | hlt
  · exact h.symm
  · have := g3 l.length hlt (Nat.le_refl _)
    omega
end Go.Proofs.YtflmckoolagikaaDoor
end
section
namespace Go.Proofs.YtflmckoolagikaaDoor
open Go Go.RowKit Go.Fw Go.Sx
set_option maxRecDepth 100000
set_option maxHeartbeats 1000000
attribute [local irreducible] SW SL SQ AtQ SV SC BB LD PK Yields SO SOT SOA SY
def isR (c : Int) : Prop := (0 ≤ c ∧ c ≤ 55295) ∨ (57344 ≤ c ∧ c ≤ 1114111)
theorem wf_1 {a : Int} (h1 : 0 ≤ a ∧ a < 256) : (isR (a % 128) ∧ runeL (a % 128) = [a]) ↔ wfU [a] = true := by
  unfold isR runeL wfU
  rw [decide_eq_true_eq, if_pos (by omega)]
  simp only [List.cons.injEq, and_true]
  omega
theorem wf_2 {a b : Int} (h1 : 0 ≤ a ∧ a < 256) (h2 : 0 ≤ b ∧ b < 256) (h3 : b / 64 = 2) : (isR (64 * (a % 64) + b % 64) ∧ runeL (64 * (a % 64) + b % 64) = [a, b]) ↔ wfU [a, b] = true := by
  unfold isR runeL wfU
  rw [decide_eq_true_eq]
  split
  · simp; omega
  · split
    · simp only [List.cons.injEq, and_true]; omega
    · split <;> (simp; omega)
theorem wf_3 {a b c : Int} (h1 : 0 ≤ a ∧ a < 256) (h2 : 0 ≤ b ∧ b < 256) (h3 : b / 64 = 2) (h4 : 0 ≤ c ∧ c < 256) (h5 : c / 64 = 2) : (isR (64 * (64 * (a % 32) + b % 64) + c % 64) ∧ runeL (64 * (64 * (a % 32) + b % 64) + c % 64) = [a, b, c]) ↔ wfU [a, b, c] = true := by
  unfold isR runeL wfU
  rw [decide_eq_true_eq]
  split
  · simp; omega
  · split
    · simp; omega
    · split
      · simp only [List.cons.injEq, and_true]; omega
      · simp; omega
theorem wf_4 {a b c d : Int} (h1 : 0 ≤ a ∧ a < 256) (h2 : 0 ≤ b ∧ b < 256) (h3 : b / 64 = 2) (h4 : 0 ≤ c ∧ c < 256) (h5 : c / 64 = 2) (h6 : 0 ≤ d ∧ d < 256) (h7 : d / 64 = 2) : (isR (64 * (64 * (64 * (a % 16) + b % 64) + c % 64) + d % 64) ∧ runeL (64 * (64 * (64 * (a % 16) + b % 64) + c % 64) + d % 64) = [a, b, c, d]) ↔ wfU [a, b, c, d] = true := by
  unfold isR runeL wfU
  rw [decide_eq_true_eq]
  split
  · simp; omega
  · split
    · simp; omega
    · split
      · simp; omega
      · simp only [List.cons.injEq, and_true]; omega
instance (c : Int) : Decidable (isR c) := by unfold isR; infer_instance
theorem nums_nil {s : ByteArray} (h : s.size = 0) : s = ⟨#[]⟩ := nums_inj (by
  have e : nums s = [] := List.eq_nil_of_length_eq_zero (by rw [nums_length, h])
  rw [e]
  rfl)
end Go.Proofs.YtflmckoolagikaaDoor
end
section
namespace Go.Proofs.YtflmckoolagikaaDoor
open Go Go.RowKit Go.Fw Go.Sx
set_option maxRecDepth 100000
set_option maxHeartbeats 1000000
attribute [local irreducible] SW SL SQ AtQ SV SC BB LD PK Yields SO SOT SOA SY
theorem isRune_sv (G : Ctx) (H : List Ent) (c : Int) : SV Tryd.prog G 42 [.int .i64 c] H (.bool (decide (isR c))) := sv_of_calls (callee_of Tryd.func42 rfl rfl) fun w _ => by
  have h := isRune_any c w
  have e : isRune c = decide (isR c) := by unfold isRune isR; rfl
  rw [e] at h
  exact h.mono fun e w' h => ⟨h.1, h.2 ▸ Below.refl _ _⟩
theorem runeBytes_sv (G : Ctx) (H : List Ent) (c : Int) (h : 0 ≤ c ∧ c ≤ 1114111) : SV Tryd.prog G 127 [.int .i64 c] H (.string (strOfNums (runeL c))) := sv_of_calls (callee_of Tryd.func127 rfl rfl) fun w _ => runeBytes_any c w h.1 h.2
/-- The value of bytes, as if they were a rune's. -/
def valU (L : List Int) : Int := match L with
  | [a] => a % 128
  | [a, b] => 64 * (a % 64) + b % 64
  | [a, b, c] => 64 * (64 * (a % 32) + b % 64) + c % 64
  | [a, b, c, d] => 64 * (64 * (64 * (a % 16) + b % 64) + c % 64) + d % 64
  | _ => 0
theorem strEq {x : Int} {s : ByteArray} (h : isR x) : decide (strOfNums (runeL x) = s) = decide (runeL x = nums s) := by
  have hb : 0 ≤ x ∧ x ≤ 1114111 := by unfold isR at h; omega
  have hn := nums_strOf (xs := runeL x) fun y hy => by have := runeL_byte x hb.1 hb.2 y hy; omega
  rw [decide_eq_decide]
  exact ⟨fun e => by rw [← e, hn], fun e => by rw [e, strOf_nums]⟩
theorem ok_yes {x : Int} {L : List Int} (hw : (isR x ∧ runeL x = L) ↔ wfU L = true) (hr : isR x) : decide (runeL x = L) = wfU L := by
  rw [Bool.eq_iff_iff, decide_eq_true_eq, ← hw]
  exact ⟨fun h => ⟨hr, h⟩, fun h => h.2⟩
theorem ok_no {x : Int} {L : List Int} (hw : (isR x ∧ runeL x = L) ↔ wfU L = true) (hr : ¬ isR x) : wfU L = false := by
  cases h : wfU L
  · rfl
  · exact absurd (hw.2 h).1 hr
theorem runeValue_1 (G : Ctx) (H : List Ent) (s : ByteArray) (a : Int) (hs : nums s = [a]) : SC Tryd.prog G 86 [.string s] H fun v H' => ∃ z E, H' = E ++ H ∧ v = .tuple #[.int .i64 z, .bool (wfU [a])] ∧ (wfU [a] = true → z = valU [a]) := by
  have hz : s.size = 1 := by rw [← nums_length, hs]; rfl
  have ha : 0 ≤ a ∧ a < 256 := by have := nums_bound s a (by rw [hs]; simp); omega
  have g0 : (nums s).getD (Int.toNat 0) 0 = a := by rw [hs]; rfl
  have hcell : ([.int .i64 0, .int .i64 128, .int .i64 64, .int .i64 32, .int .i64 16] : List Value)[(s.size : Int).toNat * 1]? = some (.int .i64 128) := by rw [hz]; rfl
  have cR := fun H x => isRune_sv G H x
  have cB := fun H x (h : isR x) => runeBytes_sv G H x (by unfold isR at h; omega)
  refine sc_enter1 Tryd.func86 rfl rfl rfl rfl rfl ?_
  repeat' (first | (apply g_sl; first | (apply ks_nil; refine sl_nil ?_) | (apply ks_move; refine s_move rfl rfl ?_) | (apply ks_bin; refine s_bin rfl rfl rfl ?_; first | first | refine c_buildSlice rfl rfl rfl rfl rfl rfl rfl rfl rfl rfl (fun _ => ?_) | (refine s_index (c_indexNum rfl rfl rfl (by omega) (by omega)) rfl ?_) | (refine s_load rfl rfl ?_; refine ld_elem hcell ?_) | (first | (apply kb_add; first | refine bb_add ⟨by omega, by omega⟩ ?_ | refine bb_of rfl ?_) | (apply kb_mul; first | refine bb_mul ⟨by omega, by omega⟩ ?_ | refine bb_of rfl ?_) | (apply kb_quo; refine bb_quo ⟨by omega, by omega⟩ (by omega) (by omega) ?_) | (apply kb_rem; refine bb_rem (by omega) (by omega) ?_) | refine bb_of rfl ?_)) | (apply ks_load; first | (refine s_load rfl rfl ?_; first | refine ld_cell rfl ?_ | refine ld_whole rfl ?_ | refine ld_elem rfl ?_ | refine ld_part rfl rfl ?_) | first | refine c_buildSlice rfl rfl rfl rfl rfl rfl rfl rfl rfl rfl (fun _ => ?_) | (refine s_index (c_indexNum rfl rfl rfl (by omega) (by omega)) rfl ?_) | (refine s_load rfl rfl ?_; refine ld_elem hcell ?_)) | (apply ks_asgn; refine s_asgn rfl rfl ?_) | (apply ks_pick; refine s_pick rfl rfl ?_; first | (apply kp_t; refine pk_t rfl ?_) | (apply kp_f; refine pk_f rfl ?_) | refine pk_s rfl rfl ?_) | (apply ks_conv; first | first | refine c_buildSlice rfl rfl rfl rfl rfl rfl rfl rfl rfl rfl (fun _ => ?_) | (refine s_index (c_indexNum rfl rfl rfl (by omega) (by omega)) rfl ?_) | (refine s_load rfl rfl ?_; refine ld_elem hcell ?_) | refine s_conv (c_conv (k := .i64) rfl rfl ⟨by omega, by omega⟩) rfl ?_ | refine s_conv (c_conv (k := .u8) rfl rfl ⟨by omega, by omega⟩) rfl ?_ | refine s_conv (c_conv (k := .u64) rfl rfl ⟨by omega, by omega⟩) rfl ?_ | refine s_conv (c_convw rfl rfl) rfl ?_) | (apply ks_index; first | first | refine c_buildSlice rfl rfl rfl rfl rfl rfl rfl rfl rfl rfl (fun _ => ?_) | (refine s_index (c_indexNum rfl rfl rfl (by omega) (by omega)) rfl ?_) | (refine s_load rfl rfl ?_; refine ld_elem hcell ?_) | refine s_index (c_indexArr rfl rfl rfl (by omega) (by omega) rfl) rfl ?_ | refine s_index (c_indexArrA rfl rfl rfl (by omega) (by omega) rfl) rfl ?_ | refine s_index (c_indexStr rfl rfl rfl (by omega) rfl) rfl ?_) | (apply ks_indexA; first | refine s_indexA (c_indexAddr rfl rfl rfl rfl (by omega) (by omega)) rfl ?_ | first | refine c_buildSlice rfl rfl rfl rfl rfl rfl rfl rfl rfl rfl (fun _ => ?_) | (refine s_index (c_indexNum rfl rfl rfl (by omega) (by omega)) rfl ?_) | (refine s_load rfl rfl ?_; refine ld_elem hcell ?_)) | (apply ks_fn; first | fail) | (apply ks_bi; first | first | refine c_buildSlice rfl rfl rfl rfl rfl rfl rfl rfl rfl rfl (fun _ => ?_) | (refine s_index (c_indexNum rfl rfl rfl (by omega) (by omega)) rfl ?_) | (refine s_load rfl rfl ?_; refine ld_elem hcell ?_) | refine s_call (c_len rfl rfl) rfl ?_ | refine s_call (c_len_str rfl rfl) rfl ?_ | refine s_call (c_bi rfl rfl rfl rfl) rfl ?_ | refine c_append rfl rfl rfl rfl (by first | rfl | simp [ints]) (by first | rfl | exact ints_one _ | exact octs_one _ | exact strs_one _) (by omega) rfl rfl (fun _ _ => ?_) | refine c_append_nil rfl rfl rfl rfl (by first | rfl | simp [ints]) (by first | rfl | exact ints_one _ | exact octs_one _ | exact strs_one _) (by omega) rfl rfl (fun _ _ => ?_)) | (apply ks_bs; first | refine c_buildSlice rfl rfl rfl rfl rfl rfl rfl rfl rfl rfl (fun _ => ?_) | first | refine c_buildSlice rfl rfl rfl rfl rfl rfl rfl rfl rfl rfl (fun _ => ?_) | (refine s_index (c_indexNum rfl rfl rfl (by omega) (by omega)) rfl ?_) | (refine s_load rfl rfl ?_; refine ld_elem hcell ?_)) | (apply ks_guard; first | (refine sl_gd rfl rfl rfl rfl ?_; first | (apply gd_t) | (apply gd_ft) | (apply gd_tf) | (apply gd_dec_t <;> intro hq <;> (try (exfalso; omega))) | (apply gd_dec_f <;> intro hq <;> (try (exfalso; omega))) | (apply gd_beq_t <;> intro hq <;> (try (exfalso; omega))) | (apply gd_beq_f <;> intro hq <;> (try (exfalso; omega))) | (apply gd_bne_t <;> intro hq <;> (try (exfalso; omega))) | (apply gd_bne_f <;> intro hq <;> (try (exfalso; omega))) | (apply gd_not_t <;> intro hq) | (apply gd_not_f <;> intro hq) | (apply gd_raw_t <;> intro hq) | (apply gd_raw_f <;> intro hq)) | refine sl_skip_u rfl rfl rfl rfl rfl rfl ?_) | first | refine c_buildSlice rfl rfl rfl rfl rfl rfl rfl rfl rfl rfl (fun _ => ?_) | (refine s_index (c_indexNum rfl rfl rfl (by omega) (by omega)) rfl ?_) | (refine s_load rfl rfl ?_; refine ld_elem hcell ?_)) | (apply sw_seq) | (apply at_srd) | (apply sw_skip) | (apply sw_ret) | (apply sw_exit) | (apply sw_block) | (apply sw_region) | (refine sw_cd rfl ?_; first | (apply gd_t) | (apply gd_ft) | (apply gd_tf) | (apply gd_dec_t <;> intro hq <;> (try (exfalso; omega))) | (apply gd_dec_f <;> intro hq <;> (try (exfalso; omega))) | (apply gd_beq_t <;> intro hq <;> (try (exfalso; omega))) | (apply gd_beq_f <;> intro hq <;> (try (exfalso; omega))) | (apply gd_bne_t <;> intro hq <;> (try (exfalso; omega))) | (apply gd_bne_f <;> intro hq <;> (try (exfalso; omega))) | (apply gd_not_t <;> intro hq) | (apply gd_not_f <;> intro hq) | (apply gd_raw_t <;> intro hq) | (apply gd_raw_f <;> intro hq)) | (apply at_thn) | (apply at_thn_ret) | (apply at_thn_exit) | (apply at_inb) | (apply at_inb_ret) | (apply at_inb_exit) | refine at_inb_pass rfl ?_ | refine c_drawn (by kernel_rfl) ?_)
  refine sw_loopN 4 (srd_succ ?_)
  repeat' (first | (apply g_sl; first | (apply ks_nil; refine sl_nil ?_) | (apply ks_move; refine s_move rfl rfl ?_) | (apply ks_bin; refine s_bin rfl rfl rfl ?_; first | first | (refine s_index (c_indexNum rfl rfl rfl (by omega) (by omega)) rfl ?_) | refine bb_seq ?_ | (first | (apply kb_add; first | refine bb_add ⟨by omega, by omega⟩ ?_ | refine bb_of rfl ?_) | (apply kb_mul; first | refine bb_mul ⟨by omega, by omega⟩ ?_ | refine bb_of rfl ?_) | (apply kb_quo; refine bb_quo ⟨by omega, by omega⟩ (by omega) (by omega) ?_) | (apply kb_rem; refine bb_rem (by omega) (by omega) ?_) | refine bb_of rfl ?_)) | (apply ks_load; first | (refine s_load rfl rfl ?_; first | refine ld_cell rfl ?_ | refine ld_whole rfl ?_ | refine ld_elem rfl ?_ | refine ld_part rfl rfl ?_) | first | (refine s_index (c_indexNum rfl rfl rfl (by omega) (by omega)) rfl ?_) | refine bb_seq ?_) | (apply ks_asgn; refine s_asgn rfl rfl ?_) | (apply ks_pick; refine s_pick rfl rfl ?_; first | (apply kp_t; refine pk_t rfl ?_) | (apply kp_f; refine pk_f rfl ?_) | refine pk_s rfl rfl ?_) | (apply ks_conv; first | first | (refine s_index (c_indexNum rfl rfl rfl (by omega) (by omega)) rfl ?_) | refine bb_seq ?_ | refine s_conv (c_conv (k := .i64) rfl rfl ⟨by omega, by omega⟩) rfl ?_ | refine s_conv (c_conv (k := .u8) rfl rfl ⟨by omega, by omega⟩) rfl ?_ | refine s_conv (c_conv (k := .u64) rfl rfl ⟨by omega, by omega⟩) rfl ?_ | refine s_conv (c_convw rfl rfl) rfl ?_) | (apply ks_index; first | first | (refine s_index (c_indexNum rfl rfl rfl (by omega) (by omega)) rfl ?_) | refine bb_seq ?_ | refine s_index (c_indexArr rfl rfl rfl (by omega) (by omega) rfl) rfl ?_ | refine s_index (c_indexArrA rfl rfl rfl (by omega) (by omega) rfl) rfl ?_ | refine s_index (c_indexStr rfl rfl rfl (by omega) rfl) rfl ?_) | (apply ks_indexA; first | refine s_indexA (c_indexAddr rfl rfl rfl rfl (by omega) (by omega)) rfl ?_ | first | (refine s_index (c_indexNum rfl rfl rfl (by omega) (by omega)) rfl ?_) | refine bb_seq ?_) | (apply ks_fn; first | first | refine c_callv rfl rfl rfl (cR _ _) rfl rfl ?_ | refine c_callv rfl rfl rfl (cB _ _ (by assumption)) rfl rfl ?_) | (apply ks_bi; first | first | (refine s_index (c_indexNum rfl rfl rfl (by omega) (by omega)) rfl ?_) | refine bb_seq ?_ | refine s_call (c_len rfl rfl) rfl ?_ | refine s_call (c_len_str rfl rfl) rfl ?_ | refine s_call (c_bi rfl rfl rfl rfl) rfl ?_ | refine c_append rfl rfl rfl rfl (by first | rfl | simp [ints]) (by first | rfl | exact ints_one _ | exact octs_one _ | exact strs_one _) (by omega) rfl rfl (fun _ _ => ?_) | refine c_append_nil rfl rfl rfl rfl (by first | rfl | simp [ints]) (by first | rfl | exact ints_one _ | exact octs_one _ | exact strs_one _) (by omega) rfl rfl (fun _ _ => ?_)) | (apply ks_bs; first | refine c_buildSlice rfl rfl rfl rfl rfl rfl rfl rfl rfl rfl (fun _ => ?_) | first | (refine s_index (c_indexNum rfl rfl rfl (by omega) (by omega)) rfl ?_) | refine bb_seq ?_) | (apply ks_guard; first | (refine sl_gd rfl rfl rfl rfl ?_; first | (apply gd_t) | (apply gd_ft) | (apply gd_tf) | (apply gd_dec_t <;> intro hq <;> (try (exfalso; omega))) | (apply gd_dec_f <;> intro hq <;> (try (exfalso; omega))) | (apply gd_beq_t <;> intro hq <;> (try (exfalso; omega))) | (apply gd_beq_f <;> intro hq <;> (try (exfalso; omega))) | (apply gd_bne_t <;> intro hq <;> (try (exfalso; omega))) | (apply gd_bne_f <;> intro hq <;> (try (exfalso; omega))) | (apply gd_not_t <;> intro hq) | (apply gd_not_f <;> intro hq) | (apply gd_raw_t <;> intro hq) | (apply gd_raw_f <;> intro hq)) | refine sl_skip_u rfl rfl rfl rfl rfl rfl ?_) | first | (refine s_index (c_indexNum rfl rfl rfl (by omega) (by omega)) rfl ?_) | refine bb_seq ?_) | (apply sw_seq) | (apply at_srd) | (apply sw_skip) | (apply sw_ret) | (apply sw_exit) | (apply sw_block) | (apply sw_region) | (refine sw_cd rfl ?_; first | (apply gd_t) | (apply gd_ft) | (apply gd_tf) | (apply gd_dec_t <;> intro hq <;> (try (exfalso; omega))) | (apply gd_dec_f <;> intro hq <;> (try (exfalso; omega))) | (apply gd_beq_t <;> intro hq <;> (try (exfalso; omega))) | (apply gd_beq_f <;> intro hq <;> (try (exfalso; omega))) | (apply gd_bne_t <;> intro hq <;> (try (exfalso; omega))) | (apply gd_bne_f <;> intro hq <;> (try (exfalso; omega))) | (apply gd_not_t <;> intro hq) | (apply gd_not_f <;> intro hq) | (apply gd_raw_t <;> intro hq) | (apply gd_raw_f <;> intro hq)) | (apply at_thn) | (apply at_thn_ret) | (apply at_thn_exit) | (apply at_inb) | (apply at_inb_ret) | (apply at_inb_exit) | refine at_inb_pass rfl ?_ | refine c_drawn (by kernel_rfl) ?_)
  all_goals (refine e_sc _ (by first | exact .inl rfl | exact .inr rfl) rfl (List.Sublist.refl _) ?_)
  all_goals first
    | (have hw := wf_1 ha; rw [g0] at hq; exact ⟨valU [a], [_], rfl, by rw [g0, strEq hq, hs, ok_yes hw hq]; rfl, fun _ => rfl⟩)
    | (have hw := wf_1 ha; rw [g0] at hq; have hf := ok_no hw hq; rw [hf]; exact ⟨_, [_], rfl, rfl, fun h => nomatch h⟩)
    | (have hf : wfU [a] = false := (by cases hh : wfU [a]; rfl; exfalso; simp [wfU] at hh; omega); rw [hf]; exact ⟨_, [_], rfl, rfl, fun h => nomatch h⟩)
theorem runeValue_2 (G : Ctx) (H : List Ent) (s : ByteArray) (a b : Int) (hs : nums s = [a, b]) : SC Tryd.prog G 86 [.string s] H fun v H' => ∃ z E, H' = E ++ H ∧ v = .tuple #[.int .i64 z, .bool (wfU [a, b])] ∧ (wfU [a, b] = true → z = valU [a, b]) := by
  have hz : s.size = 2 := by rw [← nums_length, hs]; rfl
  have ha : 0 ≤ a ∧ a < 256 := by have := nums_bound s a (by rw [hs]; simp); omega
  have hb : 0 ≤ b ∧ b < 256 := by have := nums_bound s b (by rw [hs]; simp); omega
  have g0 : (nums s).getD (Int.toNat 0) 0 = a := by rw [hs]; rfl
  have g1 : (nums s).getD (Int.toNat 1) 0 = b := by rw [hs]; rfl
  have hcell : ([.int .i64 0, .int .i64 128, .int .i64 64, .int .i64 32, .int .i64 16] : List Value)[(s.size : Int).toNat * 1]? = some (.int .i64 64) := by rw [hz]; rfl
  have cR := fun H x => isRune_sv G H x
  have cB := fun H x (h : isR x) => runeBytes_sv G H x (by unfold isR at h; omega)
  refine sc_enter1 Tryd.func86 rfl rfl rfl rfl rfl ?_
  repeat' (first | (apply g_sl; first | (apply ks_nil; refine sl_nil ?_) | (apply ks_move; refine s_move rfl rfl ?_) | (apply ks_bin; refine s_bin rfl rfl rfl ?_; first | first | refine c_buildSlice rfl rfl rfl rfl rfl rfl rfl rfl rfl rfl (fun _ => ?_) | (refine s_index (c_indexNum rfl rfl rfl (by omega) (by omega)) rfl ?_) | (refine s_load rfl rfl ?_; refine ld_elem hcell ?_) | (first | (apply kb_add; first | refine bb_add ⟨by omega, by omega⟩ ?_ | refine bb_of rfl ?_) | (apply kb_mul; first | refine bb_mul ⟨by omega, by omega⟩ ?_ | refine bb_of rfl ?_) | (apply kb_quo; refine bb_quo ⟨by omega, by omega⟩ (by omega) (by omega) ?_) | (apply kb_rem; refine bb_rem (by omega) (by omega) ?_) | refine bb_of rfl ?_)) | (apply ks_load; first | (refine s_load rfl rfl ?_; first | refine ld_cell rfl ?_ | refine ld_whole rfl ?_ | refine ld_elem rfl ?_ | refine ld_part rfl rfl ?_) | first | refine c_buildSlice rfl rfl rfl rfl rfl rfl rfl rfl rfl rfl (fun _ => ?_) | (refine s_index (c_indexNum rfl rfl rfl (by omega) (by omega)) rfl ?_) | (refine s_load rfl rfl ?_; refine ld_elem hcell ?_)) | (apply ks_asgn; refine s_asgn rfl rfl ?_) | (apply ks_pick; refine s_pick rfl rfl ?_; first | (apply kp_t; refine pk_t rfl ?_) | (apply kp_f; refine pk_f rfl ?_) | refine pk_s rfl rfl ?_) | (apply ks_conv; first | first | refine c_buildSlice rfl rfl rfl rfl rfl rfl rfl rfl rfl rfl (fun _ => ?_) | (refine s_index (c_indexNum rfl rfl rfl (by omega) (by omega)) rfl ?_) | (refine s_load rfl rfl ?_; refine ld_elem hcell ?_) | refine s_conv (c_conv (k := .i64) rfl rfl ⟨by omega, by omega⟩) rfl ?_ | refine s_conv (c_conv (k := .u8) rfl rfl ⟨by omega, by omega⟩) rfl ?_ | refine s_conv (c_conv (k := .u64) rfl rfl ⟨by omega, by omega⟩) rfl ?_ | refine s_conv (c_convw rfl rfl) rfl ?_) | (apply ks_index; first | first | refine c_buildSlice rfl rfl rfl rfl rfl rfl rfl rfl rfl rfl (fun _ => ?_) | (refine s_index (c_indexNum rfl rfl rfl (by omega) (by omega)) rfl ?_) | (refine s_load rfl rfl ?_; refine ld_elem hcell ?_) | refine s_index (c_indexArr rfl rfl rfl (by omega) (by omega) rfl) rfl ?_ | refine s_index (c_indexArrA rfl rfl rfl (by omega) (by omega) rfl) rfl ?_ | refine s_index (c_indexStr rfl rfl rfl (by omega) rfl) rfl ?_) | (apply ks_indexA; first | refine s_indexA (c_indexAddr rfl rfl rfl rfl (by omega) (by omega)) rfl ?_ | first | refine c_buildSlice rfl rfl rfl rfl rfl rfl rfl rfl rfl rfl (fun _ => ?_) | (refine s_index (c_indexNum rfl rfl rfl (by omega) (by omega)) rfl ?_) | (refine s_load rfl rfl ?_; refine ld_elem hcell ?_)) | (apply ks_fn; first | fail) | (apply ks_bi; first | first | refine c_buildSlice rfl rfl rfl rfl rfl rfl rfl rfl rfl rfl (fun _ => ?_) | (refine s_index (c_indexNum rfl rfl rfl (by omega) (by omega)) rfl ?_) | (refine s_load rfl rfl ?_; refine ld_elem hcell ?_) | refine s_call (c_len rfl rfl) rfl ?_ | refine s_call (c_len_str rfl rfl) rfl ?_ | refine s_call (c_bi rfl rfl rfl rfl) rfl ?_ | refine c_append rfl rfl rfl rfl (by first | rfl | simp [ints]) (by first | rfl | exact ints_one _ | exact octs_one _ | exact strs_one _) (by omega) rfl rfl (fun _ _ => ?_) | refine c_append_nil rfl rfl rfl rfl (by first | rfl | simp [ints]) (by first | rfl | exact ints_one _ | exact octs_one _ | exact strs_one _) (by omega) rfl rfl (fun _ _ => ?_)) | (apply ks_bs; first | refine c_buildSlice rfl rfl rfl rfl rfl rfl rfl rfl rfl rfl (fun _ => ?_) | first | refine c_buildSlice rfl rfl rfl rfl rfl rfl rfl rfl rfl rfl (fun _ => ?_) | (refine s_index (c_indexNum rfl rfl rfl (by omega) (by omega)) rfl ?_) | (refine s_load rfl rfl ?_; refine ld_elem hcell ?_)) | (apply ks_guard; first | (refine sl_gd rfl rfl rfl rfl ?_; first | (apply gd_t) | (apply gd_ft) | (apply gd_tf) | (apply gd_dec_t <;> intro hq <;> (try (exfalso; omega))) | (apply gd_dec_f <;> intro hq <;> (try (exfalso; omega))) | (apply gd_beq_t <;> intro hq <;> (try (exfalso; omega))) | (apply gd_beq_f <;> intro hq <;> (try (exfalso; omega))) | (apply gd_bne_t <;> intro hq <;> (try (exfalso; omega))) | (apply gd_bne_f <;> intro hq <;> (try (exfalso; omega))) | (apply gd_not_t <;> intro hq) | (apply gd_not_f <;> intro hq) | (apply gd_raw_t <;> intro hq) | (apply gd_raw_f <;> intro hq)) | refine sl_skip_u rfl rfl rfl rfl rfl rfl ?_) | first | refine c_buildSlice rfl rfl rfl rfl rfl rfl rfl rfl rfl rfl (fun _ => ?_) | (refine s_index (c_indexNum rfl rfl rfl (by omega) (by omega)) rfl ?_) | (refine s_load rfl rfl ?_; refine ld_elem hcell ?_)) | (apply sw_seq) | (apply at_srd) | (apply sw_skip) | (apply sw_ret) | (apply sw_exit) | (apply sw_block) | (apply sw_region) | (refine sw_cd rfl ?_; first | (apply gd_t) | (apply gd_ft) | (apply gd_tf) | (apply gd_dec_t <;> intro hq <;> (try (exfalso; omega))) | (apply gd_dec_f <;> intro hq <;> (try (exfalso; omega))) | (apply gd_beq_t <;> intro hq <;> (try (exfalso; omega))) | (apply gd_beq_f <;> intro hq <;> (try (exfalso; omega))) | (apply gd_bne_t <;> intro hq <;> (try (exfalso; omega))) | (apply gd_bne_f <;> intro hq <;> (try (exfalso; omega))) | (apply gd_not_t <;> intro hq) | (apply gd_not_f <;> intro hq) | (apply gd_raw_t <;> intro hq) | (apply gd_raw_f <;> intro hq)) | (apply at_thn) | (apply at_thn_ret) | (apply at_thn_exit) | (apply at_inb) | (apply at_inb_ret) | (apply at_inb_exit) | refine at_inb_pass rfl ?_ | refine c_drawn (by kernel_rfl) ?_)
  refine sw_loopN 4 (srd_succ ?_)
  repeat' (first | (apply g_sl; first | (apply ks_nil; refine sl_nil ?_) | (apply ks_move; refine s_move rfl rfl ?_) | (apply ks_bin; refine s_bin rfl rfl rfl ?_; first | first | (refine s_index (c_indexNum rfl rfl rfl (by omega) (by omega)) rfl ?_) | refine bb_seq ?_ | (first | (apply kb_add; first | refine bb_add ⟨by omega, by omega⟩ ?_ | refine bb_of rfl ?_) | (apply kb_mul; first | refine bb_mul ⟨by omega, by omega⟩ ?_ | refine bb_of rfl ?_) | (apply kb_quo; refine bb_quo ⟨by omega, by omega⟩ (by omega) (by omega) ?_) | (apply kb_rem; refine bb_rem (by omega) (by omega) ?_) | refine bb_of rfl ?_)) | (apply ks_load; first | (refine s_load rfl rfl ?_; first | refine ld_cell rfl ?_ | refine ld_whole rfl ?_ | refine ld_elem rfl ?_ | refine ld_part rfl rfl ?_) | first | (refine s_index (c_indexNum rfl rfl rfl (by omega) (by omega)) rfl ?_) | refine bb_seq ?_) | (apply ks_asgn; refine s_asgn rfl rfl ?_) | (apply ks_pick; refine s_pick rfl rfl ?_; first | (apply kp_t; refine pk_t rfl ?_) | (apply kp_f; refine pk_f rfl ?_) | refine pk_s rfl rfl ?_) | (apply ks_conv; first | first | (refine s_index (c_indexNum rfl rfl rfl (by omega) (by omega)) rfl ?_) | refine bb_seq ?_ | refine s_conv (c_conv (k := .i64) rfl rfl ⟨by omega, by omega⟩) rfl ?_ | refine s_conv (c_conv (k := .u8) rfl rfl ⟨by omega, by omega⟩) rfl ?_ | refine s_conv (c_conv (k := .u64) rfl rfl ⟨by omega, by omega⟩) rfl ?_ | refine s_conv (c_convw rfl rfl) rfl ?_) | (apply ks_index; first | first | (refine s_index (c_indexNum rfl rfl rfl (by omega) (by omega)) rfl ?_) | refine bb_seq ?_ | refine s_index (c_indexArr rfl rfl rfl (by omega) (by omega) rfl) rfl ?_ | refine s_index (c_indexArrA rfl rfl rfl (by omega) (by omega) rfl) rfl ?_ | refine s_index (c_indexStr rfl rfl rfl (by omega) rfl) rfl ?_) | (apply ks_indexA; first | refine s_indexA (c_indexAddr rfl rfl rfl rfl (by omega) (by omega)) rfl ?_ | first | (refine s_index (c_indexNum rfl rfl rfl (by omega) (by omega)) rfl ?_) | refine bb_seq ?_) | (apply ks_fn; first | first | refine c_callv rfl rfl rfl (cR _ _) rfl rfl ?_ | refine c_callv rfl rfl rfl (cB _ _ (by assumption)) rfl rfl ?_) | (apply ks_bi; first | first | (refine s_index (c_indexNum rfl rfl rfl (by omega) (by omega)) rfl ?_) | refine bb_seq ?_ | refine s_call (c_len rfl rfl) rfl ?_ | refine s_call (c_len_str rfl rfl) rfl ?_ | refine s_call (c_bi rfl rfl rfl rfl) rfl ?_ | refine c_append rfl rfl rfl rfl (by first | rfl | simp [ints]) (by first | rfl | exact ints_one _ | exact octs_one _ | exact strs_one _) (by omega) rfl rfl (fun _ _ => ?_) | refine c_append_nil rfl rfl rfl rfl (by first | rfl | simp [ints]) (by first | rfl | exact ints_one _ | exact octs_one _ | exact strs_one _) (by omega) rfl rfl (fun _ _ => ?_)) | (apply ks_bs; first | refine c_buildSlice rfl rfl rfl rfl rfl rfl rfl rfl rfl rfl (fun _ => ?_) | first | (refine s_index (c_indexNum rfl rfl rfl (by omega) (by omega)) rfl ?_) | refine bb_seq ?_) | (apply ks_guard; first | (refine sl_gd rfl rfl rfl rfl ?_; first | (apply gd_t) | (apply gd_ft) | (apply gd_tf) | (apply gd_dec_t <;> intro hq <;> (try (exfalso; omega))) | (apply gd_dec_f <;> intro hq <;> (try (exfalso; omega))) | (apply gd_beq_t <;> intro hq <;> (try (exfalso; omega))) | (apply gd_beq_f <;> intro hq <;> (try (exfalso; omega))) | (apply gd_bne_t <;> intro hq <;> (try (exfalso; omega))) | (apply gd_bne_f <;> intro hq <;> (try (exfalso; omega))) | (apply gd_not_t <;> intro hq) | (apply gd_not_f <;> intro hq) | (apply gd_raw_t <;> intro hq) | (apply gd_raw_f <;> intro hq)) | refine sl_skip_u rfl rfl rfl rfl rfl rfl ?_) | first | (refine s_index (c_indexNum rfl rfl rfl (by omega) (by omega)) rfl ?_) | refine bb_seq ?_) | (apply sw_seq) | (apply at_srd) | (apply sw_skip) | (apply sw_ret) | (apply sw_exit) | (apply sw_block) | (apply sw_region) | (refine sw_cd rfl ?_; first | (apply gd_t) | (apply gd_ft) | (apply gd_tf) | (apply gd_dec_t <;> intro hq <;> (try (exfalso; omega))) | (apply gd_dec_f <;> intro hq <;> (try (exfalso; omega))) | (apply gd_beq_t <;> intro hq <;> (try (exfalso; omega))) | (apply gd_beq_f <;> intro hq <;> (try (exfalso; omega))) | (apply gd_bne_t <;> intro hq <;> (try (exfalso; omega))) | (apply gd_bne_f <;> intro hq <;> (try (exfalso; omega))) | (apply gd_not_t <;> intro hq) | (apply gd_not_f <;> intro hq) | (apply gd_raw_t <;> intro hq) | (apply gd_raw_f <;> intro hq)) | (apply at_thn) | (apply at_thn_ret) | (apply at_thn_exit) | (apply at_inb) | (apply at_inb_ret) | (apply at_inb_exit) | refine at_inb_pass rfl ?_ | refine c_drawn (by kernel_rfl) ?_)
  all_goals (refine e_sc _ (by first | exact .inl rfl | exact .inr rfl) rfl (List.Sublist.refl _) ?_)
  all_goals first
    | (have hw := wf_2 ha hb (by omega); rw [g0, g1] at hq; exact ⟨valU [a, b], [_], rfl, by rw [g0, g1, strEq hq, hs, ok_yes hw hq]; rfl, fun _ => rfl⟩)
    | (have hw := wf_2 ha hb (by omega); rw [g0, g1] at hq; have hf := ok_no hw hq; rw [hf]; exact ⟨_, [_], rfl, rfl, fun h => nomatch h⟩)
    | (have hf : wfU [a, b] = false := (by cases hh : wfU [a, b]; rfl; exfalso; simp [wfU] at hh; omega); rw [hf]; exact ⟨_, [_], rfl, rfl, fun h => nomatch h⟩)
theorem runeValue_3 (G : Ctx) (H : List Ent) (s : ByteArray) (a b c : Int) (hs : nums s = [a, b, c]) : SC Tryd.prog G 86 [.string s] H fun v H' => ∃ z E, H' = E ++ H ∧ v = .tuple #[.int .i64 z, .bool (wfU [a, b, c])] ∧ (wfU [a, b, c] = true → z = valU [a, b, c]) := by
  have hz : s.size = 3 := by rw [← nums_length, hs]; rfl
  have ha : 0 ≤ a ∧ a < 256 := by have := nums_bound s a (by rw [hs]; simp); omega
  have hb : 0 ≤ b ∧ b < 256 := by have := nums_bound s b (by rw [hs]; simp); omega
  have hc : 0 ≤ c ∧ c < 256 := by have := nums_bound s c (by rw [hs]; simp); omega
  have g0 : (nums s).getD (Int.toNat 0) 0 = a := by rw [hs]; rfl
  have g1 : (nums s).getD (Int.toNat 1) 0 = b := by rw [hs]; rfl
  have g2 : (nums s).getD (Int.toNat (1 + 1)) 0 = c := by rw [hs]; rfl
  have hcell : ([.int .i64 0, .int .i64 128, .int .i64 64, .int .i64 32, .int .i64 16] : List Value)[(s.size : Int).toNat * 1]? = some (.int .i64 32) := by rw [hz]; rfl
  have cR := fun H x => isRune_sv G H x
  have cB := fun H x (h : isR x) => runeBytes_sv G H x (by unfold isR at h; omega)
  refine sc_enter1 Tryd.func86 rfl rfl rfl rfl rfl ?_
  repeat' (first | (apply g_sl; first | (apply ks_nil; refine sl_nil ?_) | (apply ks_move; refine s_move rfl rfl ?_) | (apply ks_bin; refine s_bin rfl rfl rfl ?_; first | first | refine c_buildSlice rfl rfl rfl rfl rfl rfl rfl rfl rfl rfl (fun _ => ?_) | (refine s_index (c_indexNum rfl rfl rfl (by omega) (by omega)) rfl ?_) | (refine s_load rfl rfl ?_; refine ld_elem hcell ?_) | (first | (apply kb_add; first | refine bb_add ⟨by omega, by omega⟩ ?_ | refine bb_of rfl ?_) | (apply kb_mul; first | refine bb_mul ⟨by omega, by omega⟩ ?_ | refine bb_of rfl ?_) | (apply kb_quo; refine bb_quo ⟨by omega, by omega⟩ (by omega) (by omega) ?_) | (apply kb_rem; refine bb_rem (by omega) (by omega) ?_) | refine bb_of rfl ?_)) | (apply ks_load; first | (refine s_load rfl rfl ?_; first | refine ld_cell rfl ?_ | refine ld_whole rfl ?_ | refine ld_elem rfl ?_ | refine ld_part rfl rfl ?_) | first | refine c_buildSlice rfl rfl rfl rfl rfl rfl rfl rfl rfl rfl (fun _ => ?_) | (refine s_index (c_indexNum rfl rfl rfl (by omega) (by omega)) rfl ?_) | (refine s_load rfl rfl ?_; refine ld_elem hcell ?_)) | (apply ks_asgn; refine s_asgn rfl rfl ?_) | (apply ks_pick; refine s_pick rfl rfl ?_; first | (apply kp_t; refine pk_t rfl ?_) | (apply kp_f; refine pk_f rfl ?_) | refine pk_s rfl rfl ?_) | (apply ks_conv; first | first | refine c_buildSlice rfl rfl rfl rfl rfl rfl rfl rfl rfl rfl (fun _ => ?_) | (refine s_index (c_indexNum rfl rfl rfl (by omega) (by omega)) rfl ?_) | (refine s_load rfl rfl ?_; refine ld_elem hcell ?_) | refine s_conv (c_conv (k := .i64) rfl rfl ⟨by omega, by omega⟩) rfl ?_ | refine s_conv (c_conv (k := .u8) rfl rfl ⟨by omega, by omega⟩) rfl ?_ | refine s_conv (c_conv (k := .u64) rfl rfl ⟨by omega, by omega⟩) rfl ?_ | refine s_conv (c_convw rfl rfl) rfl ?_) | (apply ks_index; first | first | refine c_buildSlice rfl rfl rfl rfl rfl rfl rfl rfl rfl rfl (fun _ => ?_) | (refine s_index (c_indexNum rfl rfl rfl (by omega) (by omega)) rfl ?_) | (refine s_load rfl rfl ?_; refine ld_elem hcell ?_) | refine s_index (c_indexArr rfl rfl rfl (by omega) (by omega) rfl) rfl ?_ | refine s_index (c_indexArrA rfl rfl rfl (by omega) (by omega) rfl) rfl ?_ | refine s_index (c_indexStr rfl rfl rfl (by omega) rfl) rfl ?_) | (apply ks_indexA; first | refine s_indexA (c_indexAddr rfl rfl rfl rfl (by omega) (by omega)) rfl ?_ | first | refine c_buildSlice rfl rfl rfl rfl rfl rfl rfl rfl rfl rfl (fun _ => ?_) | (refine s_index (c_indexNum rfl rfl rfl (by omega) (by omega)) rfl ?_) | (refine s_load rfl rfl ?_; refine ld_elem hcell ?_)) | (apply ks_fn; first | fail) | (apply ks_bi; first | first | refine c_buildSlice rfl rfl rfl rfl rfl rfl rfl rfl rfl rfl (fun _ => ?_) | (refine s_index (c_indexNum rfl rfl rfl (by omega) (by omega)) rfl ?_) | (refine s_load rfl rfl ?_; refine ld_elem hcell ?_) | refine s_call (c_len rfl rfl) rfl ?_ | refine s_call (c_len_str rfl rfl) rfl ?_ | refine s_call (c_bi rfl rfl rfl rfl) rfl ?_ | refine c_append rfl rfl rfl rfl (by first | rfl | simp [ints]) (by first | rfl | exact ints_one _ | exact octs_one _ | exact strs_one _) (by omega) rfl rfl (fun _ _ => ?_) | refine c_append_nil rfl rfl rfl rfl (by first | rfl | simp [ints]) (by first | rfl | exact ints_one _ | exact octs_one _ | exact strs_one _) (by omega) rfl rfl (fun _ _ => ?_)) | (apply ks_bs; first | refine c_buildSlice rfl rfl rfl rfl rfl rfl rfl rfl rfl rfl (fun _ => ?_) | first | refine c_buildSlice rfl rfl rfl rfl rfl rfl rfl rfl rfl rfl (fun _ => ?_) | (refine s_index (c_indexNum rfl rfl rfl (by omega) (by omega)) rfl ?_) | (refine s_load rfl rfl ?_; refine ld_elem hcell ?_)) | (apply ks_guard; first | (refine sl_gd rfl rfl rfl rfl ?_; first | (apply gd_t) | (apply gd_ft) | (apply gd_tf) | (apply gd_dec_t <;> intro hq <;> (try (exfalso; omega))) | (apply gd_dec_f <;> intro hq <;> (try (exfalso; omega))) | (apply gd_beq_t <;> intro hq <;> (try (exfalso; omega))) | (apply gd_beq_f <;> intro hq <;> (try (exfalso; omega))) | (apply gd_bne_t <;> intro hq <;> (try (exfalso; omega))) | (apply gd_bne_f <;> intro hq <;> (try (exfalso; omega))) | (apply gd_not_t <;> intro hq) | (apply gd_not_f <;> intro hq) | (apply gd_raw_t <;> intro hq) | (apply gd_raw_f <;> intro hq)) | refine sl_skip_u rfl rfl rfl rfl rfl rfl ?_) | first | refine c_buildSlice rfl rfl rfl rfl rfl rfl rfl rfl rfl rfl (fun _ => ?_) | (refine s_index (c_indexNum rfl rfl rfl (by omega) (by omega)) rfl ?_) | (refine s_load rfl rfl ?_; refine ld_elem hcell ?_)) | (apply sw_seq) | (apply at_srd) | (apply sw_skip) | (apply sw_ret) | (apply sw_exit) | (apply sw_block) | (apply sw_region) | (refine sw_cd rfl ?_; first | (apply gd_t) | (apply gd_ft) | (apply gd_tf) | (apply gd_dec_t <;> intro hq <;> (try (exfalso; omega))) | (apply gd_dec_f <;> intro hq <;> (try (exfalso; omega))) | (apply gd_beq_t <;> intro hq <;> (try (exfalso; omega))) | (apply gd_beq_f <;> intro hq <;> (try (exfalso; omega))) | (apply gd_bne_t <;> intro hq <;> (try (exfalso; omega))) | (apply gd_bne_f <;> intro hq <;> (try (exfalso; omega))) | (apply gd_not_t <;> intro hq) | (apply gd_not_f <;> intro hq) | (apply gd_raw_t <;> intro hq) | (apply gd_raw_f <;> intro hq)) | (apply at_thn) | (apply at_thn_ret) | (apply at_thn_exit) | (apply at_inb) | (apply at_inb_ret) | (apply at_inb_exit) | refine at_inb_pass rfl ?_ | refine c_drawn (by kernel_rfl) ?_)
  refine sw_loopN 4 (srd_succ ?_)
  repeat' (first | (apply g_sl; first | (apply ks_nil; refine sl_nil ?_) | (apply ks_move; refine s_move rfl rfl ?_) | (apply ks_bin; refine s_bin rfl rfl rfl ?_; first | first | (refine s_index (c_indexNum rfl rfl rfl (by omega) (by omega)) rfl ?_) | refine bb_seq ?_ | (first | (apply kb_add; first | refine bb_add ⟨by omega, by omega⟩ ?_ | refine bb_of rfl ?_) | (apply kb_mul; first | refine bb_mul ⟨by omega, by omega⟩ ?_ | refine bb_of rfl ?_) | (apply kb_quo; refine bb_quo ⟨by omega, by omega⟩ (by omega) (by omega) ?_) | (apply kb_rem; refine bb_rem (by omega) (by omega) ?_) | refine bb_of rfl ?_)) | (apply ks_load; first | (refine s_load rfl rfl ?_; first | refine ld_cell rfl ?_ | refine ld_whole rfl ?_ | refine ld_elem rfl ?_ | refine ld_part rfl rfl ?_) | first | (refine s_index (c_indexNum rfl rfl rfl (by omega) (by omega)) rfl ?_) | refine bb_seq ?_) | (apply ks_asgn; refine s_asgn rfl rfl ?_) | (apply ks_pick; refine s_pick rfl rfl ?_; first | (apply kp_t; refine pk_t rfl ?_) | (apply kp_f; refine pk_f rfl ?_) | refine pk_s rfl rfl ?_) | (apply ks_conv; first | first | (refine s_index (c_indexNum rfl rfl rfl (by omega) (by omega)) rfl ?_) | refine bb_seq ?_ | refine s_conv (c_conv (k := .i64) rfl rfl ⟨by omega, by omega⟩) rfl ?_ | refine s_conv (c_conv (k := .u8) rfl rfl ⟨by omega, by omega⟩) rfl ?_ | refine s_conv (c_conv (k := .u64) rfl rfl ⟨by omega, by omega⟩) rfl ?_ | refine s_conv (c_convw rfl rfl) rfl ?_) | (apply ks_index; first | first | (refine s_index (c_indexNum rfl rfl rfl (by omega) (by omega)) rfl ?_) | refine bb_seq ?_ | refine s_index (c_indexArr rfl rfl rfl (by omega) (by omega) rfl) rfl ?_ | refine s_index (c_indexArrA rfl rfl rfl (by omega) (by omega) rfl) rfl ?_ | refine s_index (c_indexStr rfl rfl rfl (by omega) rfl) rfl ?_) | (apply ks_indexA; first | refine s_indexA (c_indexAddr rfl rfl rfl rfl (by omega) (by omega)) rfl ?_ | first | (refine s_index (c_indexNum rfl rfl rfl (by omega) (by omega)) rfl ?_) | refine bb_seq ?_) | (apply ks_fn; first | first | refine c_callv rfl rfl rfl (cR _ _) rfl rfl ?_ | refine c_callv rfl rfl rfl (cB _ _ (by assumption)) rfl rfl ?_) | (apply ks_bi; first | first | (refine s_index (c_indexNum rfl rfl rfl (by omega) (by omega)) rfl ?_) | refine bb_seq ?_ | refine s_call (c_len rfl rfl) rfl ?_ | refine s_call (c_len_str rfl rfl) rfl ?_ | refine s_call (c_bi rfl rfl rfl rfl) rfl ?_ | refine c_append rfl rfl rfl rfl (by first | rfl | simp [ints]) (by first | rfl | exact ints_one _ | exact octs_one _ | exact strs_one _) (by omega) rfl rfl (fun _ _ => ?_) | refine c_append_nil rfl rfl rfl rfl (by first | rfl | simp [ints]) (by first | rfl | exact ints_one _ | exact octs_one _ | exact strs_one _) (by omega) rfl rfl (fun _ _ => ?_)) | (apply ks_bs; first | refine c_buildSlice rfl rfl rfl rfl rfl rfl rfl rfl rfl rfl (fun _ => ?_) | first | (refine s_index (c_indexNum rfl rfl rfl (by omega) (by omega)) rfl ?_) | refine bb_seq ?_) | (apply ks_guard; first | (refine sl_gd rfl rfl rfl rfl ?_; first | (apply gd_t) | (apply gd_ft) | (apply gd_tf) | (apply gd_dec_t <;> intro hq <;> (try (exfalso; omega))) | (apply gd_dec_f <;> intro hq <;> (try (exfalso; omega))) | (apply gd_beq_t <;> intro hq <;> (try (exfalso; omega))) | (apply gd_beq_f <;> intro hq <;> (try (exfalso; omega))) | (apply gd_bne_t <;> intro hq <;> (try (exfalso; omega))) | (apply gd_bne_f <;> intro hq <;> (try (exfalso; omega))) | (apply gd_not_t <;> intro hq) | (apply gd_not_f <;> intro hq) | (apply gd_raw_t <;> intro hq) | (apply gd_raw_f <;> intro hq)) | refine sl_skip_u rfl rfl rfl rfl rfl rfl ?_) | first | (refine s_index (c_indexNum rfl rfl rfl (by omega) (by omega)) rfl ?_) | refine bb_seq ?_) | (apply sw_seq) | (apply at_srd) | (apply sw_skip) | (apply sw_ret) | (apply sw_exit) | (apply sw_block) | (apply sw_region) | (refine sw_cd rfl ?_; first | (apply gd_t) | (apply gd_ft) | (apply gd_tf) | (apply gd_dec_t <;> intro hq <;> (try (exfalso; omega))) | (apply gd_dec_f <;> intro hq <;> (try (exfalso; omega))) | (apply gd_beq_t <;> intro hq <;> (try (exfalso; omega))) | (apply gd_beq_f <;> intro hq <;> (try (exfalso; omega))) | (apply gd_bne_t <;> intro hq <;> (try (exfalso; omega))) | (apply gd_bne_f <;> intro hq <;> (try (exfalso; omega))) | (apply gd_not_t <;> intro hq) | (apply gd_not_f <;> intro hq) | (apply gd_raw_t <;> intro hq) | (apply gd_raw_f <;> intro hq)) | (apply at_thn) | (apply at_thn_ret) | (apply at_thn_exit) | (apply at_inb) | (apply at_inb_ret) | (apply at_inb_exit) | refine at_inb_pass rfl ?_ | refine c_drawn (by kernel_rfl) ?_)
  all_goals (refine e_sc _ (by first | exact .inl rfl | exact .inr rfl) rfl (List.Sublist.refl _) ?_)
  all_goals first
    | (have hw := wf_3 ha hb (by omega) hc (by omega); rw [g0, g1, g2] at hq; exact ⟨valU [a, b, c], [_], rfl, by rw [g0, g1, g2, strEq hq, hs, ok_yes hw hq]; rfl, fun _ => rfl⟩)
    | (have hw := wf_3 ha hb (by omega) hc (by omega); rw [g0, g1, g2] at hq; have hf := ok_no hw hq; rw [hf]; exact ⟨_, [_], rfl, rfl, fun h => nomatch h⟩)
    | (have hf : wfU [a, b, c] = false := (by cases hh : wfU [a, b, c]; rfl; exfalso; simp [wfU] at hh; omega); rw [hf]; exact ⟨_, [_], rfl, rfl, fun h => nomatch h⟩)
theorem runeValue_4 (G : Ctx) (H : List Ent) (s : ByteArray) (a b c d : Int) (hs : nums s = [a, b, c, d]) : SC Tryd.prog G 86 [.string s] H fun v H' => ∃ z E, H' = E ++ H ∧ v = .tuple #[.int .i64 z, .bool (wfU [a, b, c, d])] ∧ (wfU [a, b, c, d] = true → z = valU [a, b, c, d]) := by
  have hz : s.size = 4 := by rw [← nums_length, hs]; rfl
  have ha : 0 ≤ a ∧ a < 256 := by have := nums_bound s a (by rw [hs]; simp); omega
  have hb : 0 ≤ b ∧ b < 256 := by have := nums_bound s b (by rw [hs]; simp); omega
  have hc : 0 ≤ c ∧ c < 256 := by have := nums_bound s c (by rw [hs]; simp); omega
  have hd : 0 ≤ d ∧ d < 256 := by have := nums_bound s d (by rw [hs]; simp); omega
  have g0 : (nums s).getD (Int.toNat 0) 0 = a := by rw [hs]; rfl
  have g1 : (nums s).getD (Int.toNat 1) 0 = b := by rw [hs]; rfl
  have g2 : (nums s).getD (Int.toNat (1 + 1)) 0 = c := by rw [hs]; rfl
  have g3 : (nums s).getD (Int.toNat (1 + 1 + 1)) 0 = d := by rw [hs]; rfl
  have hcell : ([.int .i64 0, .int .i64 128, .int .i64 64, .int .i64 32, .int .i64 16] : List Value)[(s.size : Int).toNat * 1]? = some (.int .i64 16) := by rw [hz]; rfl
  have cR := fun H x => isRune_sv G H x
  have cB := fun H x (h : isR x) => runeBytes_sv G H x (by unfold isR at h; omega)
  refine sc_enter1 Tryd.func86 rfl rfl rfl rfl rfl ?_
  repeat' (first | (apply g_sl; first | (apply ks_nil; refine sl_nil ?_) | (apply ks_move; refine s_move rfl rfl ?_) | (apply ks_bin; refine s_bin rfl rfl rfl ?_; first | first | refine c_buildSlice rfl rfl rfl rfl rfl rfl rfl rfl rfl rfl (fun _ => ?_) | (refine s_index (c_indexNum rfl rfl rfl (by omega) (by omega)) rfl ?_) | (refine s_load rfl rfl ?_; refine ld_elem hcell ?_) | (first | (apply kb_add; first | refine bb_add ⟨by omega, by omega⟩ ?_ | refine bb_of rfl ?_) | (apply kb_mul; first | refine bb_mul ⟨by omega, by omega⟩ ?_ | refine bb_of rfl ?_) | (apply kb_quo; refine bb_quo ⟨by omega, by omega⟩ (by omega) (by omega) ?_) | (apply kb_rem; refine bb_rem (by omega) (by omega) ?_) | refine bb_of rfl ?_)) | (apply ks_load; first | (refine s_load rfl rfl ?_; first | refine ld_cell rfl ?_ | refine ld_whole rfl ?_ | refine ld_elem rfl ?_ | refine ld_part rfl rfl ?_) | first | refine c_buildSlice rfl rfl rfl rfl rfl rfl rfl rfl rfl rfl (fun _ => ?_) | (refine s_index (c_indexNum rfl rfl rfl (by omega) (by omega)) rfl ?_) | (refine s_load rfl rfl ?_; refine ld_elem hcell ?_)) | (apply ks_asgn; refine s_asgn rfl rfl ?_) | (apply ks_pick; refine s_pick rfl rfl ?_; first | (apply kp_t; refine pk_t rfl ?_) | (apply kp_f; refine pk_f rfl ?_) | refine pk_s rfl rfl ?_) | (apply ks_conv; first | first | refine c_buildSlice rfl rfl rfl rfl rfl rfl rfl rfl rfl rfl (fun _ => ?_) | (refine s_index (c_indexNum rfl rfl rfl (by omega) (by omega)) rfl ?_) | (refine s_load rfl rfl ?_; refine ld_elem hcell ?_) | refine s_conv (c_conv (k := .i64) rfl rfl ⟨by omega, by omega⟩) rfl ?_ | refine s_conv (c_conv (k := .u8) rfl rfl ⟨by omega, by omega⟩) rfl ?_ | refine s_conv (c_conv (k := .u64) rfl rfl ⟨by omega, by omega⟩) rfl ?_ | refine s_conv (c_convw rfl rfl) rfl ?_) | (apply ks_index; first | first | refine c_buildSlice rfl rfl rfl rfl rfl rfl rfl rfl rfl rfl (fun _ => ?_) | (refine s_index (c_indexNum rfl rfl rfl (by omega) (by omega)) rfl ?_) | (refine s_load rfl rfl ?_; refine ld_elem hcell ?_) | refine s_index (c_indexArr rfl rfl rfl (by omega) (by omega) rfl) rfl ?_ | refine s_index (c_indexArrA rfl rfl rfl (by omega) (by omega) rfl) rfl ?_ | refine s_index (c_indexStr rfl rfl rfl (by omega) rfl) rfl ?_) | (apply ks_indexA; first | refine s_indexA (c_indexAddr rfl rfl rfl rfl (by omega) (by omega)) rfl ?_ | first | refine c_buildSlice rfl rfl rfl rfl rfl rfl rfl rfl rfl rfl (fun _ => ?_) | (refine s_index (c_indexNum rfl rfl rfl (by omega) (by omega)) rfl ?_) | (refine s_load rfl rfl ?_; refine ld_elem hcell ?_)) | (apply ks_fn; first | fail) | (apply ks_bi; first | first | refine c_buildSlice rfl rfl rfl rfl rfl rfl rfl rfl rfl rfl (fun _ => ?_) | (refine s_index (c_indexNum rfl rfl rfl (by omega) (by omega)) rfl ?_) | (refine s_load rfl rfl ?_; refine ld_elem hcell ?_) | refine s_call (c_len rfl rfl) rfl ?_ | refine s_call (c_len_str rfl rfl) rfl ?_ | refine s_call (c_bi rfl rfl rfl rfl) rfl ?_ | refine c_append rfl rfl rfl rfl (by first | rfl | simp [ints]) (by first | rfl | exact ints_one _ | exact octs_one _ | exact strs_one _) (by omega) rfl rfl (fun _ _ => ?_) | refine c_append_nil rfl rfl rfl rfl (by first | rfl | simp [ints]) (by first | rfl | exact ints_one _ | exact octs_one _ | exact strs_one _) (by omega) rfl rfl (fun _ _ => ?_)) | (apply ks_bs; first | refine c_buildSlice rfl rfl rfl rfl rfl rfl rfl rfl rfl rfl (fun _ => ?_) | first | refine c_buildSlice rfl rfl rfl rfl rfl rfl rfl rfl rfl rfl (fun _ => ?_) | (refine s_index (c_indexNum rfl rfl rfl (by omega) (by omega)) rfl ?_) | (refine s_load rfl rfl ?_; refine ld_elem hcell ?_)) | (apply ks_guard; first | (refine sl_gd rfl rfl rfl rfl ?_; first | (apply gd_t) | (apply gd_ft) | (apply gd_tf) | (apply gd_dec_t <;> intro hq <;> (try (exfalso; omega))) | (apply gd_dec_f <;> intro hq <;> (try (exfalso; omega))) | (apply gd_beq_t <;> intro hq <;> (try (exfalso; omega))) | (apply gd_beq_f <;> intro hq <;> (try (exfalso; omega))) | (apply gd_bne_t <;> intro hq <;> (try (exfalso; omega))) | (apply gd_bne_f <;> intro hq <;> (try (exfalso; omega))) | (apply gd_not_t <;> intro hq) | (apply gd_not_f <;> intro hq) | (apply gd_raw_t <;> intro hq) | (apply gd_raw_f <;> intro hq)) | refine sl_skip_u rfl rfl rfl rfl rfl rfl ?_) | first | refine c_buildSlice rfl rfl rfl rfl rfl rfl rfl rfl rfl rfl (fun _ => ?_) | (refine s_index (c_indexNum rfl rfl rfl (by omega) (by omega)) rfl ?_) | (refine s_load rfl rfl ?_; refine ld_elem hcell ?_)) | (apply sw_seq) | (apply at_srd) | (apply sw_skip) | (apply sw_ret) | (apply sw_exit) | (apply sw_block) | (apply sw_region) | (refine sw_cd rfl ?_; first | (apply gd_t) | (apply gd_ft) | (apply gd_tf) | (apply gd_dec_t <;> intro hq <;> (try (exfalso; omega))) | (apply gd_dec_f <;> intro hq <;> (try (exfalso; omega))) | (apply gd_beq_t <;> intro hq <;> (try (exfalso; omega))) | (apply gd_beq_f <;> intro hq <;> (try (exfalso; omega))) | (apply gd_bne_t <;> intro hq <;> (try (exfalso; omega))) | (apply gd_bne_f <;> intro hq <;> (try (exfalso; omega))) | (apply gd_not_t <;> intro hq) | (apply gd_not_f <;> intro hq) | (apply gd_raw_t <;> intro hq) | (apply gd_raw_f <;> intro hq)) | (apply at_thn) | (apply at_thn_ret) | (apply at_thn_exit) | (apply at_inb) | (apply at_inb_ret) | (apply at_inb_exit) | refine at_inb_pass rfl ?_ | refine c_drawn (by kernel_rfl) ?_)
  refine sw_loopN 4 (srd_succ ?_)
  repeat' (first | (apply g_sl; first | (apply ks_nil; refine sl_nil ?_) | (apply ks_move; refine s_move rfl rfl ?_) | (apply ks_bin; refine s_bin rfl rfl rfl ?_; first | first | (refine s_index (c_indexNum rfl rfl rfl (by omega) (by omega)) rfl ?_) | refine bb_seq ?_ | (first | (apply kb_add; first | refine bb_add ⟨by omega, by omega⟩ ?_ | refine bb_of rfl ?_) | (apply kb_mul; first | refine bb_mul ⟨by omega, by omega⟩ ?_ | refine bb_of rfl ?_) | (apply kb_quo; refine bb_quo ⟨by omega, by omega⟩ (by omega) (by omega) ?_) | (apply kb_rem; refine bb_rem (by omega) (by omega) ?_) | refine bb_of rfl ?_)) | (apply ks_load; first | (refine s_load rfl rfl ?_; first | refine ld_cell rfl ?_ | refine ld_whole rfl ?_ | refine ld_elem rfl ?_ | refine ld_part rfl rfl ?_) | first | (refine s_index (c_indexNum rfl rfl rfl (by omega) (by omega)) rfl ?_) | refine bb_seq ?_) | (apply ks_asgn; refine s_asgn rfl rfl ?_) | (apply ks_pick; refine s_pick rfl rfl ?_; first | (apply kp_t; refine pk_t rfl ?_) | (apply kp_f; refine pk_f rfl ?_) | refine pk_s rfl rfl ?_) | (apply ks_conv; first | first | (refine s_index (c_indexNum rfl rfl rfl (by omega) (by omega)) rfl ?_) | refine bb_seq ?_ | refine s_conv (c_conv (k := .i64) rfl rfl ⟨by omega, by omega⟩) rfl ?_ | refine s_conv (c_conv (k := .u8) rfl rfl ⟨by omega, by omega⟩) rfl ?_ | refine s_conv (c_conv (k := .u64) rfl rfl ⟨by omega, by omega⟩) rfl ?_ | refine s_conv (c_convw rfl rfl) rfl ?_) | (apply ks_index; first | first | (refine s_index (c_indexNum rfl rfl rfl (by omega) (by omega)) rfl ?_) | refine bb_seq ?_ | refine s_index (c_indexArr rfl rfl rfl (by omega) (by omega) rfl) rfl ?_ | refine s_index (c_indexArrA rfl rfl rfl (by omega) (by omega) rfl) rfl ?_ | refine s_index (c_indexStr rfl rfl rfl (by omega) rfl) rfl ?_) | (apply ks_indexA; first | refine s_indexA (c_indexAddr rfl rfl rfl rfl (by omega) (by omega)) rfl ?_ | first | (refine s_index (c_indexNum rfl rfl rfl (by omega) (by omega)) rfl ?_) | refine bb_seq ?_) | (apply ks_fn; first | first | refine c_callv rfl rfl rfl (cR _ _) rfl rfl ?_ | refine c_callv rfl rfl rfl (cB _ _ (by assumption)) rfl rfl ?_) | (apply ks_bi; first | first | (refine s_index (c_indexNum rfl rfl rfl (by omega) (by omega)) rfl ?_) | refine bb_seq ?_ | refine s_call (c_len rfl rfl) rfl ?_ | refine s_call (c_len_str rfl rfl) rfl ?_ | refine s_call (c_bi rfl rfl rfl rfl) rfl ?_ | refine c_append rfl rfl rfl rfl (by first | rfl | simp [ints]) (by first | rfl | exact ints_one _ | exact octs_one _ | exact strs_one _) (by omega) rfl rfl (fun _ _ => ?_) | refine c_append_nil rfl rfl rfl rfl (by first | rfl | simp [ints]) (by first | rfl | exact ints_one _ | exact octs_one _ | exact strs_one _) (by omega) rfl rfl (fun _ _ => ?_)) | (apply ks_bs; first | refine c_buildSlice rfl rfl rfl rfl rfl rfl rfl rfl rfl rfl (fun _ => ?_) | first | (refine s_index (c_indexNum rfl rfl rfl (by omega) (by omega)) rfl ?_) | refine bb_seq ?_) | (apply ks_guard; first | (refine sl_gd rfl rfl rfl rfl ?_; first | (apply gd_t) | (apply gd_ft) | (apply gd_tf) | (apply gd_dec_t <;> intro hq <;> (try (exfalso; omega))) | (apply gd_dec_f <;> intro hq <;> (try (exfalso; omega))) | (apply gd_beq_t <;> intro hq <;> (try (exfalso; omega))) | (apply gd_beq_f <;> intro hq <;> (try (exfalso; omega))) | (apply gd_bne_t <;> intro hq <;> (try (exfalso; omega))) | (apply gd_bne_f <;> intro hq <;> (try (exfalso; omega))) | (apply gd_not_t <;> intro hq) | (apply gd_not_f <;> intro hq) | (apply gd_raw_t <;> intro hq) | (apply gd_raw_f <;> intro hq)) | refine sl_skip_u rfl rfl rfl rfl rfl rfl ?_) | first | (refine s_index (c_indexNum rfl rfl rfl (by omega) (by omega)) rfl ?_) | refine bb_seq ?_) | (apply sw_seq) | (apply at_srd) | (apply sw_skip) | (apply sw_ret) | (apply sw_exit) | (apply sw_block) | (apply sw_region) | (refine sw_cd rfl ?_; first | (apply gd_t) | (apply gd_ft) | (apply gd_tf) | (apply gd_dec_t <;> intro hq <;> (try (exfalso; omega))) | (apply gd_dec_f <;> intro hq <;> (try (exfalso; omega))) | (apply gd_beq_t <;> intro hq <;> (try (exfalso; omega))) | (apply gd_beq_f <;> intro hq <;> (try (exfalso; omega))) | (apply gd_bne_t <;> intro hq <;> (try (exfalso; omega))) | (apply gd_bne_f <;> intro hq <;> (try (exfalso; omega))) | (apply gd_not_t <;> intro hq) | (apply gd_not_f <;> intro hq) | (apply gd_raw_t <;> intro hq) | (apply gd_raw_f <;> intro hq)) | (apply at_thn) | (apply at_thn_ret) | (apply at_thn_exit) | (apply at_inb) | (apply at_inb_ret) | (apply at_inb_exit) | refine at_inb_pass rfl ?_ | refine c_drawn (by kernel_rfl) ?_)
  all_goals (refine e_sc _ (by first | exact .inl rfl | exact .inr rfl) rfl (List.Sublist.refl _) ?_)
  all_goals first
    | (have hw := wf_4 ha hb (by omega) hc (by omega) hd (by omega); rw [g0, g1, g2, g3] at hq; exact ⟨valU [a, b, c, d], [_], rfl, by rw [g0, g1, g2, g3, strEq hq, hs, ok_yes hw hq]; rfl, fun _ => rfl⟩)
    | (have hw := wf_4 ha hb (by omega) hc (by omega) hd (by omega); rw [g0, g1, g2, g3] at hq; have hf := ok_no hw hq; rw [hf]; exact ⟨_, [_], rfl, rfl, fun h => nomatch h⟩)
    | (have hf : wfU [a, b, c, d] = false := (by cases hh : wfU [a, b, c, d]; rfl; exfalso; simp [wfU] at hh; omega); rw [hf]; exact ⟨_, [_], rfl, rfl, fun h => nomatch h⟩)
theorem betwU_sv (G : Ctx) (H : List Ent) (x lo hi : Int) : SV Tryd.prog G 26 [.int .i64 x, .int .i64 lo, .int .i64 hi] H (.bool (decide (lo ≤ x ∧ x ≤ hi))) := by have h := between_sv G H x lo hi; unfold betB at h; exact h
theorem whole_sv (G : Ctx) (H : List Ent) (s : ByteArray) : SV Tryd.prog G 85 [.string s] H (.bool (wfU (nums s))) := by
  have cB := fun H => betwU_sv G H (s.size : Int) 1 4
  have hl := nums_length s
  by_cases h4 : 1 ≤ (s.size : Int) ∧ (s.size : Int) ≤ 4
  · rw [decide_eq_true h4] at cB
    have cR : ∀ H, ∃ L, nums s = L ∧ SC Tryd.prog G 86 [.string s] H fun v H' => ∃ z E, H' = E ++ H ∧ v = .tuple #[.int .i64 z, .bool (wfU L)] ∧ (wfU L = true → z = valU L) := fun H => by
      match hn : nums s with
      | [] => rw [hn] at hl; simp at hl; omega
      | [a] => exact ⟨_, rfl, runeValue_1 G H s a hn⟩
      | [a, b] => exact ⟨_, rfl, runeValue_2 G H s a b hn⟩
      | [a, b, c] => exact ⟨_, rfl, runeValue_3 G H s a b c hn⟩
      | [a, b, c, d] => exact ⟨_, rfl, runeValue_4 G H s a b c d hn⟩
      | a :: b :: c :: d :: e :: r => rw [hn] at hl; simp at hl; omega
    have cR2 : ∀ H, SC Tryd.prog G 86 [.string s] H fun v H' => ∃ z E, H' = E ++ H ∧ v = .tuple #[.int .i64 z, .bool (wfU (nums s))] ∧ (wfU (nums s) = true → z = valU (nums s)) := fun H => by
      obtain ⟨L, e, h⟩ := cR H
      rw [e]; exact h
    clear cR hl
    generalize wfU (nums s) = w at *
    refine sv_enter1 Tryd.func85 rfl rfl rfl rfl rfl ?_
    repeat' (first | (apply g_sl; first | (apply ks_nil; refine sl_nil ?_) | (apply ks_move; refine s_move rfl rfl ?_) | (apply ks_asgn; refine s_asgn rfl rfl ?_) | (apply ks_un; refine s_un (y_un rfl rfl rfl) rfl ?_) | (apply ks_extr; refine s_extr (y_extract rfl rfl rfl) rfl ?_) | (apply ks_fn; first | first | refine c_callv rfl rfl rfl (cB _) rfl rfl ?_ | (refine c_call rfl rfl rfl (cR2 _) rfl rfl ?_; rintro _ _ ⟨z, E, rfl, rfl, -⟩)) | (apply ks_bi; first | fail | refine s_call (c_len rfl rfl) rfl ?_ | refine s_call (c_len_str rfl rfl) rfl ?_ | refine s_call (c_bi rfl rfl rfl rfl) rfl ?_ | refine c_append rfl rfl rfl rfl (by first | rfl | simp [ints]) (by first | rfl | exact ints_one _ | exact octs_one _ | exact strs_one _) (by omega) rfl rfl (fun _ _ => ?_) | refine c_append_nil rfl rfl rfl rfl (by first | rfl | simp [ints]) (by first | rfl | exact ints_one _ | exact octs_one _ | exact strs_one _) (by omega) rfl rfl (fun _ _ => ?_)) | fail) | (apply sw_seq) | (apply at_srd) | (apply sw_skip) | (apply sw_ret) | (apply sw_exit) | (apply sw_block) | (apply sw_region) | (refine sw_cd rfl ?_; first | (apply gd_t) | (apply gd_ft) | (apply gd_tf) | (apply gd_dec_t <;> intro hq <;> (try (exfalso; omega))) | (apply gd_dec_f <;> intro hq <;> (try (exfalso; omega))) | (apply gd_beq_t <;> intro hq <;> (try (exfalso; omega))) | (apply gd_beq_f <;> intro hq <;> (try (exfalso; omega))) | (apply gd_bne_t <;> intro hq <;> (try (exfalso; omega))) | (apply gd_bne_f <;> intro hq <;> (try (exfalso; omega))) | (apply gd_not_t <;> intro hq) | (apply gd_not_f <;> intro hq) | (apply gd_raw_t <;> intro hq) | (apply gd_raw_f <;> intro hq)) | (apply at_thn) | (apply at_thn_ret) | (apply at_thn_exit) | (apply at_inb) | (apply at_inb_ret) | (apply at_inb_exit) | refine at_inb_pass rfl ?_ | refine c_drawn (by kernel_rfl) ?_)
    refine e_sv (by first | exact .inl rfl | exact .inr rfl) rfl (List.sublist_append_right _ _) ?_
    rfl
  · rw [decide_eq_false h4] at cB
    have hw : wfU (nums s) = false := by
      match hn : nums s with
      | [] => rfl
      | [a] => rw [hn] at hl; simp at hl; omega
      | [a, b] => rw [hn] at hl; simp at hl; omega
      | [a, b, c] => rw [hn] at hl; simp at hl; omega
      | [a, b, c, d] => rw [hn] at hl; simp at hl; omega
      | a :: b :: c :: d :: e :: r => rfl
    rw [hw]
    clear hw hl
    refine sv_enter1 Tryd.func85 rfl rfl rfl rfl rfl ?_
    repeat' (first | (apply g_sl; first | (apply ks_nil; refine sl_nil ?_) | (apply ks_move; refine s_move rfl rfl ?_) | (apply ks_asgn; refine s_asgn rfl rfl ?_) | (apply ks_un; refine s_un (y_un rfl rfl rfl) rfl ?_) | (apply ks_extr; refine s_extr (y_extract rfl rfl rfl) rfl ?_) | (apply ks_fn; first | refine c_callv rfl rfl rfl (cB _) rfl rfl ?_) | (apply ks_bi; first | fail | refine s_call (c_len rfl rfl) rfl ?_ | refine s_call (c_len_str rfl rfl) rfl ?_ | refine s_call (c_bi rfl rfl rfl rfl) rfl ?_ | refine c_append rfl rfl rfl rfl (by first | rfl | simp [ints]) (by first | rfl | exact ints_one _ | exact octs_one _ | exact strs_one _) (by omega) rfl rfl (fun _ _ => ?_) | refine c_append_nil rfl rfl rfl rfl (by first | rfl | simp [ints]) (by first | rfl | exact ints_one _ | exact octs_one _ | exact strs_one _) (by omega) rfl rfl (fun _ _ => ?_)) | fail) | (apply sw_seq) | (apply at_srd) | (apply sw_skip) | (apply sw_ret) | (apply sw_exit) | (apply sw_block) | (apply sw_region) | (refine sw_cd rfl ?_; first | (apply gd_t) | (apply gd_ft) | (apply gd_tf) | (apply gd_dec_t <;> intro hq <;> (try (exfalso; omega))) | (apply gd_dec_f <;> intro hq <;> (try (exfalso; omega))) | (apply gd_beq_t <;> intro hq <;> (try (exfalso; omega))) | (apply gd_beq_f <;> intro hq <;> (try (exfalso; omega))) | (apply gd_bne_t <;> intro hq <;> (try (exfalso; omega))) | (apply gd_bne_f <;> intro hq <;> (try (exfalso; omega))) | (apply gd_not_t <;> intro hq) | (apply gd_not_f <;> intro hq) | (apply gd_raw_t <;> intro hq) | (apply gd_raw_f <;> intro hq)) | (apply at_thn) | (apply at_thn_ret) | (apply at_thn_exit) | (apply at_inb) | (apply at_inb_ret) | (apply at_inb_exit) | refine at_inb_pass rfl ?_ | refine c_drawn (by kernel_rfl) ?_)
    refine e_sv (by first | exact .inl rfl | exact .inr rfl) rfl (by repeat (first | exact List.Sublist.refl _ | exact List.nil_sublist _ | refine List.Sublist.cons _ ?_)) ?_
    rfl
end Go.Proofs.YtflmckoolagikaaDoor
end
section
namespace Go.Proofs.YtflmckoolagikaaDoor
open Go Go.RowKit Go.Fw Go.Sx
set_option maxRecDepth 100000
set_option maxHeartbeats 1000000
attribute [local irreducible] SW SL SQ AtQ SV SC BB LD PK Yields SO SOT SOA SY
theorem fixR_eq (c : Int) : fixR c = if isR c then c else 65533 := by
  by_cases h : isR c
  · rw [if_pos h]
    unfold isR at h
    unfold fixR
    rw [if_neg (by omega)]
  · rw [if_neg h]
    unfold isR at h
    unfold fixR
    rw [if_pos (by omega)]
theorem encL_cons (x : Int) (R : List Int) : encL (x :: R) = runeL (fixR x) ++ encL R := by unfold encL; rw [List.flatMap_cons]
end Go.Proofs.YtflmckoolagikaaDoor
end
section
namespace Go.Proofs.YtflmckoolagikaaDoor
open Go Go.RowKit Go.Fw Go.Sx
set_option maxRecDepth 100000
set_option maxHeartbeats 4000000
/-- A number that a text may have. -/
def cpR (x : Int) : Prop := isR x ∧ ((32 ≤ x ∧ x ≤ 126) ∨ 160 ≤ x)
/-- A text that an AOsc may have. -/
def okT (t : ByteArray) : Prop := t.size ≤ 256 ∧ ∃ R : List Int, (∀ x ∈ R, cpR x) ∧ t = strOfNums (encL R)
def inOk (i : ByteArray) : Prop := (∀ x ∈ nums i, inB x = true) ∧ i.size ≤ 2
def goodE (y : Pa) : Prop :=
  (∃ c, y = (1, c, 0, e0, [], e0) ∧ ((32 ≤ c ∧ c ≤ 126) ∨ (160 ≤ c ∧ c ≤ 1114111))) ∨
  (∃ c, y = (2, c, 0, e0, [], e0) ∧ 0 ≤ c ∧ c ≤ 31 ∧ c ≠ 24 ∧ c ≠ 26 ∧ c ≠ 27) ∨
  (∃ c i, y = (3, c, 0, i, [], e0) ∧ 48 ≤ c ∧ c ≤ 126 ∧ (0 < i.size ∨ ¬ (c = 91 ∨ c = 93 ∨ c = 80 ∨ c = 88 ∨ c = 94 ∨ c = 95)) ∧ inOk i) ∨
  (∃ c m i L, y = (4, c, m, i, L, e0) ∧ 64 ≤ c ∧ c ≤ 126 ∧ (m = 0 ∨ (60 ≤ m ∧ m ≤ 63)) ∧ inOk i) ∨
  (∃ t, y = (5, 0, 0, e0, [], t) ∧ okT t) ∨ y = dP
theorem okT_e0 : okT e0 := ⟨Nat.zero_le _, [], fun _ h => (nomatch h), rfl⟩
theorem encL_snoc (R : List Int) (x : Int) : encL (R ++ [x]) = encL R ++ runeL (fixR x) := by unfold encL; rw [List.flatMap_append]; simp
theorem fixR_cp {x : Int} (h : (32 ≤ x ∧ x ≤ 126) ∨ (160 ≤ x ∧ x ≤ 1114111)) : cpR (fixR x) ∧ fixR (fixR x) = fixR x := by
  unfold cpR isR fixR
  split
  · exact ⟨by omega, by rw [if_neg (by omega)]⟩
  · rename_i hn
    exact ⟨by omega, rfl⟩
theorem okT_snoc {t : ByteArray} {x : Int} (h : okT t) (hx : (32 ≤ x ∧ x ≤ 126) ∨ (160 ≤ x ∧ x ≤ 1114111)) (hz : t.size + (rtB x).size ≤ 256) : okT (t ++ rtB x) := by
  obtain ⟨h1, R, hR, rfl⟩ := h
  obtain ⟨hc, hf⟩ := fixR_cp hx
  refine ⟨by rw [size_cat]; exact hz, R ++ [fixR x], fun y hy => ?_, ?_⟩
  · rcases List.mem_append.1 hy with hy | hy
    · exact hR y hy
    · rw [List.mem_singleton] at hy; rw [hy]; exact hc
  · rw [encL_snoc, hf]
    unfold rtB
    rw [strOfNums_append]
theorem goodE_fin {p : Ps} {x : Int} (hp : okP p) (hx : 48 ≤ x ∧ x ≤ 126) (hs : p.1 = 1 ∧ ¬ (x = 91 ∨ x = 93 ∨ x = 80 ∨ x = 88 ∨ x = 94 ∨ x = 95) ∨ p.1 = 2 ∨ (3 ≤ p.1 ∧ 64 ≤ x)) : goodE (finP p x) := by
  obtain ⟨s, m, i, g, t⟩ := p
  obtain ⟨h1, h2, h3, h4, h5, h6, h7, h8, h9⟩ := (ok_mk s m i g t).1 hp
  dsimp only at hs
  unfold finP
  dsimp only
  by_cases hi : i.size = 3
  · rw [if_pos hi]; exact .inr (.inr (.inr (.inr (.inr rfl))))
  rw [if_neg hi]
  by_cases h : s < 3
  · rw [if_pos h]
    refine .inr (.inr (.inl ⟨x, i, rfl, hx.1, hx.2, ?_, h3.1, by omega⟩))
    rcases hs with hs | hs | hs
    · exact .inr hs.2
    · exact .inl (h4.2 (.inl hs))
    · omega
  · rw [if_neg h]
    exact .inr (.inr (.inr (.inl ⟨x, m, i, _, rfl, by omega, hx.2, h2.imp id (·.1), h3.1, by omega⟩)))
/-- What a step tells, and the text that it leaves. -/
def GS (Z : Ps × List Pa) : Prop := (∀ y ∈ Z.2, goodE y) ∧ okT Z.1.2.2.2.2
theorem gs_none {p : Ps} (h : okT p.2.2.2.2) : GS (p, []) := ⟨fun _ h => (nomatch h), h⟩
theorem gs_one {p : Ps} {y : Pa} (h : okT p.2.2.2.2) (hy : goodE y) : GS (p, [y]) := ⟨fun z hz => by rw [List.mem_singleton] at hz; rw [hz]; exact hy, h⟩
theorem goodE_dP : goodE dP := .inr (.inr (.inr (.inr (.inr rfl))))
theorem gs_0 (m : Int) (i g t : ByteArray) (x : Int) (R : Ps × List Pa) (hx : 0 ≤ x ∧ x ≤ 1114111) (hp : okP (0, m, i, g, t)) (hT : okT t) (hR : GS R) : GS (stepW (0, m, i, g, t) x (whatQ 0 x) R) := by
  have hc := cls_cases x hx
  rcases hc with h | h | h | h | h | h | h | h | h | h | h | h | h | h | h
  all_goals
    obtain ⟨h, hN⟩ := h
    rw [show whatQ 0 x = _ from by unfold whatQ whatP; rw [hN]]
    unfold stepW
    dsimp only
    (repeat (first | rw [if_pos (by first | assumption | omega)] | rw [if_neg (by first | assumption | omega)]))
    first
      | exact gs_none okT_e0
      | exact gs_none hT
      | exact gs_one okT_e0 goodE_dP
      | exact gs_one hT (.inr (.inl ⟨x, rfl, by omega, by omega, by omega, by omega, by omega⟩))
      | exact gs_one hT (.inl ⟨x, rfl, by omega⟩)
      | exact gs_one okT_e0 (goodE_fin hp (by omega) (by dsimp only; omega))
      | exact gs_one okT_e0 (.inr (.inr (.inr (.inr (.inl ⟨t, rfl, hT⟩)))))
      | exact ⟨fun y hy => by rcases List.mem_cons.1 hy with hy | hy; (rw [hy]; exact goodE_dP); exact hR.1 y hy, hR.2⟩
      | (show GS ((7, m, i, g, if t.size + (rtB x).size ≤ 256 then t ++ rtB x else t), ([] : List Pa)); refine ⟨fun _ h => (nomatch h), ?_⟩; dsimp only; split; (refine okT_snoc hT ?_ ?_; omega; assumption); exact hT)
      | (split; (exact gs_none okT_e0); exact gs_one okT_e0 goodE_dP)
theorem gs_1 (m : Int) (i g t : ByteArray) (x : Int) (R : Ps × List Pa) (hx : 0 ≤ x ∧ x ≤ 1114111) (hp : okP (1, m, i, g, t)) (hT : okT t) (hR : GS R) : GS (stepW (1, m, i, g, t) x (whatQ 1 x) R) := by
  have hc := cls_cases x hx
  rcases hc with h | h | h | h | h | h | h | h | h | h | h | h | h | h | h
  all_goals
    obtain ⟨h, hN⟩ := h
    rw [show whatQ 1 x = _ from by unfold whatQ whatP; rw [hN]]
    unfold stepW
    dsimp only
    (repeat (first | rw [if_pos (by first | assumption | omega)] | rw [if_neg (by first | assumption | omega)]))
    first
      | exact gs_none okT_e0
      | exact gs_none hT
      | exact gs_one okT_e0 goodE_dP
      | exact gs_one hT (.inr (.inl ⟨x, rfl, by omega, by omega, by omega, by omega, by omega⟩))
      | exact gs_one hT (.inl ⟨x, rfl, by omega⟩)
      | exact gs_one okT_e0 (goodE_fin hp (by omega) (by dsimp only; omega))
      | exact gs_one okT_e0 (.inr (.inr (.inr (.inr (.inl ⟨t, rfl, hT⟩)))))
      | exact ⟨fun y hy => by rcases List.mem_cons.1 hy with hy | hy; (rw [hy]; exact goodE_dP); exact hR.1 y hy, hR.2⟩
      | (show GS ((7, m, i, g, if t.size + (rtB x).size ≤ 256 then t ++ rtB x else t), ([] : List Pa)); refine ⟨fun _ h => (nomatch h), ?_⟩; dsimp only; split; (refine okT_snoc hT ?_ ?_; omega; assumption); exact hT)
      | (split; (exact gs_none okT_e0); exact gs_one okT_e0 goodE_dP)
theorem gs_2 (m : Int) (i g t : ByteArray) (x : Int) (R : Ps × List Pa) (hx : 0 ≤ x ∧ x ≤ 1114111) (hp : okP (2, m, i, g, t)) (hT : okT t) (hR : GS R) : GS (stepW (2, m, i, g, t) x (whatQ 2 x) R) := by
  have hc := cls_cases x hx
  rcases hc with h | h | h | h | h | h | h | h | h | h | h | h | h | h | h
  all_goals
    obtain ⟨h, hN⟩ := h
    rw [show whatQ 2 x = _ from by unfold whatQ whatP; rw [hN]]
    unfold stepW
    dsimp only
    (repeat (first | rw [if_pos (by first | assumption | omega)] | rw [if_neg (by first | assumption | omega)]))
    first
      | exact gs_none okT_e0
      | exact gs_none hT
      | exact gs_one okT_e0 goodE_dP
      | exact gs_one hT (.inr (.inl ⟨x, rfl, by omega, by omega, by omega, by omega, by omega⟩))
      | exact gs_one hT (.inl ⟨x, rfl, by omega⟩)
      | exact gs_one okT_e0 (goodE_fin hp (by omega) (by dsimp only; omega))
      | exact gs_one okT_e0 (.inr (.inr (.inr (.inr (.inl ⟨t, rfl, hT⟩)))))
      | exact ⟨fun y hy => by rcases List.mem_cons.1 hy with hy | hy; (rw [hy]; exact goodE_dP); exact hR.1 y hy, hR.2⟩
      | (show GS ((7, m, i, g, if t.size + (rtB x).size ≤ 256 then t ++ rtB x else t), ([] : List Pa)); refine ⟨fun _ h => (nomatch h), ?_⟩; dsimp only; split; (refine okT_snoc hT ?_ ?_; omega; assumption); exact hT)
      | (split; (exact gs_none okT_e0); exact gs_one okT_e0 goodE_dP)
theorem gs_3 (m : Int) (i g t : ByteArray) (x : Int) (R : Ps × List Pa) (hx : 0 ≤ x ∧ x ≤ 1114111) (hp : okP (3, m, i, g, t)) (hT : okT t) (hR : GS R) : GS (stepW (3, m, i, g, t) x (whatQ 3 x) R) := by
  have hc := cls_cases x hx
  rcases hc with h | h | h | h | h | h | h | h | h | h | h | h | h | h | h
  all_goals
    obtain ⟨h, hN⟩ := h
    rw [show whatQ 3 x = _ from by unfold whatQ whatP; rw [hN]]
    unfold stepW
    dsimp only
    (repeat (first | rw [if_pos (by first | assumption | omega)] | rw [if_neg (by first | assumption | omega)]))
    first
      | exact gs_none okT_e0
      | exact gs_none hT
      | exact gs_one okT_e0 goodE_dP
      | exact gs_one hT (.inr (.inl ⟨x, rfl, by omega, by omega, by omega, by omega, by omega⟩))
      | exact gs_one hT (.inl ⟨x, rfl, by omega⟩)
      | exact gs_one okT_e0 (goodE_fin hp (by omega) (by dsimp only; omega))
      | exact gs_one okT_e0 (.inr (.inr (.inr (.inr (.inl ⟨t, rfl, hT⟩)))))
      | exact ⟨fun y hy => by rcases List.mem_cons.1 hy with hy | hy; (rw [hy]; exact goodE_dP); exact hR.1 y hy, hR.2⟩
      | (show GS ((7, m, i, g, if t.size + (rtB x).size ≤ 256 then t ++ rtB x else t), ([] : List Pa)); refine ⟨fun _ h => (nomatch h), ?_⟩; dsimp only; split; (refine okT_snoc hT ?_ ?_; omega; assumption); exact hT)
      | (split; (exact gs_none okT_e0); exact gs_one okT_e0 goodE_dP)
theorem gs_4 (m : Int) (i g t : ByteArray) (x : Int) (R : Ps × List Pa) (hx : 0 ≤ x ∧ x ≤ 1114111) (hp : okP (4, m, i, g, t)) (hT : okT t) (hR : GS R) : GS (stepW (4, m, i, g, t) x (whatQ 4 x) R) := by
  have hc := cls_cases x hx
  rcases hc with h | h | h | h | h | h | h | h | h | h | h | h | h | h | h
  all_goals
    obtain ⟨h, hN⟩ := h
    rw [show whatQ 4 x = _ from by unfold whatQ whatP; rw [hN]]
    unfold stepW
    dsimp only
    (repeat (first | rw [if_pos (by first | assumption | omega)] | rw [if_neg (by first | assumption | omega)]))
    first
      | exact gs_none okT_e0
      | exact gs_none hT
      | exact gs_one okT_e0 goodE_dP
      | exact gs_one hT (.inr (.inl ⟨x, rfl, by omega, by omega, by omega, by omega, by omega⟩))
      | exact gs_one hT (.inl ⟨x, rfl, by omega⟩)
      | exact gs_one okT_e0 (goodE_fin hp (by omega) (by dsimp only; omega))
      | exact gs_one okT_e0 (.inr (.inr (.inr (.inr (.inl ⟨t, rfl, hT⟩)))))
      | exact ⟨fun y hy => by rcases List.mem_cons.1 hy with hy | hy; (rw [hy]; exact goodE_dP); exact hR.1 y hy, hR.2⟩
      | (show GS ((7, m, i, g, if t.size + (rtB x).size ≤ 256 then t ++ rtB x else t), ([] : List Pa)); refine ⟨fun _ h => (nomatch h), ?_⟩; dsimp only; split; (refine okT_snoc hT ?_ ?_; omega; assumption); exact hT)
      | (split; (exact gs_none okT_e0); exact gs_one okT_e0 goodE_dP)
theorem gs_5 (m : Int) (i g t : ByteArray) (x : Int) (R : Ps × List Pa) (hx : 0 ≤ x ∧ x ≤ 1114111) (hp : okP (5, m, i, g, t)) (hT : okT t) (hR : GS R) : GS (stepW (5, m, i, g, t) x (whatQ 5 x) R) := by
  have hc := cls_cases x hx
  rcases hc with h | h | h | h | h | h | h | h | h | h | h | h | h | h | h
  all_goals
    obtain ⟨h, hN⟩ := h
    rw [show whatQ 5 x = _ from by unfold whatQ whatP; rw [hN]]
    unfold stepW
    dsimp only
    (repeat (first | rw [if_pos (by first | assumption | omega)] | rw [if_neg (by first | assumption | omega)]))
    first
      | exact gs_none okT_e0
      | exact gs_none hT
      | exact gs_one okT_e0 goodE_dP
      | exact gs_one hT (.inr (.inl ⟨x, rfl, by omega, by omega, by omega, by omega, by omega⟩))
      | exact gs_one hT (.inl ⟨x, rfl, by omega⟩)
      | exact gs_one okT_e0 (goodE_fin hp (by omega) (by dsimp only; omega))
      | exact gs_one okT_e0 (.inr (.inr (.inr (.inr (.inl ⟨t, rfl, hT⟩)))))
      | exact ⟨fun y hy => by rcases List.mem_cons.1 hy with hy | hy; (rw [hy]; exact goodE_dP); exact hR.1 y hy, hR.2⟩
      | (show GS ((7, m, i, g, if t.size + (rtB x).size ≤ 256 then t ++ rtB x else t), ([] : List Pa)); refine ⟨fun _ h => (nomatch h), ?_⟩; dsimp only; split; (refine okT_snoc hT ?_ ?_; omega; assumption); exact hT)
      | (split; (exact gs_none okT_e0); exact gs_one okT_e0 goodE_dP)
theorem gs_6 (m : Int) (i g t : ByteArray) (x : Int) (R : Ps × List Pa) (hx : 0 ≤ x ∧ x ≤ 1114111) (hp : okP (6, m, i, g, t)) (hT : okT t) (hR : GS R) : GS (stepW (6, m, i, g, t) x (whatQ 6 x) R) := by
  have hc := cls_cases x hx
  rcases hc with h | h | h | h | h | h | h | h | h | h | h | h | h | h | h
  all_goals
    obtain ⟨h, hN⟩ := h
    rw [show whatQ 6 x = _ from by unfold whatQ whatP; rw [hN]]
    unfold stepW
    dsimp only
    (repeat (first | rw [if_pos (by first | assumption | omega)] | rw [if_neg (by first | assumption | omega)]))
    first
      | exact gs_none okT_e0
      | exact gs_none hT
      | exact gs_one okT_e0 goodE_dP
      | exact gs_one hT (.inr (.inl ⟨x, rfl, by omega, by omega, by omega, by omega, by omega⟩))
      | exact gs_one hT (.inl ⟨x, rfl, by omega⟩)
      | exact gs_one okT_e0 (goodE_fin hp (by omega) (by dsimp only; omega))
      | exact gs_one okT_e0 (.inr (.inr (.inr (.inr (.inl ⟨t, rfl, hT⟩)))))
      | exact ⟨fun y hy => by rcases List.mem_cons.1 hy with hy | hy; (rw [hy]; exact goodE_dP); exact hR.1 y hy, hR.2⟩
      | (show GS ((7, m, i, g, if t.size + (rtB x).size ≤ 256 then t ++ rtB x else t), ([] : List Pa)); refine ⟨fun _ h => (nomatch h), ?_⟩; dsimp only; split; (refine okT_snoc hT ?_ ?_; omega; assumption); exact hT)
      | (split; (exact gs_none okT_e0); exact gs_one okT_e0 goodE_dP)
theorem gs_7 (m : Int) (i g t : ByteArray) (x : Int) (R : Ps × List Pa) (hx : 0 ≤ x ∧ x ≤ 1114111) (hp : okP (7, m, i, g, t)) (hT : okT t) (hR : GS R) : GS (stepW (7, m, i, g, t) x (whatQ 7 x) R) := by
  have hc := cls_cases x hx
  rcases hc with h | h | h | h | h | h | h | h | h | h | h | h | h | h | h
  all_goals
    obtain ⟨h, hN⟩ := h
    rw [show whatQ 7 x = _ from by unfold whatQ whatP; rw [hN]]
    unfold stepW
    dsimp only
    (repeat (first | rw [if_pos (by first | assumption | omega)] | rw [if_neg (by first | assumption | omega)]))
    first
      | exact gs_none okT_e0
      | exact gs_none hT
      | exact gs_one okT_e0 goodE_dP
      | exact gs_one hT (.inr (.inl ⟨x, rfl, by omega, by omega, by omega, by omega, by omega⟩))
      | exact gs_one hT (.inl ⟨x, rfl, by omega⟩)
      | exact gs_one okT_e0 (goodE_fin hp (by omega) (by dsimp only; omega))
      | exact gs_one okT_e0 (.inr (.inr (.inr (.inr (.inl ⟨t, rfl, hT⟩)))))
      | exact ⟨fun y hy => by rcases List.mem_cons.1 hy with hy | hy; (rw [hy]; exact goodE_dP); exact hR.1 y hy, hR.2⟩
      | (show GS ((7, m, i, g, if t.size + (rtB x).size ≤ 256 then t ++ rtB x else t), ([] : List Pa)); refine ⟨fun _ h => (nomatch h), ?_⟩; dsimp only; split; (refine okT_snoc hT ?_ ?_; omega; assumption); exact hT)
      | (split; (exact gs_none okT_e0); exact gs_one okT_e0 goodE_dP)
theorem gs_8 (m : Int) (i g t : ByteArray) (x : Int) (R : Ps × List Pa) (hx : 0 ≤ x ∧ x ≤ 1114111) (hp : okP (8, m, i, g, t)) (hT : okT t) (hR : GS R) : GS (stepW (8, m, i, g, t) x (whatQ 8 x) R) := by
  have hc := cls_cases x hx
  rcases hc with h | h | h | h | h | h | h | h | h | h | h | h | h | h | h
  all_goals
    obtain ⟨h, hN⟩ := h
    rw [show whatQ 8 x = _ from by unfold whatQ whatP; rw [hN]]
    unfold stepW
    dsimp only
    (repeat (first | rw [if_pos (by first | assumption | omega)] | rw [if_neg (by first | assumption | omega)]))
    first
      | exact gs_none okT_e0
      | exact gs_none hT
      | exact gs_one okT_e0 goodE_dP
      | exact gs_one hT (.inr (.inl ⟨x, rfl, by omega, by omega, by omega, by omega, by omega⟩))
      | exact gs_one hT (.inl ⟨x, rfl, by omega⟩)
      | exact gs_one okT_e0 (goodE_fin hp (by omega) (by dsimp only; omega))
      | exact gs_one okT_e0 (.inr (.inr (.inr (.inr (.inl ⟨t, rfl, hT⟩)))))
      | exact ⟨fun y hy => by rcases List.mem_cons.1 hy with hy | hy; (rw [hy]; exact goodE_dP); exact hR.1 y hy, hR.2⟩
      | (show GS ((7, m, i, g, if t.size + (rtB x).size ≤ 256 then t ++ rtB x else t), ([] : List Pa)); refine ⟨fun _ h => (nomatch h), ?_⟩; dsimp only; split; (refine okT_snoc hT ?_ ?_; omega; assumption); exact hT)
      | (split; (exact gs_none okT_e0); exact gs_one okT_e0 goodE_dP)
theorem gs_9 (m : Int) (i g t : ByteArray) (x : Int) (R : Ps × List Pa) (hx : 0 ≤ x ∧ x ≤ 1114111) (hp : okP (9, m, i, g, t)) (hT : okT t) (hR : GS R) : GS (stepW (9, m, i, g, t) x (whatQ 9 x) R) := by
  have hc := cls_cases x hx
  rcases hc with h | h | h | h | h | h | h | h | h | h | h | h | h | h | h
  all_goals
    obtain ⟨h, hN⟩ := h
    rw [show whatQ 9 x = _ from by unfold whatQ whatP; rw [hN]]
    unfold stepW
    dsimp only
    (repeat (first | rw [if_pos (by first | assumption | omega)] | rw [if_neg (by first | assumption | omega)]))
    first
      | exact gs_none okT_e0
      | exact gs_none hT
      | exact gs_one okT_e0 goodE_dP
      | exact gs_one hT (.inr (.inl ⟨x, rfl, by omega, by omega, by omega, by omega, by omega⟩))
      | exact gs_one hT (.inl ⟨x, rfl, by omega⟩)
      | exact gs_one okT_e0 (goodE_fin hp (by omega) (by dsimp only; omega))
      | exact gs_one okT_e0 (.inr (.inr (.inr (.inr (.inl ⟨t, rfl, hT⟩)))))
      | exact ⟨fun y hy => by rcases List.mem_cons.1 hy with hy | hy; (rw [hy]; exact goodE_dP); exact hR.1 y hy, hR.2⟩
      | (show GS ((7, m, i, g, if t.size + (rtB x).size ≤ 256 then t ++ rtB x else t), ([] : List Pa)); refine ⟨fun _ h => (nomatch h), ?_⟩; dsimp only; split; (refine okT_snoc hT ?_ ?_; omega; assumption); exact hT)
      | (split; (exact gs_none okT_e0); exact gs_one okT_e0 goodE_dP)
theorem gs_10 (m : Int) (i g t : ByteArray) (x : Int) (R : Ps × List Pa) (hx : 0 ≤ x ∧ x ≤ 1114111) (hp : okP (10, m, i, g, t)) (hT : okT t) (hR : GS R) : GS (stepW (10, m, i, g, t) x (whatQ 10 x) R) := by
  have hc := cls_cases x hx
  rcases hc with h | h | h | h | h | h | h | h | h | h | h | h | h | h | h
  all_goals
    obtain ⟨h, hN⟩ := h
    rw [show whatQ 10 x = _ from by unfold whatQ whatP; rw [hN]]
    unfold stepW
    dsimp only
    (repeat (first | rw [if_pos (by first | assumption | omega)] | rw [if_neg (by first | assumption | omega)]))
    first
      | exact gs_none okT_e0
      | exact gs_none hT
      | exact gs_one okT_e0 goodE_dP
      | exact gs_one hT (.inr (.inl ⟨x, rfl, by omega, by omega, by omega, by omega, by omega⟩))
      | exact gs_one hT (.inl ⟨x, rfl, by omega⟩)
      | exact gs_one okT_e0 (goodE_fin hp (by omega) (by dsimp only; omega))
      | exact gs_one okT_e0 (.inr (.inr (.inr (.inr (.inl ⟨t, rfl, hT⟩)))))
      | exact ⟨fun y hy => by rcases List.mem_cons.1 hy with hy | hy; (rw [hy]; exact goodE_dP); exact hR.1 y hy, hR.2⟩
      | (show GS ((7, m, i, g, if t.size + (rtB x).size ≤ 256 then t ++ rtB x else t), ([] : List Pa)); refine ⟨fun _ h => (nomatch h), ?_⟩; dsimp only; split; (refine okT_snoc hT ?_ ?_; omega; assumption); exact hT)
      | (split; (exact gs_none okT_e0); exact gs_one okT_e0 goodE_dP)
theorem cell_gs (s m : Int) (i g t : ByteArray) (x : Int) (R : Ps × List Pa) (hx : 0 ≤ x ∧ x ≤ 1114111) (hp : okP (s, m, i, g, t)) (hT : okT t) (hR : GS R) : GS (stepW (s, m, i, g, t) x (whatQ s x) R) := by
  have hs := ((ok_mk s m i g t).1 hp).1
  obtain ⟨k, rfl⟩ : ∃ k : Nat, s = k := ⟨s.toNat, by omega⟩
  match k, (show k ≤ 10 by omega) with
  | 0, _ => exact gs_0 m i g t x R hx hp hT hR
  | 1, _ => exact gs_1 m i g t x R hx hp hT hR
  | 2, _ => exact gs_2 m i g t x R hx hp hT hR
  | 3, _ => exact gs_3 m i g t x R hx hp hT hR
  | 4, _ => exact gs_4 m i g t x R hx hp hT hR
  | 5, _ => exact gs_5 m i g t x R hx hp hT hR
  | 6, _ => exact gs_6 m i g t x R hx hp hT hR
  | 7, _ => exact gs_7 m i g t x R hx hp hT hR
  | 8, _ => exact gs_8 m i g t x R hx hp hT hR
  | 9, _ => exact gs_9 m i g t x R hx hp hT hR
  | 10, _ => exact gs_10 m i g t x R hx hp hT hR
theorem okP_1 : okP (sP 1) := ok_sP 1 (by omega) (by omega) (by omega)
theorem step1_gs (x : Int) (hx : 0 ≤ x ∧ x ≤ 1114111) : GS (step1 x) := cell_gs 1 0 e0 e0 e0 x _ hx okP_1 okT_e0 (gs_none okT_e0)
theorem stepP_gs (p : Ps) (x : Int) (hp : okP p) (hT : okT p.2.2.2.2) : GS (stepP p x) := by
  unfold stepP
  split
  · exact gs_none hT
  · obtain ⟨s, m, i, g, t⟩ := p
    exact cell_gs s m i g t x _ (by omega) hp hT (step1_gs x (by omega))
theorem runP_gs (p : Ps) (L : List Int) (hp : okP p) (hT : okT p.2.2.2.2) : okP (runP p L).1 ∧ GS (runP p L) := by
  unfold runP
  have key : ∀ (L : List Int) (Z : Ps × List Pa), okP Z.1 → GS Z → okP (L.foldl (fun z x => ((stepP z.1 x).1, z.2 ++ (stepP z.1 x).2)) Z).1 ∧ GS (L.foldl (fun z x => ((stepP z.1 x).1, z.2 ++ (stepP z.1 x).2)) Z) := by
    intro L
    induction L with
    | nil => exact fun Z h1 h2 => ⟨h1, h2⟩
    | cons x L ih =>
      intro Z h1 h2
      rw [List.foldl_cons]
      have h3 := stepP_gs Z.1 x h1 h2.2
      refine ih _ (stepP_ok _ x h1) ⟨fun y hy => ?_, h3.2⟩
      rcases List.mem_append.1 hy with hy | hy
      · exact h2.1 y hy
      · exact h3.1 y hy
  exact key L (p, []) hp (gs_none hT)
end Go.Proofs.YtflmckoolagikaaDoor
end
section
namespace Go.Proofs.YtflmckoolagikaaDoor
open Go Go.RowKit Go.Fw Go.Sx
set_option maxRecDepth 100000
set_option maxHeartbeats 2000000
theorem fold_acc : ∀ (L : List Int) (q : Ps) (acc : List Pa), L.foldl (fun z x => ((stepP z.1 x).1, z.2 ++ (stepP z.1 x).2)) (q, acc) = ((runP q L).1, acc ++ (runP q L).2)
  | [], q, acc => by unfold runP; simp
  | x :: L, q, acc => by
    have h1 := fold_acc L (stepP q x).1 (acc ++ (stepP q x).2)
    have h2 := fold_acc L (stepP q x).1 ([] ++ (stepP q x).2)
    rw [List.foldl_cons]
    unfold runP
    rw [List.foldl_cons]
    refine h1.trans ?_
    rw [show L.foldl (fun z x => ((stepP z.1 x).1, z.2 ++ (stepP z.1 x).2)) ((stepP (q, ([] : List Pa)).1 x).1, (q, ([] : List Pa)).2 ++ (stepP (q, ([] : List Pa)).1 x).2) = _ from h2]
    simp
theorem runP_cons (p : Ps) (x : Int) (L : List Int) : runP p (x :: L) = ((runP (stepP p x).1 L).1, (stepP p x).2 ++ (runP (stepP p x).1 L).2) := by
  conv => lhs; unfold runP
  rw [List.foldl_cons, fold_acc]
  rfl
theorem runP_app (p : Ps) (A B : List Int) : runP p (A ++ B) = ((runP (runP p A).1 B).1, (runP p A).2 ++ (runP (runP p A).1 B).2) := by
  conv => lhs; unfold runP
  rw [List.foldl_append]
  exact fold_acc B (runP p A).1 (runP p A).2
/-- Nothing is told. -/
def Qt (p : Ps) (L : List Int) (q : Ps) : Prop := runP p L = (q, [])
theorem Qt.nil (p : Ps) : Qt p [] p := rfl
theorem Qt.cons {p r q : Ps} {x : Int} {L : List Int} (h : stepP p x = (r, [])) (h2 : Qt r L q) : Qt p (x :: L) q := by
  unfold Qt at h2 ⊢
  rw [runP_cons, h]
  dsimp only
  rw [h2]
  rfl
theorem Qt.app {p r q : Ps} {A B : List Int} (h : Qt p A r) (h2 : Qt r B q) : Qt p (A ++ B) q := by
  unfold Qt at h h2 ⊢
  rw [runP_app, h]
  dsimp only
  rw [h2]
  rfl
/-- One act is told, and the parser is as at first. -/
def Tells (p : Ps) (L : List Int) (y : Pa) : Prop := runP p L = (sP 0, [y])
theorem Tells.one {p : Ps} {x : Int} {y : Pa} (h : stepP p x = (sP 0, [y])) : Tells p [x] y := by
  unfold Tells
  rw [runP_cons, h]
  rfl
theorem Tells.cons {p r : Ps} {x : Int} {L : List Int} {y : Pa} (h : stepP p x = (r, [])) (h2 : Tells r L y) : Tells p (x :: L) y := by
  unfold Tells at h2 ⊢
  rw [runP_cons, h]
  dsimp only
  rw [h2]
  rfl
theorem Tells.app {p r : Ps} {A B : List Int} {y : Pa} (h : Qt p A r) (h2 : Tells r B y) : Tells p (A ++ B) y := by
  unfold Tells at h2 ⊢
  unfold Qt at h
  rw [runP_app, h]
  dsimp only
  rw [h2]
  rfl
theorem e_print (x : Int) (hx : (32 ≤ x ∧ x ≤ 126) ∨ (160 ≤ x ∧ x ≤ 1114111)) : stepP (sP 0) x = (sP 0, [(1, x, 0, e0, [], e0)]) := by
  have hc := cls_cases x (by omega)
  rcases hc with h | h | h | h | h | h | h | h | h | h | h | h | h | h | h
  all_goals
    obtain ⟨h, hN⟩ := h
    first | (exfalso; omega) | skip
  all_goals
    unfold stepP
    rw [if_neg (by omega)]
    show stepW (sP 0) x (whatQ 0 x) _ = _
    rw [show whatQ 0 x = _ from by unfold whatQ whatP; rw [hN]]
    unfold stepW
    dsimp only
    (repeat (first | rw [if_pos (by first | assumption | omega)] | rw [if_neg (by first | assumption | omega)]))
    first | done | rfl
theorem e_ctrl (x : Int) (hx : 0 ≤ x ∧ x ≤ 31 ∧ x ≠ 24 ∧ x ≠ 26 ∧ x ≠ 27) : stepP (sP 0) x = (sP 0, [(2, x, 0, e0, [], e0)]) := by
  have hc := cls_cases x (by omega)
  rcases hc with h | h | h | h | h | h | h | h | h | h | h | h | h | h | h
  all_goals
    obtain ⟨h, hN⟩ := h
    first | (exfalso; omega) | skip
  all_goals
    unfold stepP
    rw [if_neg (by omega)]
    show stepW (sP 0) x (whatQ 0 x) _ = _
    rw [show whatQ 0 x = _ from by unfold whatQ whatP; rw [hN]]
    unfold stepW
    dsimp only
    (repeat (first | rw [if_pos (by first | assumption | omega)] | rw [if_neg (by first | assumption | omega)]))
    first | done | rfl
theorem e_esc (x : Int) (hx : x = 27) : stepP (sP 0) x = (sP 1, []) := by
  have hc := cls_cases x (by omega)
  rcases hc with h | h | h | h | h | h | h | h | h | h | h | h | h | h | h
  all_goals
    obtain ⟨h, hN⟩ := h
    first | (exfalso; omega) | skip
  all_goals
    unfold stepP
    rw [if_neg (by omega)]
    show stepW (sP 0) x (whatQ 0 x) _ = _
    rw [show whatQ 0 x = _ from by unfold whatQ whatP; rw [hN]]
    unfold stepW
    dsimp only
    (repeat (first | rw [if_pos (by first | assumption | omega)] | rw [if_neg (by first | assumption | omega)]))
    first | done | rfl
theorem e_in1 (x : Int) (hx : 32 ≤ x ∧ x ≤ 47) : stepP (sP 1) x = ((2, 0, signB x, e0, e0), []) := by
  have hc := cls_cases x (by omega)
  rcases hc with h | h | h | h | h | h | h | h | h | h | h | h | h | h | h
  all_goals
    obtain ⟨h, hN⟩ := h
    first | (exfalso; omega) | skip
  all_goals
    unfold stepP
    rw [if_neg (by omega)]
    show stepW (sP 1) x (whatQ 1 x) _ = _
    rw [show whatQ 1 x = _ from by unfold whatQ whatP; rw [hN]]
    unfold stepW
    dsimp only
    (repeat (first | rw [if_pos (by first | assumption | omega)] | rw [if_neg (by first | assumption | omega)]))
    first | done | rfl
theorem e_in2 (i : ByteArray) (hi : i.size < 3) (x : Int) (hx : 32 ≤ x ∧ x ≤ 47) : stepP ((2, 0, i, e0, e0) : Ps) x = ((2, 0, i ++ signB x, e0, e0), []) := by
  have hc := cls_cases x (by omega)
  rcases hc with h | h | h | h | h | h | h | h | h | h | h | h | h | h | h
  all_goals
    obtain ⟨h, hN⟩ := h
    first | (exfalso; omega) | skip
  all_goals
    unfold stepP
    rw [if_neg (by omega)]
    show stepW ((2, 0, i, e0, e0) : Ps) x (whatQ 2 x) _ = _
    rw [show whatQ 2 x = _ from by unfold whatQ whatP; rw [hN]]
    show (((2, 0, if i.size < 3 then i ++ signB x else i, e0, e0) : Ps), ([] : List Pa)) = _
    rw [if_pos hi]
theorem e_fin1 (x : Int) (hx : 48 ≤ x ∧ x ≤ 126 ∧ ¬ (x = 91 ∨ x = 93 ∨ x = 80 ∨ x = 88 ∨ x = 94 ∨ x = 95)) : stepP (sP 1) x = (sP 0, [finP (sP 1) x]) := by
  have hc := cls_cases x (by omega)
  rcases hc with h | h | h | h | h | h | h | h | h | h | h | h | h | h | h
  all_goals
    obtain ⟨h, hN⟩ := h
    first | (exfalso; omega) | skip
  all_goals
    unfold stepP
    rw [if_neg (by omega)]
    show stepW (sP 1) x (whatQ 1 x) _ = _
    rw [show whatQ 1 x = _ from by unfold whatQ whatP; rw [hN]]
    unfold stepW
    dsimp only
    (repeat (first | rw [if_pos (by first | assumption | omega)] | rw [if_neg (by first | assumption | omega)]))
    first | done | rfl
theorem e_fin2 (i : ByteArray) (x : Int) (hx : 48 ≤ x ∧ x ≤ 126) : stepP ((2, 0, i, e0, e0) : Ps) x = (sP 0, [finP (2, 0, i, e0, e0) x]) := by
  have hc := cls_cases x (by omega)
  rcases hc with h | h | h | h | h | h | h | h | h | h | h | h | h | h | h
  all_goals
    obtain ⟨h, hN⟩ := h
    first | (exfalso; omega) | skip
  all_goals
    unfold stepP
    rw [if_neg (by omega)]
    show stepW ((2, 0, i, e0, e0) : Ps) x (whatQ 2 x) _ = _
    rw [show whatQ 2 x = _ from by unfold whatQ whatP; rw [hN]]
    unfold stepW
    dsimp only
    (repeat (first | rw [if_pos (by first | assumption | omega)] | rw [if_neg (by first | assumption | omega)]))
    first | done | rfl
theorem e_csi (x : Int) (hx : x = 91) : stepP (sP 1) x = (sP 3, []) := by
  have hc := cls_cases x (by omega)
  rcases hc with h | h | h | h | h | h | h | h | h | h | h | h | h | h | h
  all_goals
    obtain ⟨h, hN⟩ := h
    first | (exfalso; omega) | skip
  all_goals
    unfold stepP
    rw [if_neg (by omega)]
    show stepW (sP 1) x (whatQ 1 x) _ = _
    rw [show whatQ 1 x = _ from by unfold whatQ whatP; rw [hN]]
    unfold stepW
    dsimp only
    (repeat (first | rw [if_pos (by first | assumption | omega)] | rw [if_neg (by first | assumption | omega)]))
    first | done | rfl
theorem e_osc (x : Int) (hx : x = 93) : stepP (sP 1) x = (sP 7, []) := by
  have hc := cls_cases x (by omega)
  rcases hc with h | h | h | h | h | h | h | h | h | h | h | h | h | h | h
  all_goals
    obtain ⟨h, hN⟩ := h
    first | (exfalso; omega) | skip
  all_goals
    unfold stepP
    rw [if_neg (by omega)]
    show stepW (sP 1) x (whatQ 1 x) _ = _
    rw [show whatQ 1 x = _ from by unfold whatQ whatP; rw [hN]]
    unfold stepW
    dsimp only
    (repeat (first | rw [if_pos (by first | assumption | omega)] | rw [if_neg (by first | assumption | omega)]))
    first | done | rfl
theorem e_mark (x : Int) (hx : 60 ≤ x ∧ x ≤ 63) : stepP (sP 3) x = ((4, x, e0, e0, e0), []) := by
  have hc := cls_cases x (by omega)
  rcases hc with h | h | h | h | h | h | h | h | h | h | h | h | h | h | h
  all_goals
    obtain ⟨h, hN⟩ := h
    first | (exfalso; omega) | skip
  all_goals
    unfold stepP
    rw [if_neg (by omega)]
    show stepW (sP 3) x (whatQ 3 x) _ = _
    rw [show whatQ 3 x = _ from by unfold whatQ whatP; rw [hN]]
    unfold stepW
    dsimp only
    (repeat (first | rw [if_pos (by first | assumption | omega)] | rw [if_neg (by first | assumption | omega)]))
    first | done | rfl
theorem e_arg3 (x : Int) (hx : (48 ≤ x ∧ x ≤ 57) ∨ x = 59) : stepP (sP 3) x = ((4, 0, e0, e0 ++ signB x, e0), []) := by
  have hc := cls_cases x (by omega)
  rcases hc with h | h | h | h | h | h | h | h | h | h | h | h | h | h | h
  all_goals
    obtain ⟨h, hN⟩ := h
    first | (exfalso; omega) | skip
  all_goals
    unfold stepP
    rw [if_neg (by omega)]
    show stepW (sP 3) x (whatQ 3 x) _ = _
    rw [show whatQ 3 x = _ from by unfold whatQ whatP; rw [hN]]
    unfold stepW
    dsimp only
    (repeat (first | rw [if_pos (by first | assumption | omega)] | rw [if_neg (by first | assumption | omega)]))
    first | done | rfl
theorem e_arg4 (m : Int) (g : ByteArray) (hg : g.size < 100) (x : Int) (hx : (48 ≤ x ∧ x ≤ 57) ∨ x = 59) : stepP ((4, m, e0, g, e0) : Ps) x = ((4, m, e0, g ++ signB x, e0), []) := by
  have hc := cls_cases x (by omega)
  rcases hc with h | h | h | h | h | h | h | h | h | h | h | h | h | h | h
  all_goals
    obtain ⟨h, hN⟩ := h
    first | (exfalso; omega) | skip
  all_goals
    unfold stepP
    rw [if_neg (by omega)]
    show stepW ((4, m, e0, g, e0) : Ps) x (whatQ 4 x) _ = _
    rw [show whatQ 4 x = _ from by unfold whatQ whatP; rw [hN]]
    show (((4, m, e0, if g.size < 100 then g ++ signB x else g, e0) : Ps), ([] : List Pa)) = _
    rw [if_pos hg]
theorem e_ci3 (x : Int) (hx : 32 ≤ x ∧ x ≤ 47) : stepP (sP 3) x = ((5, 0, signB x, e0, e0), []) := by
  have hc := cls_cases x (by omega)
  rcases hc with h | h | h | h | h | h | h | h | h | h | h | h | h | h | h
  all_goals
    obtain ⟨h, hN⟩ := h
    first | (exfalso; omega) | skip
  all_goals
    unfold stepP
    rw [if_neg (by omega)]
    show stepW (sP 3) x (whatQ 3 x) _ = _
    rw [show whatQ 3 x = _ from by unfold whatQ whatP; rw [hN]]
    unfold stepW
    dsimp only
    (repeat (first | rw [if_pos (by first | assumption | omega)] | rw [if_neg (by first | assumption | omega)]))
    first | done | rfl
theorem e_ci4 (m : Int) (g : ByteArray) (x : Int) (hx : 32 ≤ x ∧ x ≤ 47) : stepP ((4, m, e0, g, e0) : Ps) x = ((5, m, signB x, g, e0), []) := by
  have hc := cls_cases x (by omega)
  rcases hc with h | h | h | h | h | h | h | h | h | h | h | h | h | h | h
  all_goals
    obtain ⟨h, hN⟩ := h
    first | (exfalso; omega) | skip
  all_goals
    unfold stepP
    rw [if_neg (by omega)]
    show stepW ((4, m, e0, g, e0) : Ps) x (whatQ 4 x) _ = _
    rw [show whatQ 4 x = _ from by unfold whatQ whatP; rw [hN]]
    unfold stepW
    dsimp only
    (repeat (first | rw [if_pos (by first | assumption | omega)] | rw [if_neg (by first | assumption | omega)]))
    first | done | rfl
theorem e_ci5 (m : Int) (i g : ByteArray) (hi : i.size < 3) (x : Int) (hx : 32 ≤ x ∧ x ≤ 47) : stepP ((5, m, i, g, e0) : Ps) x = ((5, m, i ++ signB x, g, e0), []) := by
  have hc := cls_cases x (by omega)
  rcases hc with h | h | h | h | h | h | h | h | h | h | h | h | h | h | h
  all_goals
    obtain ⟨h, hN⟩ := h
    first | (exfalso; omega) | skip
  all_goals
    unfold stepP
    rw [if_neg (by omega)]
    show stepW ((5, m, i, g, e0) : Ps) x (whatQ 5 x) _ = _
    rw [show whatQ 5 x = _ from by unfold whatQ whatP; rw [hN]]
    show (((5, m, if i.size < 3 then i ++ signB x else i, g, e0) : Ps), ([] : List Pa)) = _
    rw [if_pos hi]
theorem e_fin3 (x : Int) (hx : 64 ≤ x ∧ x ≤ 126) : stepP (sP 3) x = (sP 0, [finP (sP 3) x]) := by
  have hc := cls_cases x (by omega)
  rcases hc with h | h | h | h | h | h | h | h | h | h | h | h | h | h | h
  all_goals
    obtain ⟨h, hN⟩ := h
    first | (exfalso; omega) | skip
  all_goals
    unfold stepP
    rw [if_neg (by omega)]
    show stepW (sP 3) x (whatQ 3 x) _ = _
    rw [show whatQ 3 x = _ from by unfold whatQ whatP; rw [hN]]
    unfold stepW
    dsimp only
    (repeat (first | rw [if_pos (by first | assumption | omega)] | rw [if_neg (by first | assumption | omega)]))
    first | done | rfl
theorem e_fin4 (m : Int) (g : ByteArray) (x : Int) (hx : 64 ≤ x ∧ x ≤ 126) : stepP ((4, m, e0, g, e0) : Ps) x = (sP 0, [finP (4, m, e0, g, e0) x]) := by
  have hc := cls_cases x (by omega)
  rcases hc with h | h | h | h | h | h | h | h | h | h | h | h | h | h | h
  all_goals
    obtain ⟨h, hN⟩ := h
    first | (exfalso; omega) | skip
  all_goals
    unfold stepP
    rw [if_neg (by omega)]
    show stepW ((4, m, e0, g, e0) : Ps) x (whatQ 4 x) _ = _
    rw [show whatQ 4 x = _ from by unfold whatQ whatP; rw [hN]]
    unfold stepW
    dsimp only
    (repeat (first | rw [if_pos (by first | assumption | omega)] | rw [if_neg (by first | assumption | omega)]))
    first | done | rfl
theorem e_fin5 (m : Int) (i g : ByteArray) (x : Int) (hx : 64 ≤ x ∧ x ≤ 126) : stepP ((5, m, i, g, e0) : Ps) x = (sP 0, [finP (5, m, i, g, e0) x]) := by
  have hc := cls_cases x (by omega)
  rcases hc with h | h | h | h | h | h | h | h | h | h | h | h | h | h | h
  all_goals
    obtain ⟨h, hN⟩ := h
    first | (exfalso; omega) | skip
  all_goals
    unfold stepP
    rw [if_neg (by omega)]
    show stepW ((5, m, i, g, e0) : Ps) x (whatQ 5 x) _ = _
    rw [show whatQ 5 x = _ from by unfold whatQ whatP; rw [hN]]
    unfold stepW
    dsimp only
    (repeat (first | rw [if_pos (by first | assumption | omega)] | rw [if_neg (by first | assumption | omega)]))
    first | done | rfl
theorem e_text (t : ByteArray) (x : Int) (hx : (32 ≤ x ∧ x ≤ 126) ∨ (160 ≤ x ∧ x ≤ 1114111)) (hz : t.size + (rtB x).size ≤ 256) : stepP ((7, 0, e0, e0, t) : Ps) x = ((7, 0, e0, e0, t ++ rtB x), []) := by
  have hc := cls_cases x (by omega)
  rcases hc with h | h | h | h | h | h | h | h | h | h | h | h | h | h | h
  all_goals
    obtain ⟨h, hN⟩ := h
    first | (exfalso; omega) | skip
  all_goals
    unfold stepP
    rw [if_neg (by omega)]
    show stepW ((7, 0, e0, e0, t) : Ps) x (whatQ 7 x) _ = _
    rw [show whatQ 7 x = _ from by unfold whatQ whatP; rw [hN]]
    show (((7, 0, e0, e0, if t.size + (rtB x).size ≤ 256 then t ++ rtB x else t) : Ps), ([] : List Pa)) = _
    rw [if_pos hz]
theorem e_bell (t : ByteArray) (x : Int) (hx : x = 7) : stepP ((7, 0, e0, e0, t) : Ps) x = (sP 0, [(5, 0, 0, e0, [], t)]) := by
  have hc := cls_cases x (by omega)
  rcases hc with h | h | h | h | h | h | h | h | h | h | h | h | h | h | h
  all_goals
    obtain ⟨h, hN⟩ := h
    first | (exfalso; omega) | skip
  all_goals
    unfold stepP
    rw [if_neg (by omega)]
    show stepW ((7, 0, e0, e0, t) : Ps) x (whatQ 7 x) _ = _
    rw [show whatQ 7 x = _ from by unfold whatQ whatP; rw [hN]]
    unfold stepW
    dsimp only
    (repeat (first | rw [if_pos (by first | assumption | omega)] | rw [if_neg (by first | assumption | omega)]))
    first | done | rfl
theorem inB_rng {b : Int} (h : inB b = true) : 32 ≤ b ∧ b ≤ 47 := by unfold inB at h; exact of_decide_eq_true h
theorem okA_rng {b : Int} (h : okA b = true) : (48 ≤ b ∧ b ≤ 57) ∨ b = 59 := by unfold okA at h; exact of_decide_eq_true h
theorem q_in1  (i : ByteArray) (hi : inOk i) (hz : 0 < i.size) : Qt (sP 1) (nums i) ((2, 0, i, e0, e0) : Ps) := by
  have hn := strOf_nums i
  have hl := nums_length i
  obtain ⟨h1, h2⟩ := hi
  generalize nums i = N at *
  match N, hl with
  | [], hl => simp at hl; omega
  | [b], _ =>
    have hb := inB_rng (h1 b List.mem_cons_self)
    refine Qt.cons (e_in1 b hb) ?_
    rw [sign_s b (by omega), hn]
    exact Qt.nil _
  | [b, d], _ =>
    have hb := inB_rng (h1 b List.mem_cons_self)
    have hd := inB_rng (h1 d (List.mem_cons_of_mem _ List.mem_cons_self))
    have hz : (signB b).size < 3 := by rw [sign_s b (by omega), strOfNums_size]; exact (by decide : 1 < 3)
    refine Qt.cons (e_in1 b hb) (Qt.cons (e_in2 _ hz d hd) ?_)
    rw [sign_s b (by omega), sign_s d (by omega), strOfNums_append, show [b] ++ [d] = [b, d] from rfl, hn]
    exact Qt.nil _
  | b :: d :: f :: r, hl => simp at hl; omega
theorem q_ci3  (i : ByteArray) (hi : inOk i) (hz : 0 < i.size) : Qt (sP 3) (nums i) ((5, 0, i, e0, e0) : Ps) := by
  have hn := strOf_nums i
  have hl := nums_length i
  obtain ⟨h1, h2⟩ := hi
  generalize nums i = N at *
  match N, hl with
  | [], hl => simp at hl; omega
  | [b], _ =>
    have hb := inB_rng (h1 b List.mem_cons_self)
    refine Qt.cons (e_ci3 b hb) ?_
    rw [sign_s b (by omega), hn]
    exact Qt.nil _
  | [b, d], _ =>
    have hb := inB_rng (h1 b List.mem_cons_self)
    have hd := inB_rng (h1 d (List.mem_cons_of_mem _ List.mem_cons_self))
    have hz : (signB b).size < 3 := by rw [sign_s b (by omega), strOfNums_size]; exact (by decide : 1 < 3)
    refine Qt.cons (e_ci3 b hb) (Qt.cons (e_ci5 0 _ e0 hz d hd) ?_)
    rw [sign_s b (by omega), sign_s d (by omega), strOfNums_append, show [b] ++ [d] = [b, d] from rfl, hn]
    exact Qt.nil _
  | b :: d :: f :: r, hl => simp at hl; omega
theorem q_ci4 (m : Int) (g : ByteArray) (i : ByteArray) (hi : inOk i) (hz : 0 < i.size) : Qt ((4, m, e0, g, e0) : Ps) (nums i) ((5, m, i, g, e0) : Ps) := by
  have hn := strOf_nums i
  have hl := nums_length i
  obtain ⟨h1, h2⟩ := hi
  generalize nums i = N at *
  match N, hl with
  | [], hl => simp at hl; omega
  | [b], _ =>
    have hb := inB_rng (h1 b List.mem_cons_self)
    refine Qt.cons (e_ci4 m g b hb) ?_
    rw [sign_s b (by omega), hn]
    exact Qt.nil _
  | [b, d], _ =>
    have hb := inB_rng (h1 b List.mem_cons_self)
    have hd := inB_rng (h1 d (List.mem_cons_of_mem _ List.mem_cons_self))
    have hz : (signB b).size < 3 := by rw [sign_s b (by omega), strOfNums_size]; exact (by decide : 1 < 3)
    refine Qt.cons (e_ci4 m g b hb) (Qt.cons (e_ci5 m _ g hz d hd) ?_)
    rw [sign_s b (by omega), sign_s d (by omega), strOfNums_append, show [b] ++ [d] = [b, d] from rfl, hn]
    exact Qt.nil _
  | b :: d :: f :: r, hl => simp at hl; omega
theorem nil_e0 {i : ByteArray} (h : i.size = 0) : i = e0 ∧ nums i = [] := by
  have h2 : nums i = [] := List.eq_nil_of_length_eq_zero (by rw [nums_length, h])
  exact ⟨by rw [← strOf_nums i, h2]; rfl, h2⟩
theorem tells_esc (c : Int) (i : ByteArray) (h : 48 ≤ c ∧ c ≤ 126) (hx : 0 < i.size ∨ ¬ (c = 91 ∨ c = 93 ∨ c = 80 ∨ c = 88 ∨ c = 94 ∨ c = 95)) (hi : inOk i) : Tells (sP 0) (27 :: (nums i ++ [c])) (3, c, 0, i, [], e0) := by
  refine Tells.cons (e_esc 27 rfl) ?_
  by_cases hz : i.size = 0
  · obtain ⟨rfl, h2⟩ := nil_e0 hz
    rw [h2]
    exact Tells.one (e_fin1 c ⟨h.1, h.2, hx.resolve_left (by omega)⟩)
  · refine Tells.app (q_in1 i hi (by omega)) (Tells.one ((e_fin2 i c h).trans ?_))
    unfold finP
    dsimp only
    rw [if_neg (show ¬ i.size = 3 by have := hi.2; omega), if_pos (by decide)]
theorem tail4 (m c : Int) (i g : ByteArray) (h : 64 ≤ c ∧ c ≤ 126) (hi : inOk i) : Tells ((4, m, e0, g, e0) : Ps) (nums i ++ [c]) (4, c, m, i, (readA g).1, e0) := by
  by_cases hz : i.size = 0
  · obtain ⟨rfl, h2⟩ := nil_e0 hz
    rw [h2]
    exact Tells.one (e_fin4 m g c h)
  · refine Tells.app (q_ci4 m g i hi (by omega)) (Tells.one ((e_fin5 m i g c h).trans ?_))
    unfold finP
    dsimp only
    rw [if_neg (show ¬ i.size = 3 by have := hi.2; omega), if_neg (by decide)]
theorem tail3 (c : Int) (i : ByteArray) (h : 64 ≤ c ∧ c ≤ 126) (hi : inOk i) : Tells (sP 3) (nums i ++ [c]) (4, c, 0, i, (readA e0).1, e0) := by
  by_cases hz : i.size = 0
  · obtain ⟨rfl, h2⟩ := nil_e0 hz
    rw [h2]
    exact Tells.one (e_fin3 c h)
  · refine Tells.app (q_ci3 i hi (by omega)) (Tells.one ((e_fin5 0 i e0 c h).trans ?_))
    unfold finP
    dsimp only
    rw [if_neg (show ¬ i.size = 3 by have := hi.2; omega), if_neg (by decide)]
theorem q_arg4 (m : Int) : ∀ (L : List Int) (g : ByteArray), (∀ x ∈ L, okA x = true) → g.size + L.length ≤ 100 → Qt ((4, m, e0, g, e0) : Ps) L (4, m, e0, g ++ strOfNums L, e0)
  | [], g, _, _ => by
    rw [show g ++ strOfNums [] = g from by rw [← strOf_nums g, strOfNums_append, List.append_nil]]
    exact Qt.nil _
  | x :: L, g, h, hl => by
    have hx := okA_rng (h x List.mem_cons_self)
    rw [List.length_cons] at hl
    refine Qt.cons (e_arg4 m g (by omega) x hx) ?_
    have h2 := q_arg4 m L (g ++ signB x) (fun y hy => h y (List.mem_cons_of_mem _ hy)) (by rw [size_cat, (size_sign (x := x) (by omega)).1]; omega)
    rw [sign_s x (by omega)] at h2 ⊢
    rw [show g ++ strOfNums (x :: L) = (g ++ strOfNums [x]) ++ strOfNums L from by rw [← strOf_nums g, strOfNums_append, strOfNums_append, strOfNums_append, List.append_assoc]; rfl]
    exact h2
theorem q_arg3 (L : List Int) (h : ∀ x ∈ L, okA x = true) (hl : L.length ≤ 100) (h0 : L ≠ []) : Qt (sP 3) L (4, 0, e0, strOfNums L, e0) := by
  cases L with
  | nil => exact absurd rfl h0
  | cons x L =>
    have hx := okA_rng (h x List.mem_cons_self)
    rw [List.length_cons] at hl
    refine Qt.cons (e_arg3 x hx) ?_
    have h2 := q_arg4 0 L (e0 ++ signB x) (fun y hy => h y (List.mem_cons_of_mem _ hy)) (by rw [e0_app, (size_sign (x := x) (by omega)).1]; omega)
    rw [e0_app, sign_s x (by omega)] at h2 ⊢
    rw [strOfNums_append] at h2
    exact h2
theorem tells_csi (c m : Int) (i g : ByteArray) (h : 64 ≤ c ∧ c ≤ 126) (hm : m = 0 ∨ (60 ≤ m ∧ m ≤ 63)) (hi : inOk i) (hg : ∀ x ∈ nums g, okA x = true) (hz : g.size ≤ 100) : Tells (sP 0) (27 :: 91 :: ((if m ≠ 0 then [m] else []) ++ (nums (g ++ i) ++ [c]))) (4, c, m, i, (readA g).1, e0) := by
  refine Tells.cons (e_esc 27 rfl) (Tells.cons (e_csi 91 rfl) ?_)
  have hl := nums_length g
  rw [nums_append, List.append_assoc]
  by_cases h0 : m = 0
  · subst h0
    rw [if_neg (fun h => h rfl), List.nil_append]
    by_cases hgz : g.size = 0
    · obtain ⟨rfl, h2⟩ := nil_e0 hgz
      rw [h2]
      exact tail3 c i h hi
    · refine Tells.app (q_arg3 (nums g) hg (by omega) (fun e => hgz (by rw [← hl, e]; rfl))) ?_
      rw [strOf_nums]
      exact tail4 0 c i g h hi
  · rw [if_pos h0]
    have hm2 := hm.resolve_left h0
    show Tells (sP 3) (m :: (nums g ++ (nums i ++ [c]))) _
    refine Tells.cons (e_mark m hm2) (Tells.app (q_arg4 m (nums g) e0 hg (by rw [hl]; exact (Nat.zero_add _).symm ▸ hz)) ?_)
    rw [e0_app, strOf_nums]
    exact tail4 m c i g h hi
theorem cp_rng {x : Int} (h : cpR x) : (32 ≤ x ∧ x ≤ 126) ∨ (160 ≤ x ∧ x ≤ 1114111) := by
  unfold cpR isR at h
  omega
theorem q_text : ∀ (R : List Int) (t : ByteArray), (∀ x ∈ R, cpR x) → t.size + (encL R).length ≤ 256 → Qt ((7, 0, e0, e0, t) : Ps) R (7, 0, e0, e0, t ++ strOfNums (encL R))
  | [], t, _, _ => by
    rw [show t ++ strOfNums (encL []) = t from by rw [← strOf_nums t, strOfNums_append, show encL [] = [] from rfl, List.append_nil]]
    exact Qt.nil _
  | x :: R, t, h, hl => by
    have hx := h x List.mem_cons_self
    rw [encL_cons, List.length_append] at hl
    have hz : (rtB x).size = (runeL (fixR x)).length := by unfold rtB; rw [strOfNums_size]
    refine Qt.cons (e_text t x (cp_rng hx) (by omega)) ?_
    have h2 := q_text R (t ++ rtB x) (fun y hy => h y (List.mem_cons_of_mem _ hy)) (by rw [size_cat]; omega)
    rw [show t ++ strOfNums (encL (x :: R)) = (t ++ rtB x) ++ strOfNums (encL R) from by
      rw [encL_cons]
      unfold rtB
      rw [← strOf_nums t, strOfNums_append, strOfNums_append, strOfNums_append, List.append_assoc]]
    exact h2
theorem tells_osc (R : List Int) (h : ∀ x ∈ R, cpR x) (hl : (encL R).length ≤ 256) : Tells (sP 0) (27 :: 93 :: (R ++ [7])) (5, 0, 0, e0, [], strOfNums (encL R)) := by
  refine Tells.cons (e_esc 27 rfl) (Tells.cons (e_osc 93 rfl) (Tells.app (q_text R e0 h (by rw [show e0.size = 0 from rfl]; omega)) ?_))
  rw [e0_app]
  exact Tells.one (e_bell _ 7 rfl)
end Go.Proofs.YtflmckoolagikaaDoor
end
