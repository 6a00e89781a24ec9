/- Texts of this claim, merged: Top7. -/
import Derived.Test.YtmbfechiallppaaGreatDoorTl6
import Derived.Test.YtmbfechiallppaaGreatDoorRows
import Derived.WalkKit
import Derived.WalkSpells
import Derived.WalkLawsBesides
import Derived.Handy
import Derived.Lib.Hide
import Derived.Laws.BitsAllLaws
import Derived.Deep.MidRow
import Derived.Deep.WholeRow
import Derived.BigQuiet
import Derived.Deep.QuietTactic
import Derived.Laws.CopyOwn
import Derived.StillTailTactics
import Derived.RegionTactic
import Derived.ChangeAlike
import Derived.Laws.AppendOwnNone
import Derived.Laws.MakeOwn
import Derived.Laws.IdiomStrings
import Derived.OrdersHeld
import Derived.Lib.SliceRun
import Derived.ChangeKeysEq
import Derived.Laws.CopyRow
import Derived.Lib.AppendStr
import Derived.ArgAppend
import Derived.Laws.RangeAny
import Derived.Maps.RangeRun
import Derived.Lib.Replace
import Derived.Lib.Join
import Derived.Lib.IndexLaws
import Derived.Lib.IndexMore
import Derived.Lib.SplitLaws
import Derived.Shelf.Strings.Builder1
import Derived.Shelf.Strings.Builder2
import Derived.Shelf.Strings.OnBuilder
import Derived.Shelf.Strings.Trim
import Derived.Shelf.Small.Utf8
import Derived.Shelf.Small.Strs
import Derived.Shelf.Strings.BuilderF
import Derived.Shelf.Strconv.Itoa0
import Derived.Shelf.Strconv.Itoa1
import Derived.Shelf.LaysM
import Derived.Shelf.Strconv.Itoa2
import Derived.Shelf.Strconv.Itoa3
import Derived.Shelf.Strings.Search1
import Derived.Shelf.Strings.Search2
import Derived.Shelf.Strings.Search3
import Derived.Shelf.Strings.Count
import Derived.Shelf.Strings.Shaped
import Derived.Shelf.Strings.LastIndex
import Derived.Shelf.Strings.Prefix
import Derived.Shelf.Strings.Split
import Derived.Shelf.Strings.Replace
import Derived.Shelf.Strings.Runes
import Derived.Shelf.Strings.AsciiSet
import Derived.Shelf.Bits.Mul64
import Derived.Shelf.Strings.Repeat
import Derived.Shelf.Unicode.DecodeSlow
import Derived.Shelf.Unicode.DecodeAny
import Derived.Test.YtmbfechiallppaaGreatDoorProg
import Derived.Lib.Bytealg
import Derived.Lib.Repeat
import Derived.Lib.DecodeN
import Derived.Lib.ItoaNum
section
namespace Go.Proofs.YtmbfechiallppaaGreatDoor
open Go Go.RowKit Go.Fw Go.Sx
set_option maxRecDepth 100000
set_option maxHeartbeats 2000000
attribute [local irreducible] SW SL SQ AtQ SV SC BB LD PK Yields SO SOT SOA SY negC
theorem ext_list (t : ByteArray) (k : Nat) : (t.extract 0 k).data.toList = t.data.toList.take k := by
  rw [ByteArray.data_extract]
  simp
theorem ext_snoc (t : ByteArray) (k : Nat) (b : UInt8) (h : t.data.toList[k]? = some b) : t.extract 0 k ++ ⟨#[UInt8.ofNat b.toNat]⟩ = t.extract 0 (k + 1) := by
  apply ByteArray.ext
  rw [ByteArray.data_append]
  apply Array.toList_inj.1
  rw [Array.toList_append, ext_list, ext_list, List.take_add_one, h]
  simp
theorem ext_all (t : ByteArray) : t.extract 0 t.size = t := by
  apply ByteArray.ext
  apply Array.toList_inj.1
  rw [ext_list]
  exact List.take_of_length_le (by rw [Array.length_toList]; exact Nat.le_refl _)
theorem nums_get (t : ByteArray) (k : Nat) (b : UInt8) (h : t.data.toList[k]? = some b) : (nums t).getD k 0 = (b.toNat : Int) := by
  unfold nums
  rw [List.getD_eq_getElem?_getD, List.getElem?_map, h]
  rfl
theorem topLine_sv (G : Ctx) (M : Int) (hM : ∀ H w, Holds G H w → w.cell? ⟨2, 0, none⟩ = some (.int .i64 M)) (hT : ∀ H w, Holds G H w → Lib.Utf8Tabs 0 1 w) (text : ByteArray) :
    SV Tryz.prog G 3 [.string text] [] (.bool true) := by
  haveI : Len (negC nW0 x34) 520 := ⟨negC_len nW0_len rfl⟩
  haveI : Len (negC nW1 x34) 520 := ⟨negC_len nW1_len rfl⟩
  haveI : Len (octs kAll) 38 := ⟨by rw [octs_len]; exact kSet_len _⟩
  have f1 : Fre (newS 9 2) := Fre.new (by decide)
  have cF : ∀ H, SC Tryz.prog G 6 [.int .i64 9, .int .i64 2, .agg #[.int .u64 17179869184, .int .u64 0, .int .u64 0, .int .u64 0, .int .u64 0, .int .u64 0, .int .u64 0, .int .u64 0]] H fun v H' => ∃ S P E, v = .tuple #[.agg (wkC S (negC nW0 x34) P (octs kAll) (cliX ⟨#[]⟩ false)).toArray, .int .i64 0] ∧ H' = E ++ H ∧ CliS G E (newS 9 2) S P := fun H => fresh_sc G H 9 2 (by decide) (by decide) (fun i => if i = 0 then 17179869184 else 0)
  have cE := fun H => evBytes_sv G H askB
  have cL := fun H => lives_sv G H M hM hT
  have cA0 := fun (H : List Ent) (S P : List Value) (E : List Ent) (hE : CliS G E (newS 9 2) S P) (hh : ∀ w, Holds G H w → Holds G E w) => do_ask G H M hM (newS 9 2) f1 S P (hE.mono hh)
  have hsaid : (⟨#[]⟩ ++ ⟨#[255, 251, 34]⟩ ++ saidB : ByteArray) = ⟨#[255, 251, 34, 255, 250, 34, 1, 5, 255, 240]⟩ := by decide +kernel
  simp only [hsaid] at cA0
  have cK0 := fun (H : List Ent) (s : Scr) (f : Fre s) (S P : List Value) (E : List Ent) (hE : CliS G E s S P) (hh : ∀ w, Holds G H w → Holds G E w) => do_key G H M hM hT s f S P (hE.mono hh)
  have cN0 := fun (H : List Ent) (s : Scr) (f : Fre s) (S P : List Value) (E : List Ent) (hE : CliS G E s S P) (hh : ∀ w, Holds G H w → Holds G E w) => do_enter G H M hM hT s f S P (hE.mono hh)
  have hc0 := fun (E : List Ent) (s : Scr) (S P : List Value) (h : CliS G E s S P) => h.cells (negC nW0 x34) (octs kAll) (negC_all _ _) (octs_all _) ⟨#[]⟩ false
  have hc1 := fun (E : List Ent) (s : Scr) (S P : List Value) (h : CliS G E s S P) (buf : ByteArray) => h.cells (negC nW1 x34) (octs kAll) (negC_all _ _) (octs_all _) buf true
  have hz := cliZ_len
  clear hM hT
  refine sv_enter1 Tryz.func3 rfl rfl rfl rfl rfl ?_
  repeat' ((first | (apply g_sl; (first | (apply ks_nil; refine sl_nil ?_) | (apply ks_move; refine s_move rfl rfl ?_) | (apply ks_asgn; refine s_asgn rfl rfl ?_) | (apply ks_extr; refine s_extr (y_extract rfl rfl rfl) rfl ?_) | (apply ks_build; (refine s_build (c_build rfl rfl rfl) rfl ?_)) | (apply ks_fn; ((refine c_call rfl rfl rfl (cF _) rfl rfl ?_; rintro _ _ ⟨S, P, E, rfl, rfl, hE⟩; (obtain ⟨hl, ho⟩ := hc0 _ _ _ _ hE); (have cA := fun H hh => cA0 H S P E hE hh); (generalize hC : wkC S (negC nW0 x34) P (octs kAll) (cliX ⟨#[]⟩ false) = C at *)))) | (apply ks_store; (((refine c_storewV rfl rfl rfl rfl ho hl hz rfl ?_)))) | (apply ks_alloc; refine c_alloc rfl rfl rfl rfl (fun _ => ?_)))) | (apply sw_seq) | ((fail_if_success (refine g_reg (id := 2) ?_)); apply sw_region) | (apply at_thn)))
  rename_i b3
  have hlb : Nat.beq C.length 613 = true := by rw [hl]; rfl
  refine sw_cut1 (α := List Value × List Value × List Ent) (fun _ => [(0, .string text), (3, .pointer (some ⟨b3, 0, none⟩)), (4, .int .i64 0), (5, .string ⟨#[255, 251, 34, 255, 250, 34, 1, 5, 255, 240]⟩), (6, .int .i64 0)]) (fun g => .blk b3 55 (wkC g.1 (negC nW1 x34) g.2.1 (octs kAll) (cliX ⟨#[]⟩ true)) :: g.2.2) (fun g => CliS G g.2.2 (newS 9 2) g.1 g.2.1) ?_ ?_
  · repeat' ((first | (apply g_sl; (first | (apply ks_nil; refine sl_nil ?_) | (apply ks_load; (((refine s_load rfl rfl ?_; refine ld_whole hlb ?_)))) | (apply ks_fn; ((first | refine c_callv rfl rfl rfl (cE _) rfl rfl ?_ | (refine c_call rfl rfl rfl (cA _ (fun _ hw => hw.sub (by repeat ((first | exact List.sublist_append_left _ _ | refine List.Sublist.cons _ ?_))))) rfl rfl ?_; rintro _ _ ⟨S2, P2, E2, rfl, rfl, hE2⟩; (obtain ⟨hl2, ho2⟩ := hc1 _ _ _ _ hE2 ⟨#[]⟩); (generalize hC2 : wkC S2 (negC nW1 x34) P2 (octs kAll) (cliX ⟨#[]⟩ true) = C2 at *))))) | (apply ks_store; ((((refine c_storewV rfl rfl rfl rfl ho2 hl2 hl rfl ?_))))))) | (apply g_atso; refine so_back (k := 0) (fun _ hw => hw.sub (by repeat ((first | exact List.Sublist.refl _ | refine List.Sublist.cons _ ?_ | refine List.Sublist.trans ?_ (List.sublist_append_right _ _))))) ?_) | (apply g_sot; (first | (refine sot_skip rfl ?_) | (refine sot_take rfl rfl rfl rfl (by kernel_rfl) (by decide +kernel) (by decide +kernel) ?_; ((first | (apply ky_move; refine sy_val (y_move rfl rfl) ?_) | (apply ky_asgn; refine sy_val (y_assign rfl rfl) ?_) | (apply ky_extr; refine sy_val (y_extract rfl rfl rfl) ?_)))) | (refine sot_next rfl ?_) | (refine so_done (by decide +kernel) ?_) | (refine sot_all (by kernel_rfl) ?_))) | (apply g_soa; (first | (refine soa_end rfl) | (refine soa_no (by decide +kernel) ?_) | (refine soa_yes rfl ?_ ?_))) | ((refine g_reg (id := 2) ?_; refine c_drawnoB (b := b3) ?_))))
    all_goals
      subst hC2
      exact at_meet (S2, P2, E2) hE2 (by repeat ((first | exact Le.nil _ | refine Le.cons (by (rfl)) ?_))) (fun _ hw => hw.sub (by repeat ((exact List.sublist_append_left _ _))))
  clear cA hlb hl ho hC hE hc0 cA0 hsaid cE cF
  rintro ⟨S2, P2, E2⟩ hE2
  dsimp only at hE2 ⊢
  (obtain ⟨hl2, ho2⟩ := hc1 _ _ _ _ hE2 ⟨#[]⟩)
  repeat' ((first | (apply g_sl; (first | (apply ks_nil; refine sl_nil ?_) | (apply ks_move; refine s_move rfl rfl ?_) | (apply ks_bin; refine s_bin rfl rfl rfl ?_; ((first | (refine bb_sneG rfl ?_) | ((refine bb_of rfl ?_))))) | (apply ks_asgn; refine s_asgn rfl rfl ?_) | (apply ks_pick; refine s_pick rfl rfl ?_; ((apply kp_f; refine pk_f rfl ?_))) | (apply ks_un; refine s_un (y_un rfl rfl rfl) rfl ?_) | (apply ks_fn; (refine c_callv rfl rfl rfl (cL _) rfl rfl ?_)) | (apply ks_bi; ((refine s_call (c_len_str rfl rfl) rfl ?_))) | (apply ks_guard; ((refine sl_gd rfl rfl rfl rfl ?_; ((apply gd_t))))))) | (apply sw_seq) | (apply sw_skip) | (apply sw_ret) | (apply sw_block) | ((fail_if_success (refine g_reg (id := 8) ?_)); apply sw_region) | (refine sw_cd rfl ?_; (first | (apply gd_ft) | (apply gd_dec_t <;> intro hq <;> (try (exfalso; omega))))) | (apply at_thn) | (apply at_thn_ret)))
  all_goals (skip)
  · refine e_sv (by (exact .inr rfl)) rfl (List.nil_sublist _) ?_
    rfl
  have hsz : text.size ≤ 500 := by omega
  have h0 : text.extract 0 0 = ⟨#[]⟩ := by
    apply ByteArray.ext
    apply Array.toList_inj.1
    rw [ext_list]
    rfl
  refine sw_loopg (α := Nat × Scr × List Value × List Value × List Ent) (fun g => [(0, .string text), (3, .pointer (some ⟨b3, 0, none⟩)), (39, .int .i64 text.size), (40, .int .i64 g.1)]) (fun g => .blk b3 55 (wkC g.2.2.1 (negC nW1 x34) g.2.2.2.1 (octs kAll) (cliX (text.extract 0 g.1) true)) :: g.2.2.2.2)
    (fun g => g.1 ≤ text.size ∧ Fre g.2.1 ∧ CliS G g.2.2.2.2 g.2.1 g.2.2.1 g.2.2.2.1 ∧ plainT (text.extract 0 g.1)) (fun g => text.size - g.1) (0, newS 9 2, S2, P2, E2) ⟨Nat.zero_le _, f1, hE2, fun b hb => by rw [h0] at hb; cases hb⟩ (by repeat ((first | exact Le.nil _ | refine Le.cons (by (rfl)) ?_))) (fun w hw => by dsimp only; rw [h0]; exact hw) ?_
  clear hl2 ho2 hE2 h0 cL f1
  rintro ⟨i, s, S1, P1, E1⟩ ⟨hi, f, hE, hp⟩
  dsimp only at hi f hE hp ⊢
  have hbs : (text.extract 0 i).size = i := by rw [ByteArray.size_extract]; omega
  (obtain ⟨hl, ho⟩ := hc1 _ _ _ _ hE (text.extract 0 i))
  have hlb : Nat.beq (wkC S1 (negC nW1 x34) P1 (octs kAll) (cliX (text.extract 0 i) true)).length 613 = true := by rw [hl]; rfl
  by_cases hlt : i < text.size
  · obtain ⟨b, hb⟩ : ∃ b, text.data.toList[i]? = some b := ⟨_, List.getElem?_eq_getElem (show i < text.data.toList.length from by rw [Array.length_toList]; exact hlt)⟩
    have hv := nums_get text i b hb
    have hb8 : b.toNat < 256 := b.toNat_lt
    by_cases hc : 32 ≤ b.toNat ∧ b.toNat ≤ 126
    · have cK := fun (H : List Ent) (hh : ∀ w, Holds G H w → Holds G E1 w) => cK0 H s f S1 P1 E1 hE hh (text.extract 0 i) (by omega) b.toNat hc
      rw [ext_snoc text i b hb] at cK
      have f2 : Fre (actS s 1 b.toNat) := f.act (.inl ⟨rfl, by omega, width_c b.toNat hc⟩)
      have hp2 : plainT (text.extract 0 (i + 1)) := fun y hy => by
        rw [ext_list, List.take_add_one, hb] at hy
        rcases List.mem_append.1 hy with h | h
        · exact hp y (by rw [ext_list]; exact h)
        · rw [Option.toList_some, List.mem_singleton] at h; subst h; exact hc
      generalize actS s 1 b.toNat = s2 at *
      generalize hcc : b.toNat = c at *
      generalize hC : wkC S1 (negC nW1 x34) P1 (octs kAll) (cliX (text.extract 0 i) true) = C at *
      clear hp hb hbs cN0 cK0
      repeat' ((first | (apply g_sl; (first | (apply ks_nil; refine sl_nil ?_) | (apply ks_move; refine s_move rfl rfl ?_) | (apply ks_bin; refine s_bin rfl rfl rfl ?_; ((((refine bb_of rfl ?_))))) | (apply ks_asgn; refine s_asgn rfl rfl ?_) | (apply ks_pick; refine s_pick rfl rfl ?_; ((apply kp_f; refine pk_f rfl ?_))) | (apply ks_index; (((refine s_index (c_indexNumV hv rfl rfl rfl (by omega) (by omega)) rfl ?_)))) | (apply ks_guard; ((refine sl_gd rfl rfl rfl rfl ?_; (first | (apply gd_t) | (apply gd_dec_f <;> intro hq <;> (try (exfalso; omega))))))))) | (apply sw_seq) | (apply sw_skip) | (apply sw_block) | ((fail_if_success (refine g_reg (id := 12) ?_)); apply sw_region) | (refine sw_cd rfl ?_; ((apply gd_dec_t <;> intro hq <;> (try (exfalso; omega))))) | (apply at_thn)))
      all_goals (skip)
      repeat' ((first | (apply g_sl; (first | (apply ks_nil; refine sl_nil ?_) | (apply ks_move; refine s_move rfl rfl ?_) | (apply ks_bin; refine s_bin rfl rfl rfl ?_; ((first | (refine bb_sneG rfl ?_) | ((first | (apply kb_add; (refine bb_add ⟨by omega, by omega⟩ ?_)) | refine bb_of rfl ?_))))) | (apply ks_load; (((refine s_load rfl rfl ?_; refine ld_whole hlb ?_)))) | (apply ks_pick; refine s_pick rfl rfl ?_; ((apply kp_f; refine pk_f rfl ?_))) | (apply ks_fn; ((refine c_call rfl rfl rfl (cK _ (fun _ hw => hw.sub (by repeat ((first | exact List.Sublist.refl _ | refine List.Sublist.cons _ ?_))))) rfl rfl ?_; rintro _ _ ⟨S2, P2, E2, rfl, rfl, hE2⟩; (obtain ⟨hl2, ho2⟩ := hc1 _ _ _ _ hE2 (text.extract 0 (i + 1))); (generalize hC2 : wkC S2 (negC nW1 x34) P2 (octs kAll) (cliX (text.extract 0 (i + 1)) true) = C2 at *)))) | (apply ks_store; ((((refine c_storewV rfl rfl rfl rfl ho2 hl2 hl rfl ?_))))) | (apply ks_guard; ((refine sl_gd rfl rfl rfl rfl ?_; ((apply gd_t))))))) | (apply g_atso; refine so_back (k := 0) (fun _ hw => hw.sub (by repeat ((first | exact List.Sublist.refl _ | refine List.Sublist.cons _ ?_ | refine List.Sublist.trans ?_ (List.sublist_append_right _ _))))) ?_) | (apply g_sot; (first | (refine sot_skip rfl ?_) | (refine sot_take rfl rfl rfl rfl (by kernel_rfl) (by decide +kernel) (by decide +kernel) ?_; ((first | (apply ky_move; refine sy_val (y_move rfl rfl) ?_) | (apply ky_asgn; refine sy_val (y_assign rfl rfl) ?_) | (apply ky_extr; refine sy_val (y_extract rfl rfl rfl) ?_) | (apply ky_build; (refine sy_val (c_build rfl rfl rfl) ?_)) | (apply ky_conv; ((refine sy_val (c_conv (k := .i64) rfl rfl ⟨by omega, by omega⟩) ?_))) | (apply ky_index; (((refine sy_val (c_indexNumV hv rfl rfl rfl (by omega) (by omega)) ?_))))))) | (refine sot_next rfl ?_) | (refine so_done (by decide +kernel) ?_) | (refine sot_all (by kernel_rfl) ?_))) | (apply g_soa; (first | (refine soa_end rfl) | (refine soa_no (by decide +kernel) ?_) | (refine soa_yes rfl ?_ ?_))) | (apply sw_seq) | (apply sw_skip) | (apply sw_region) | (refine sw_cd rfl ?_; ((apply gd_ft))) | (apply at_thn) | (apply at_inb) | ((refine g_reg (id := 12) ?_; refine c_drawnoB (b := b3) ?_))))
      all_goals (skip)
      all_goals
        subst hC2
        exact at_meet (i + 1, s2, S2, P2, E2) ⟨⟨by omega, f2, hE2, hp2⟩, by show text.size - (i + 1) < text.size - i; omega⟩ (by repeat ((first | exact Le.nil _ | refine Le.cons (by (rfl)) ?_))) (fun _ hw => hw.sub (by repeat ((exact List.sublist_append_left _ _))))
    · clear cN0 cK0 hbs hp hb
      generalize hcc : b.toNat = c at *
      generalize hC : wkC S1 (negC nW1 x34) P1 (octs kAll) (cliX (text.extract 0 i) true) = C at *
      repeat' ((first | (apply g_sl; (first | (apply ks_nil; refine sl_nil ?_) | (apply ks_move; refine s_move rfl rfl ?_) | (apply ks_bin; refine s_bin rfl rfl rfl ?_; ((((refine bb_of rfl ?_))))) | (apply ks_asgn; refine s_asgn rfl rfl ?_) | (apply ks_pick; refine s_pick rfl rfl ?_; (first | (apply kp_t; refine pk_t rfl ?_) | (apply kp_f; refine pk_f rfl ?_))) | (apply ks_index; (((refine s_index (c_indexNumV hv rfl rfl rfl (by omega) (by omega)) rfl ?_)))) | (apply ks_guard; ((refine sl_gd rfl rfl rfl rfl ?_; (first | (apply gd_t) | (apply gd_tf) | (apply gd_dec_f <;> intro hq <;> (try (exfalso; omega))))))))) | (apply sw_seq) | (apply sw_skip) | (apply sw_ret) | (apply sw_block) | ((fail_if_success (refine g_reg (id := 12) ?_)); apply sw_region) | (refine sw_cd rfl ?_; (first | (apply gd_t) | (apply gd_dec_t <;> intro hq <;> (try (exfalso; omega))))) | (apply at_thn) | (apply at_thn_ret) | (apply at_inb_ret)))
      all_goals (skip)
      all_goals
        refine e_sv (by (exact .inr rfl)) rfl (List.nil_sublist _) ?_
        rfl
  · obtain rfl : text.size = i := by omega
    have cN := fun (H : List Ent) (hh : ∀ w, Holds G H w → Holds G E1 w) => cN0 H s f S1 P1 E1 hE hh (text.extract 0 text.size) (by omega) hp
    rw [ext_all] at *
    generalize hC : wkC S1 (negC nW1 x34) P1 (octs kAll) (cliX text true) = C at *
    simp only [empty_cat] at cN
    clear cN0 cK0
    repeat' ((first | (apply g_sl; (first | (apply ks_nil; refine sl_nil ?_) | (apply ks_move; refine s_move rfl rfl ?_) | (apply ks_bin; refine s_bin rfl rfl rfl ?_; ((first | (refine bb_cat (by show text.size + 2 ≤ _; omega) ?_) | (refine bb_seqT rfl ?_) | ((refine bb_of rfl ?_))))) | (apply ks_load; (((refine s_load rfl rfl ?_; refine ld_whole hlb ?_)))) | (apply ks_asgn; refine s_asgn rfl rfl ?_) | (apply ks_pick; refine s_pick rfl rfl ?_; ((apply kp_t; refine pk_t rfl ?_))) | (apply ks_extr; refine s_extr (y_extract rfl rfl rfl) rfl ?_) | (apply ks_build; (refine s_build (c_build rfl rfl rfl) rfl ?_)) | (apply ks_fn; ((refine c_call rfl rfl rfl (cN _ (fun _ hw => hw.sub (by repeat ((first | exact List.Sublist.refl _ | refine List.Sublist.cons _ ?_))))) rfl rfl ?_; rintro _ _ ⟨S2, P2, E2, rfl, rfl, hE2⟩))) | (apply ks_guard; ((refine sl_gd rfl rfl rfl rfl ?_; ((apply gd_t))))))) | (apply sw_seq) | (apply sw_ret) | (apply sw_exit) | (apply sw_region) | (refine sw_cd rfl ?_; ((apply gd_dec_t <;> intro hq <;> (try (exfalso; omega))))) | (apply at_thn) | (apply at_thn_exit) | (apply at_inb_exit)))
    all_goals (skip)
    refine e_sv (by (exact .inr rfl)) rfl (List.nil_sublist _) ?_
    rfl
end Go.Proofs.YtmbfechiallppaaGreatDoor
end
