/- Texts of this claim, merged: Sorts2 NvtQ AnsP Trm ArgP EnvP IdxG Ans Arg IndexByte Par2 Runes Runes2 Encode Par3 Par4 ParP Par5 Par6 ParQ ParR ParS Par8 Chk4 Cli1 Neg Slc7 Neg2 Cli2. -/
import Derived.Test.YtmbfechiallppaaGreatDoorTl3
import Derived.WalkKit
import Derived.WalkSpells
import Derived.WalkLawsBesides
import Derived.Handy
import Derived.Lib.Hide
import Derived.Laws.BitsAllLaws
import Derived.Deep.MidRow
import Derived.Deep.WholeRow
import Derived.BigQuiet
import Derived.Laws.CopyOwn
import Derived.Deep.QuietTactic
import Derived.Laws.AppendOwnNone
import Derived.Laws.MakeOwn
import Derived.Laws.IdiomStrings
import Derived.OrdersHeld
import Derived.Lib.SliceRun
import Derived.ChangeKeysEq
import Derived.Laws.CopyRow
import Derived.Test.YtmbfechiallppaaGreatDoorRows
import Derived.Lib.Replace
import Derived.Lib.IndexMore
import Derived.Lib.AppendStr
import Derived.ArgAppend
import Derived.Lib.Join
import Derived.Lib.IndexLaws
import Derived.Lib.SplitLaws
import Derived.Shelf.Strings.Builder1
import Derived.Shelf.Strings.Builder2
import Derived.Shelf.Strings.OnBuilder
import Derived.Shelf.Strings.Trim
import Derived.Shelf.Small.Utf8
import Derived.Shelf.Small.Strs
import Derived.Shelf.Strings.BuilderF
import Derived.Shelf.Strconv.Itoa0
import Derived.Shelf.Strconv.Itoa1
import Derived.Shelf.LaysM
import Derived.Shelf.Strconv.Itoa2
import Derived.Shelf.Strconv.Itoa3
import Derived.Shelf.Strings.Search1
import Derived.Shelf.Strings.Search2
import Derived.Shelf.Strings.Search3
import Derived.Shelf.Strings.Count
import Derived.Shelf.Strings.Shaped
import Derived.Shelf.Strings.LastIndex
import Derived.Shelf.Strings.Prefix
import Derived.Shelf.Strings.Split
import Derived.Shelf.Strings.Replace
import Derived.Shelf.Strings.Runes
import Derived.Shelf.Strings.AsciiSet
import Derived.Shelf.Bits.Mul64
import Derived.Shelf.Strings.Repeat
import Derived.Shelf.Unicode.DecodeSlow
import Derived.Shelf.Unicode.DecodeAny
import Derived.Test.YtmbfechiallppaaGreatDoorProg
import Derived.Lib.Bytealg
import Derived.StillTailTactics
import Derived.RegionTactic
import Derived.ChangeAlike
import Derived.Laws.RangeAny
import Derived.Maps.RangeRun
section
namespace Go.Proofs.YtmbfechiallppaaGreatDoor
open Go Go.RowKit Go.Fw Go.Sx
set_option maxRecDepth 100000
set_option maxHeartbeats 1000000
attribute [local irreducible] SW SL SQ AtQ SV SC BB LD PK Yields SO SOT SOA SY
theorem name_bad {s : ByteArray} {i : Nat} (hi : i < s.size) (h : ¬ (33 ≤ (nums s).getD i 0 ∧ (nums s).getD i 0 ≤ 126)) : nameB s = false := by
  unfold nameB
  rw [Bool.and_eq_false_iff]
  right
  rw [List.all_eq_false]
  have hl : i < (nums s).length := by rw [nums_length]; exact hi
  refine ⟨(nums s)[i], List.getElem_mem hl, ?_⟩
  have e : (nums s).getD i 0 = (nums s)[i] := by simp [List.getD, List.getElem?_eq_getElem hl]
  rw [e] at h
  simp [nameByte]
  omega
theorem name_ok {s : ByteArray} (h : ∀ i, i < s.size → 33 ≤ (nums s).getD i 0 ∧ (nums s).getD i 0 ≤ 126) : nameB s = decide (1 ≤ s.size ∧ s.size ≤ 40) := by
  unfold nameB
  have : (nums s).all nameByte = true := by
    rw [List.all_eq_true]
    intro x hx
    obtain ⟨i, hi, rfl⟩ := List.getElem_of_mem hx
    have := h i (by rw [← nums_length]; exact hi)
    have e : (nums s).getD i 0 = (nums s)[i] := by simp [List.getD, List.getElem?_eq_getElem hi]
    rw [e] at this
    simpa [nameByte] using this
  rw [this, Bool.and_true]
theorem name_sv (G : Ctx) (H : List Ent) (s : ByteArray) (hz : s.size ≤ maxLen) : SV Tryz.prog G 88 [.string s] H (.bool (nameB s)) := by
  have hz' : s.size ≤ 9223372036854775807 := hz
  clear hz
  refine sv_enter1 Tryz.func88 rfl rfl rfl rfl rfl ?_
  repeat' ((first | (apply g_sl; (first | (apply ks_nil; refine sl_nil ?_) | (apply ks_move; refine s_move rfl rfl ?_) | (apply ks_asgn; refine s_asgn rfl rfl ?_) | (apply ks_bi; (refine s_call (c_len_str rfl rfl) rfl ?_)))) | (apply sw_seq) | (apply sw_block) | (apply sw_region) | (apply at_thn)))
  refine sw_loopg (α := Nat) (fun i => [(0, .string s), (5, .int .i64 s.size), (6, .int .i64 i)]) (fun _ => H)
    (fun i => i ≤ s.size ∧ ∀ j, j < i → 33 ≤ (nums s).getD j 0 ∧ (nums s).getD j 0 ≤ 126) (fun i => s.size - i) 0 ⟨Nat.zero_le _, fun j hj => absurd hj (Nat.not_lt_zero _)⟩ (by repeat ((first | exact Le.nil _ | refine Le.cons (by (rfl)) ?_))) (fun _ hw => hw.subs (by repeat ((exact Subs.sub (by repeat ((exact List.Sublist.refl _))))))) ?_
  rintro i ⟨hi, hs⟩
  have Hs := Lib.hid hs
  clear hs
  repeat' ((first | (apply g_sl; (first | (apply ks_nil; refine sl_nil ?_) | (apply ks_move; refine s_move rfl rfl ?_) | (apply ks_bin; refine s_bin rfl rfl rfl ?_; ((first | (refine bb_sne ?_) | ((first | (apply kb_add; (refine bb_add ⟨by omega, by omega⟩ ?_)) | refine bb_of rfl ?_))))) | (apply ks_asgn; refine s_asgn rfl rfl ?_) | (apply ks_pick; refine s_pick rfl rfl ?_; (first | (apply kp_t; refine pk_t rfl ?_) | (apply kp_f; refine pk_f rfl ?_))) | (apply ks_index; (((refine s_index (c_indexNum rfl rfl rfl (by omega) (by omega)) rfl ?_)))) | (apply ks_bi; ((refine s_call (c_len_str rfl rfl) rfl ?_))) | (apply ks_guard; ((refine sl_gd rfl rfl rfl rfl ?_; (first | (apply gd_t) | (apply gd_ft) | (apply gd_tf) | (apply gd_dec_f <;> intro hq <;> (try (exfalso; omega))) | (apply gd_not_t <;> intro hq))))))) | (apply sw_seq) | (apply sw_skip) | (apply sw_ret) | (apply sw_exit) | (apply sw_block) | (apply sw_region) | (refine sw_cd rfl ?_; (first | (apply gd_t) | (apply gd_dec_t <;> intro hq <;> (try (exfalso; omega))))) | (apply at_thn) | (apply at_thn_ret) | (apply at_thn_exit) | (apply at_inb) | (apply at_inb_ret) | (apply at_inb_exit)))
  · refine e_sv (by (exact .inr rfl)) rfl (by repeat ((exact List.Sublist.refl _))) ?_
    rw [name_bad (i := i) (by omega) (by rw [Int.toNat_natCast] at hq; omega)]; rfl
  · refine at_meet (i + 1) ⟨⟨by omega, fun j hj => ?_⟩, by omega⟩ (by repeat ((first | exact Le.nil _ | refine Le.cons (by (rfl)) ?_))) (fun _ hw => hw.subs (by repeat ((exact Subs.sub (by repeat ((exact List.Sublist.refl _)))))))
    rcases Nat.lt_or_ge j i with h | h
    · exact Hs.out j h
    · obtain rfl : j = i := by omega
      rw [Int.toNat_natCast] at *
      omega
  · refine e_sv (by (exact .inr rfl)) rfl (by repeat ((exact List.Sublist.refl _))) ?_
    rw [name_bad (i := i) (by omega) (by rw [Int.toNat_natCast] at hq; omega)]; rfl
  · obtain rfl : i = s.size := by omega
    refine e_sv (by (exact .inr rfl)) rfl (by repeat ((exact List.Sublist.refl _))) ?_
    rw [name_ok Hs.out]
    refine congrArg Value.bool ?_
    have h1 : 1 ≤ s.size := Nat.pos_of_ne_zero fun h0 => of_decide_eq_false (by assumption) (size_nil h0)
    rw [decide_eq_decide]
    omega
  · obtain rfl : i = s.size := by omega
    refine e_sv (by (exact .inr rfl)) rfl (by repeat ((exact List.Sublist.refl _))) ?_
    rw [name_ok Hs.out]
    have h1 : s = ⟨#[]⟩ := of_decide_eq_true (by assumption)
    rw [h1]
    rfl
theorem strs_at (xs : List ByteArray) (k : Nat) (h : k < xs.length) : (strs xs)[(k : Int).toNat * 1]? = some (.string (xs.getD k ByteArray.empty)) := by
  simp [strs, List.getD, List.getElem?_eq_getElem h]
theorem piece_strs (ts : List ByteArray) (q m : Nat) (l h : Int) (hl : l = q) (hh : h = q + m) : ((strs ts).drop (l.toNat * 1)).take ((h.toNat - l.toNat) * 1) = strs ((ts.drop q).take m) := by
  rw [show l.toNat * 1 = q from by omega, show (h.toNat - l.toNat) * 1 = m from by omega]
  simp [strs, List.map_take, List.map_drop]
/-- Sorts as they lie. -/
abbrev sortsV (a : Option Addr) (n c : Nat) (t : Int) : Value := .agg #[.slice a n c, .int .i64 t]
theorem hasStr_sv (G : Ctx) (H : List Ent) (xs : List ByteArray) (y : ByteArray) {vs : List Value} (a : Option Addr) (n c : Nat) [h1 : RdC G H a vs] (hv : vs = strs xs) (hn : n = xs.length) (hm : xs.length ≤ maxLen) : SV Tryz.prog G 89 [.slice a n c, .string y] H (.bool (idxStrsIn xs y)) := by
  subst hv
  exact sv_of_calls (callee_of Tryz.func89 rfl rfl) fun w hw => hasStr_any xs y a n c w hn hm (h1.here w hw)
theorem sortsCheck_sv (G : Ctx) (H : List Ent) (l : List ByteArray) (a : Option Addr) (n c : Nat) (t : Int) (hn : n = l.length) (hz : ∀ x ∈ l, x.size ≤ maxLen) (hm : n ≤ maxLen) [RdC G H a (strs l)] [hC : CapC G H a n c] : SV Tryz.prog G 49 [sortsV a n c t] H (.int .i64 (sortsE l t)) := by
  refine sv_here (callee_of Tryz.func49 rfl rfl) fun w0 hw0 => ?_
  have hnc := hC.here w0 hw0
  clear hw0 hC
  have hm' : n ≤ 9223372036854775807 := hm
  have hx : ∀ k, k < n → (strs l)[(k : Int).toNat * 1]? = some (.string (l.getD k ByteArray.empty)) := fun k hk => strs_at l k (by rw [← hn]; exact hk)
  have hlx : (strs l).length = n * 1 := by simp [strs, hn]
  have htk := fun m (h : m ≤ n) => (show m = ((l.drop 0).take m).length from by simp [← hn]; omega)
  have hzk : ∀ k, k < n → (l.getD k ByteArray.empty).size ≤ maxLen := fun k hk => by
    have hk' : k < l.length := by rw [← hn]; exact hk
    have e : l.getD k ByteArray.empty = l[k] := by simp [List.getD, List.getElem?_eq_getElem hk']
    rw [e]; exact hz _ (List.getElem_mem hk')
  have hok : ∀ k, k < n → okAt l k = (nameB (l.getD k ByteArray.empty) && !idxStrsIn (l.take k) (l.getD k ByteArray.empty)) := fun k hk => okAt_iff l k (by rw [← hn]; exact hk)
  have Hn := Lib.hid hn
  have Hx := Lib.hid hx
  have Htk := Lib.hid htk
  have Hzk := Lib.hid hzk
  have Hok := Lib.hid hok
  have Hm := Lib.hid hm
  clear hn hx htk hzk hok hm hz
  refine sv_enter1 Tryz.func49 rfl rfl rfl rfl rfl ?_
  repeat' ((first | (apply g_sl; (first | (apply ks_nil; refine sl_nil ?_) | (apply ks_move; refine s_move rfl rfl ?_) | (apply ks_bin; refine s_bin rfl rfl rfl ?_; (((refine bb_of rfl ?_)))) | (apply ks_load; ((refine s_load rfl rfl ?_; (refine ld_cell rfl ?_)))) | (apply ks_asgn; refine s_asgn rfl rfl ?_) | (apply ks_pick; refine s_pick rfl rfl ?_; (first | (apply kp_t; refine pk_t rfl ?_) | (apply kp_f; refine pk_f rfl ?_))) | (apply ks_field; (refine s_field (c_field0 rfl rfl) rfl ?_)) | (apply ks_bi; (refine s_call (c_len rfl rfl) rfl ?_)) | (apply ks_box; refine c_box rfl rfl rfl rfl rfl rfl (fun _ => ?_)) | (apply ks_guard; ((refine sl_gd rfl rfl rfl rfl ?_; (first | (apply gd_t) | (apply gd_tf) | (apply gd_dec_f <;> intro hq <;> (try (exfalso; omega))))))))) | (apply sw_seq) | (apply sw_skip) | (apply sw_ret) | (apply sw_block) | (apply sw_region) | (refine sw_cd rfl ?_; (first | (apply gd_t) | (apply gd_dec_t <;> intro hq <;> (try (exfalso; omega))))) | (apply at_thn) | (apply at_thn_ret)))
  · refine e_sv (by (exact .inr rfl)) rfl (by repeat ((first | exact List.Sublist.refl _ | refine List.Sublist.cons _ ?_))) ?_
    rw [sortsE_len (by rw [← Hn.out]; omega)]; rfl
  · rename_i b h1
    refine sw_loopg (α := Nat) (fun i => [(1, .pointer (some ⟨b, 0, none⟩)), (16, .slice a n c), (17, .int .i64 n), (18, .int .i64 i)]) (fun _ => .blk b 46 [.slice a n c, .int .i64 t] :: H)
      (fun i => i ≤ n ∧ okAll l i = true) (fun i => n - i) 0 ⟨Nat.zero_le _, okAll_zero l⟩ (by repeat ((first | exact Le.nil _ | refine Le.cons (by (rfl)) ?_))) (fun _ hw => hw.subs (by repeat ((first | refine Subs.cons (by repeat constructor) ?_ | exact Subs.sub (by repeat ((exact List.Sublist.refl _))))))) ?_
    rintro i ⟨hi, ho⟩
    by_cases hlt : (i : Int) < n
    · have hx := Hx.out i (by omega)
      have hok := Hok.out i (by omega)
      have Hok1 := Lib.hid hok
      clear hok
      repeat' ((first | (apply g_sl; (first | (apply ks_nil; refine sl_nil ?_) | (apply ks_move; refine s_move rfl rfl ?_) | (apply ks_bin; refine s_bin rfl rfl rfl ?_; ((((first | (apply kb_add; (refine bb_add ⟨by omega, by omega⟩ ?_)) | refine bb_of rfl ?_))))) | (apply ks_load; (first | (refine s_load rfl rfl ?_; (refine ld_cell rfl ?_)) | ((refine s_load rfl rfl ?_; refine ld_elem hx ?_)))) | (apply ks_asgn; refine s_asgn rfl rfl ?_) | (apply ks_pick; refine s_pick rfl rfl ?_; (first | (apply kp_t; refine pk_t rfl ?_) | (apply kp_f; refine pk_f rfl ?_))) | (apply ks_field; (refine s_field (c_field0 rfl rfl) rfl ?_)) | (apply ks_un; refine s_un (y_un rfl rfl rfl) rfl ?_) | (apply ks_indexA; (((refine s_indexA (c_indexAddr rfl rfl rfl hlx (by omega) (by omega)) rfl ?_)))) | (apply ks_fn; ((first | refine c_callv rfl rfl rfl (name_sv _ _ _ (Hzk.out i (by omega))) rfl rfl ?_ | refine c_callv rfl rfl rfl (hasStr_sv _ _ ((l.drop 0).take i) _ _ _ _ (piece_strs l 0 i _ _ rfl (by omega)) (by have := Htk.out i (by omega); omega) (by have := Htk.out i (by omega); have := Hm.out; omega)) rfl rfl ?_))) | (apply ks_slice; ((refine c_sliceSl (Hr := H) rfl rfl rfl rfl rfl RdC.here hlx (by omega) (by omega) (by omega) (by omega) rfl rfl (fun _ _ => ?_)))) | (apply ks_guard; ((refine sl_gd rfl rfl rfl rfl ?_; (first | (apply gd_t) | (apply gd_tf) | (apply gd_not_f <;> intro hq))))))) | (apply sw_seq) | (apply sw_skip) | (apply sw_ret) | (apply sw_block) | (apply sw_region) | (refine sw_cd rfl ?_; (first | (apply gd_t) | (apply gd_dec_t <;> intro hq <;> (try (exfalso; omega))) | (apply gd_raw_t <;> intro hq))) | (apply at_thn) | (apply at_thn_ret) | (apply at_inb) | (apply at_inb_ret)))
      all_goals first
        | (have ho2 : okAt l i = false := by rw [Hok1.out, show nameB (l.getD i ByteArray.empty) = false from by assumption]; rfl
           refine e_sv (by (exact .inr rfl)) rfl (by repeat ((first | exact List.Sublist.refl _ | refine List.Sublist.cons _ ?_))) ?_
           rw [sortsE_bad (by rw [← Hn.out]; omega) (okAll_bad ho2 (by rw [← Hn.out]; omega))]; rfl)
        | (have ho2 : okAt l i = false := by rw [Hok1.out, show idxStrsIn (l.take i) (l.getD i ByteArray.empty) = true from by assumption]; simp
           refine e_sv (by (exact .inr rfl)) rfl (by repeat ((first | exact List.Sublist.refl _ | refine List.Sublist.cons _ ?_))) ?_
           rw [sortsE_bad (by rw [← Hn.out]; omega) (okAll_bad ho2 (by rw [← Hn.out]; omega))]; rfl)
        | (have ho2 : okAt l i = true := by rw [Hok1.out, show nameB (l.getD i ByteArray.empty) = true from by assumption, show idxStrsIn (l.take i) (l.getD i ByteArray.empty) = false from by assumption]; rfl
           exact at_meet (i + 1) ⟨⟨by omega, by rw [okAll_succ, ho, ho2]; rfl⟩, by omega⟩ (by repeat (first | exact Le.nil _ | refine Le.cons (by first | rfl | (exact congrArg some (congrArg (Value.int _) (by omega)))) ?_)) (fun _ hw => hw.subs (by repeat (first | refine Subs.cons (by repeat constructor) ?_ | exact Subs.sub (by repeat (first | exact List.Sublist.refl _ | exact List.nil_sublist _ | refine List.Sublist.cons _ ?_))))))
    · repeat' ((first | (apply g_sl; (first | (apply ks_nil; refine sl_nil ?_) | (apply ks_move; refine s_move rfl rfl ?_) | (apply ks_bin; refine s_bin rfl rfl rfl ?_; (((refine bb_of rfl ?_)))) | (apply ks_load; ((refine s_load rfl rfl ?_; (refine ld_cell rfl ?_)))) | (apply ks_asgn; refine s_asgn rfl rfl ?_) | (apply ks_pick; refine s_pick rfl rfl ?_; (first | (apply kp_t; refine pk_t rfl ?_) | (apply kp_f; refine pk_f rfl ?_))) | (apply ks_field; (refine s_field (c_field0 rfl rfl) rfl ?_)) | (apply ks_bi; (refine s_call (c_len rfl rfl) rfl ?_)) | (apply ks_guard; ((refine sl_gd rfl rfl rfl rfl ?_; (first | (apply gd_t) | (apply gd_tf) | (apply gd_dec_f <;> intro hq <;> (try (exfalso; omega))))))))) | (apply sw_seq) | (apply sw_skip) | (apply sw_ret) | (apply sw_exit) | (apply sw_region) | (refine sw_cd rfl ?_; (first | (apply gd_t) | (apply gd_dec_t <;> intro hq <;> (try (exfalso; omega))))) | (apply at_thn) | (apply at_thn_ret) | (apply at_thn_exit) | (apply at_inb_exit)))
      all_goals obtain rfl : i = n := by omega
      all_goals rw [Hn.out] at ho
      all_goals refine e_sv (by (exact .inr rfl)) rfl (by repeat ((first | exact List.Sublist.refl _ | refine List.Sublist.cons _ ?_))) ?_
      all_goals first
        | (rw [sortsE_at (by rw [← Hn.out]; omega) ho (by rw [← Hn.out]; omega)]; rfl)
        | (rw [sortsE_ok (by rw [← Hn.out]; omega) ho (by rw [← Hn.out]; omega)]; rfl)
  · refine e_sv (by (exact .inr rfl)) rfl (by repeat ((first | exact List.Sublist.refl _ | refine List.Sublist.cons _ ?_))) ?_
    rw [sortsE_len (by rw [← Hn.out]; omega)]; rfl
end Go.Proofs.YtmbfechiallppaaGreatDoor
end
section
namespace Go.Fw
open Go Go.Lib
theorem index_split (c : UInt8) : ∀ (a b : List UInt8), ¬ c ∈ a → index (a ++ c :: b) [c] = ((a.length : Nat) : Int)
  | [], b, _ => by
    show index (c :: b) [c] = 0
    unfold index
    simp
  | x :: a, b, h => by
    have h1 : ¬ c = x := fun e => h (by rw [e]; exact List.mem_cons_self)
    have ih := index_split c a b fun e => h (List.mem_cons_of_mem _ e)
    show index (x :: (a ++ c :: b)) [c] = _
    unfold index
    have hp : ([c].isPrefixOf (x :: (a ++ c :: b))) = false := by simp only [List.isPrefixOf, Bool.and_true]; exact beq_eq_false_iff_ne.2 h1
    rw [hp, ih]
    simp
theorem index_not (c : UInt8) : ∀ (l : List UInt8), ¬ c ∈ l → index l [c] = -1
  | [], _ => rfl
  | x :: l, h => by
    have h1 : ¬ c = x := fun e => h (by rw [e]; exact List.mem_cons_self)
    have ih := index_not c l fun e => h (List.mem_cons_of_mem _ e)
    unfold index
    have hp : ([c].isPrefixOf (x :: l)) = false := by simp only [List.isPrefixOf, Bool.and_true]; exact beq_eq_false_iff_ne.2 h1
    rw [hp, ih]
    rfl
/-- A string of a list of bytes. -/
abbrev ba (l : List UInt8) : ByteArray := ⟨l.toArray⟩
end Go.Fw
end
section
namespace Go.Proofs.YtmbfechiallppaaGreatDoor
open Go Go.RowKit Go.Fw Go.Sx
/-- The words between marks. -/
def wordsA (c : UInt8) (acc : List UInt8) : List UInt8 → List (List UInt8)
  | [] => [acc]
  | b :: l => if b = c then acc :: wordsA c [] l else wordsA c (acc ++ [b]) l
theorem wordsA_no (c : UInt8) : ∀ (l acc : List UInt8), ¬ c ∈ l → wordsA c acc l = [acc ++ l]
  | [], acc, _ => by simp [wordsA]
  | b :: l, acc, h => by
    have hb : ¬ b = c := fun e => h (e ▸ List.mem_cons_self)
    rw [wordsA, if_neg hb, wordsA_no c l _ (fun x => h (List.mem_cons_of_mem _ x)), List.append_assoc]; rfl
theorem wordsA_split (c : UInt8) : ∀ (a b acc : List UInt8), ¬ c ∈ a → wordsA c acc (a ++ c :: b) = (acc ++ a) :: wordsA c [] b
  | [], b, acc, _ => by rw [List.nil_append, wordsA, if_pos rfl, List.append_nil]
  | x :: a, b, acc, h => by
    have hb : ¬ x = c := fun e => h (e ▸ List.mem_cons_self)
    rw [List.cons_append, wordsA, if_neg hb, wordsA_split c a b _ (fun y => h (List.mem_cons_of_mem _ y)), List.append_assoc]; rfl
theorem split_words (c : UInt8) : ∀ (k : Nat) (l : List UInt8), Lib.count l [c] = k → Lib.splitK [c] 0 k l = wordsA c [] l := by
  intro k
  induction k with
  | zero =>
    intro l h
    have hn : ¬ c ∈ l := fun hm => by
      obtain ⟨a, b, rfl, ha⟩ := List.eq_append_cons_of_mem hm
      have := Lib.count_hit (by simp) (index_split c a b ha)
      omega
    rw [Lib.splitK, wordsA_no c l [] hn]; rfl
  | succ k ih =>
    intro l h
    by_cases hm : c ∈ l
    · obtain ⟨a, b, rfl, ha⟩ := List.eq_append_cons_of_mem hm
      have hi := index_split c a b ha
      have hc := Lib.count_hit (by simp) hi
      have e1 : (a ++ c :: b).drop (a.length + 1) = b := by rw [List.drop_length_add_append]; rfl
      have hlc : [c].length = 1 := rfl
      rw [hlc, e1] at hc
      rw [Lib.splitK, hi, if_neg (by simp), hlc, Nat.add_zero, Int.toNat_natCast, e1, List.take_left, ih b (by omega), wordsA_split c a b [] ha, List.nil_append]
    · have h2 := Lib.count_miss (index_not c l hm)
      omega
theorem words_len (c : UInt8) : ∀ (l acc w : List UInt8), w ∈ wordsA c acc l → w.length ≤ acc.length + l.length
  | [], acc, w, h => by simp only [wordsA, List.mem_singleton] at h; subst h; exact Nat.le_refl _
  | b :: l, acc, w, h => by
    unfold wordsA at h
    split at h
    · rcases List.mem_cons.1 h with rfl | h
      · omega
      · have := words_len c l [] w h; simp at this ⊢; omega
    · have := words_len c l _ w h; simp at this ⊢; omega
def baL (l : List UInt8) : ByteArray := ⟨l.toArray⟩
theorem baL_data (d : ByteArray) : baL d.data.toList = d := by cases d; rfl
def wordsB (c : UInt8) (d : ByteArray) : List ByteArray := (wordsA c [] d.data.toList).map baL
theorem splitB_words (c : UInt8) (d : ByteArray) : Lib.splitB ⟨#[c]⟩ 0 (Lib.countB d ⟨#[c]⟩) d = wordsB c d := by
  have h := Lib.splitB_data ⟨#[c]⟩ 0 (Lib.countB d ⟨#[c]⟩) d
  have h2 := split_words c (Lib.countB d ⟨#[c]⟩) d.data.toList rfl
  unfold wordsB
  rw [← h2, show [c] = (⟨#[c]⟩ : ByteArray).data.toList from rfl, ← h, List.map_map]
  conv => lhs; rw [← List.map_id (Lib.splitB ⟨#[c]⟩ 0 (Lib.countB d ⟨#[c]⟩) d)]
  exact List.map_congr_left fun x _ => (baL_data x).symm
theorem countB_words (c : UInt8) (d : ByteArray) : Lib.countB d ⟨#[c]⟩ + 1 = (wordsB c d).length := by
  rw [← splitB_words, Lib.splitB_all ⟨#[c]⟩ (Nat.le_refl 1) 0 _ d rfl]
end Go.Proofs.YtmbfechiallppaaGreatDoor
end
section
namespace Go.Sx
open Go Go.RowKit Go.Fw
/-- Is a byte in a set? -/
def inS (cut : ByteArray) (x : Int) : Bool := cut.data.toList.contains (UInt8.ofNat x.toNat)
def setC (cut : ByteArray) : List Value := (Lib.setCells cut.data.toList).toList
theorem setC_at (cut : ByteArray) (x : Int) (h : 0 ≤ x ∧ x ≤ 255) : (setC cut)[x.toNat]? = some (.bool (inS cut x)) := by
  unfold setC inS
  have h1 := Lib.setCells_at cut.data.toList (UInt8.ofNat x.toNat)
  have h2 : (UInt8.ofNat x.toNat).toNat = x.toNat := by simp; omega
  rw [h2] at h1
  rw [Array.getElem?_toList]
  exact h1
theorem setC_len (cut : ByteArray) : (setC cut).length = 256 := by unfold setC; rw [Array.length_toList, Lib.setCells_size]
def tlN (p : Int → Bool) (l : List Int) : List Int := l.dropWhile p
def trN (p : Int → Bool) (l : List Int) : List Int := (l.reverse.dropWhile p).reverse
attribute [irreducible] setC
end Go.Sx
namespace Go.Proofs.YtmbfechiallppaaGreatDoor
open Go Go.RowKit Go.Fw Go.Sx
set_option maxRecDepth 100000
set_option maxHeartbeats 1000000
attribute [local irreducible] SW SL SQ AtQ SV SC BB LD PK Yields SO SOT SOA SY
theorem setHas_sv (G : Ctx) (H : List Ent) (b : Nat) {t : TypeId} (cut : ByteArray) [hb : HasBlk H b t (setC cut)] (x : Int) (hx : 0 ≤ x ∧ x ≤ 255) : SV Tryz.prog G 244 [.pointer (some ⟨b, 0, none⟩), .int .u8 x] H (.bool (inS cut x)) := by
  have hv := setC_at cut x hx
  have hv : (setC cut)[0 + x.toNat * 1]? = some (.bool (inS cut x)) := by rw [show 0 + x.toNat * 1 = x.toNat from by omega]; exact hv
  refine sv_enter2 Tryz.func244 rfl rfl rfl rfl rfl ?_
  repeat' ((first | (apply g_sl; (first | (apply ks_nil; refine sl_nil ?_) | (apply ks_move; refine s_move rfl rfl ?_) | (apply ks_load; (((refine s_load rfl rfl ?_; refine ld_cell hv ?_)))) | (apply ks_asgn; refine s_asgn rfl rfl ?_) | (apply ks_indexA; (((refine s_indexA (c_indexP rfl rfl rfl (by omega) (by omega)) rfl ?_)))) | (apply ks_nilc; refine s_nilc (y_nilCheck rfl rfl) rfl ?_))) | (apply sw_seq) | (apply sw_ret) | (apply sw_region) | (apply at_thn)))
  refine e_sv (by (exact .inr rfl)) rfl (by repeat ((exact List.Sublist.refl _))) ?_
  rfl
theorem trimL_sv (G : Ctx) (H : List Ent) (b : Nat) {t : TypeId} (cut : ByteArray) [hb : HasBlk H b t (setC cut)] (L : List Int) (ho : ∀ x ∈ L, 0 ≤ x ∧ x ≤ 255) (hz : L.length ≤ 4000000) : SV Tryz.prog G 198 [.string (strOfNums L), .pointer (some ⟨b, 0, none⟩)] H (.string (strOfNums (tlN (inS cut) L))) := by
  have cH := fun x hx => setHas_sv G H b cut x hx
  refine sv_enter2 Tryz.func198 rfl rfl rfl rfl rfl ?_
  repeat' ((first | (apply g_sl; (first | (apply ks_nil; refine sl_nil ?_) | (apply ks_asgn; refine s_asgn rfl rfl ?_))) | (apply sw_seq) | (apply sw_block) | (apply sw_region) | (apply at_thn)))
  refine sw_loopg (α := List Int) (fun l => [(0, .string (strOfNums l)), (1, .pointer (some ⟨b, 0, none⟩))]) (fun _ => H)
    (fun l => tlN (inS cut) l = tlN (inS cut) L ∧ l.length ≤ 4000000 ∧ ∀ x ∈ l, 0 ≤ x ∧ x ≤ 255) (fun l => l.length) L ⟨rfl, hz, ho⟩ (by repeat ((first | exact Le.nil _ | refine Le.cons (by (rfl)) ?_))) (fun _ hw => hw.subs (by repeat ((exact Subs.sub (by repeat ((exact List.Sublist.refl _))))))) ?_
  rintro l ⟨hl, hlz, hlo⟩
  have hsz : (strOfNums l).size = l.length := strOfNums_size l
  cases l with
  | nil =>
    simp only [List.length_nil] at hsz
    repeat' ((first | (apply g_sl; (first | (apply ks_nil; refine sl_nil ?_) | (apply ks_move; refine s_move rfl rfl ?_) | (apply ks_bin; refine s_bin rfl rfl rfl ?_; (((refine bb_of rfl ?_)))) | (apply ks_asgn; refine s_asgn rfl rfl ?_) | (apply ks_bi; (refine s_call (c_len_str rfl rfl) rfl ?_)))) | (apply sw_seq) | (apply sw_ret) | (apply sw_exit) | (apply sw_region) | (refine sw_cd rfl ?_; ((apply gd_ft))) | (apply at_thn) | (apply at_thn_exit) | (apply at_inb_exit)))
    all_goals (skip)
    refine e_sv (by (exact .inr rfl)) rfl (by repeat ((exact List.Sublist.refl _))) ?_
    rw [← hl]
    rfl
  | cons x r =>
    simp only [List.length_cons] at hsz hlz
    have hn : nums (strOfNums (x :: r)) = x :: r := nums_strOf hlo
    have hv : (nums (strOfNums (x :: r))).getD (0 : Int).toNat 0 = x := by rw [hn]; rfl
    have hx := hlo x List.mem_cons_self
    have hsl : (strOfNums (x :: r)).extract (1 : Int).toNat (((strOfNums (x :: r)).size : Nat) : Int).toNat = strOfNums r := nums_inj (by
      rw [nums_extract, hn, nums_strOf (fun y hy => hlo y (List.mem_cons_of_mem _ hy)), hsz]
      exact List.take_of_length_le (by show r.length ≤ _; simp))
    have c1 := cH x hx
    have Hl := Lib.hid hl
    have Hlo := Lib.hid hlo
    clear hl hlo cH hn
    cases hp : inS cut x with
    | true =>
      rw [hp] at c1
      repeat' ((first | (apply g_sl; (first | (apply ks_nil; refine sl_nil ?_) | (apply ks_move; refine s_move rfl rfl ?_) | (apply ks_bin; refine s_bin rfl rfl rfl ?_; ((((refine bb_of rfl ?_))))) | (apply ks_asgn; refine s_asgn rfl rfl ?_) | (apply ks_un; refine s_un (y_un rfl rfl rfl) rfl ?_) | (apply ks_index; (((refine s_index (c_indexNumV hv rfl rfl rfl (by omega) (by omega)) rfl ?_)))) | (apply ks_fn; (refine c_callv rfl rfl rfl (c1) rfl rfl ?_)) | (apply ks_bi; ((refine s_call (c_len_str rfl rfl) rfl ?_))) | (apply ks_slice; (((refine s_slice (c_sliceStrV hsl rfl rfl rfl rfl (by omega) (by omega) (by omega)) rfl ?_)))))) | (apply sw_seq) | (apply sw_skip) | (apply sw_block) | (apply sw_region) | (refine sw_cd rfl ?_; (first | (apply gd_ft) | (apply gd_dec_t <;> intro hq <;> (try (exfalso; omega))))) | (apply at_thn) | (apply at_inb)))
      all_goals (skip)
      refine at_meet r ⟨⟨?_, by omega, fun y hy => Hlo.out y (List.mem_cons_of_mem _ hy)⟩, by simp⟩ (by repeat ((first | exact Le.nil _ | refine Le.cons (by (rfl)) ?_))) (fun _ hw => hw.subs (by repeat ((exact Subs.sub (by repeat ((exact List.Sublist.refl _)))))))
      rw [← Hl.out]
      unfold tlN
      rw [List.dropWhile_cons, hp]
      rfl
    | false =>
      rw [hp] at c1
      repeat' ((first | (apply g_sl; (first | (apply ks_nil; refine sl_nil ?_) | (apply ks_move; refine s_move rfl rfl ?_) | (apply ks_bin; refine s_bin rfl rfl rfl ?_; ((((refine bb_of rfl ?_))))) | (apply ks_asgn; refine s_asgn rfl rfl ?_) | (apply ks_un; refine s_un (y_un rfl rfl rfl) rfl ?_) | (apply ks_index; (((refine s_index (c_indexNumV hv rfl rfl rfl (by omega) (by omega)) rfl ?_)))) | (apply ks_fn; (refine c_callv rfl rfl rfl (c1) rfl rfl ?_)) | (apply ks_bi; ((refine s_call (c_len_str rfl rfl) rfl ?_))))) | (apply sw_seq) | (apply sw_skip) | (apply sw_ret) | (apply sw_exit) | (apply sw_block) | (apply sw_region) | (refine sw_cd rfl ?_; (first | (apply gd_t) | (apply gd_dec_t <;> intro hq <;> (try (exfalso; omega))))) | (apply at_thn) | (apply at_thn_exit) | (apply at_inb_exit) | refine at_inb_pass rfl ?_))
      all_goals (skip)
      refine e_sv (by (exact .inr rfl)) rfl (by repeat ((exact List.Sublist.refl _))) ?_
      rw [← Hl.out]
      unfold tlN
      rw [List.dropWhile_cons, hp]
      rfl
theorem trimR_sv (G : Ctx) (H : List Ent) (b : Nat) {t : TypeId} (cut : ByteArray) [hb : HasBlk H b t (setC cut)] (L : List Int) (ho : ∀ x ∈ L, 0 ≤ x ∧ x ≤ 255) (hz : L.length ≤ 4000000) : SV Tryz.prog G 199 [.string (strOfNums L), .pointer (some ⟨b, 0, none⟩)] H (.string (strOfNums (trN (inS cut) L))) := by
  have cH := fun x hx => setHas_sv G H b cut x hx
  refine sv_enter2 Tryz.func199 rfl rfl rfl rfl rfl ?_
  repeat' ((first | (apply g_sl; (first | (apply ks_nil; refine sl_nil ?_) | (apply ks_asgn; refine s_asgn rfl rfl ?_))) | (apply sw_seq) | (apply sw_block) | (apply sw_region) | (apply at_thn)))
  refine sw_loopg (α := List Int) (fun l => [(0, .string (strOfNums l.reverse)), (1, .pointer (some ⟨b, 0, none⟩))]) (fun _ => H)
    (fun l => trN (inS cut) l.reverse = trN (inS cut) L ∧ l.length ≤ 4000000 ∧ ∀ x ∈ l, 0 ≤ x ∧ x ≤ 255) (fun l => l.length) L.reverse ⟨by rw [List.reverse_reverse], by rw [List.length_reverse]; exact hz, fun x hx => ho x (List.mem_reverse.1 hx)⟩ (by simp only [List.reverse_reverse]; exact (by repeat ((first | exact Le.nil _ | refine Le.cons (by (rfl)) ?_)))) (fun _ hw => hw.subs (by repeat ((exact Subs.sub (by repeat ((exact List.Sublist.refl _))))))) ?_
  rintro l ⟨hl, hlz, hlo⟩
  have hsz : (strOfNums l.reverse).size = l.length := by rw [strOfNums_size, List.length_reverse]
  cases l with
  | nil =>
    simp only [List.length_nil] at hsz
    repeat' ((first | (apply g_sl; (first | (apply ks_nil; refine sl_nil ?_) | (apply ks_move; refine s_move rfl rfl ?_) | (apply ks_bin; refine s_bin rfl rfl rfl ?_; (((refine bb_of rfl ?_)))) | (apply ks_asgn; refine s_asgn rfl rfl ?_) | (apply ks_bi; (refine s_call (c_len_str rfl rfl) rfl ?_)))) | (apply sw_seq) | (apply sw_ret) | (apply sw_exit) | (apply sw_region) | (refine sw_cd rfl ?_; ((apply gd_ft))) | (apply at_thn) | (apply at_thn_exit) | (apply at_inb_exit)))
    all_goals (skip)
    refine e_sv (by (exact .inr rfl)) rfl (by repeat ((exact List.Sublist.refl _))) ?_
    rw [← hl]
    rfl
  | cons x r =>
    simp only [List.length_cons] at hsz hlz
    have hn : nums (strOfNums (x :: r).reverse) = (x :: r).reverse := nums_strOf (fun y hy => hlo y (List.mem_reverse.1 hy))
    have hv : (nums (strOfNums (x :: r).reverse)).getD ((((strOfNums (x :: r).reverse).size : Nat) : Int) - 1).toNat 0 = x := by
      rw [hn, hsz, show (((r.length + 1 : Nat) : Int) - 1).toNat = r.length from by omega, List.reverse_cons, List.getD_eq_getElem?_getD, List.getElem?_append_right (by rw [List.length_reverse]; exact Nat.le_refl _), List.length_reverse, Nat.sub_self]
      rfl
    have hx := hlo x List.mem_cons_self
    have hsl : (strOfNums (x :: r).reverse).extract (0 : Int).toNat ((((strOfNums (x :: r).reverse).size : Nat) : Int) - 1).toNat = strOfNums r.reverse := nums_inj (by
      rw [nums_extract, hn, nums_strOf (fun y hy => hlo y (List.mem_cons_of_mem _ (List.mem_reverse.1 hy))), hsz, show (((r.length + 1 : Nat) : Int) - 1).toNat - (0 : Int).toNat = r.length from by omega, List.reverse_cons]
      show List.take r.length (r.reverse ++ [x]) = _
      exact List.take_left' (List.length_reverse))
    have c1 := cH x hx
    have Hl := Lib.hid hl
    have Hlo := Lib.hid hlo
    clear hl hlo cH hn
    generalize hS : strOfNums (x :: r).reverse = S at *
    cases hp : inS cut x with
    | true =>
      rw [hp] at c1
      repeat' ((first | (apply g_sl; (first | (apply ks_nil; refine sl_nil ?_) | (apply ks_move; refine s_move rfl rfl ?_) | (apply ks_bin; refine s_bin rfl rfl rfl ?_; ((((first | (apply kb_sub; (refine bb_sub ⟨by omega, by omega⟩ ?_)) | refine bb_of rfl ?_))))) | (apply ks_asgn; refine s_asgn rfl rfl ?_) | (apply ks_un; refine s_un (y_un rfl rfl rfl) rfl ?_) | (apply ks_index; (((refine s_index (c_indexNumV hv rfl rfl rfl (by omega) (by omega)) rfl ?_)))) | (apply ks_fn; (refine c_callv rfl rfl rfl (c1) rfl rfl ?_)) | (apply ks_bi; ((refine s_call (c_len_str rfl rfl) rfl ?_))) | (apply ks_slice; (((refine s_slice (c_sliceStrV hsl rfl rfl rfl rfl (by omega) (by omega) (by omega)) rfl ?_)))))) | (apply sw_seq) | (apply sw_skip) | (apply sw_block) | (apply sw_region) | (refine sw_cd rfl ?_; (first | (apply gd_ft) | (apply gd_dec_t <;> intro hq <;> (try (exfalso; omega))))) | (apply at_thn) | (apply at_inb)))
      all_goals (skip)
      refine at_meet r ⟨⟨?_, by omega, fun y hy => Hlo.out y (List.mem_cons_of_mem _ hy)⟩, by simp⟩ (by repeat ((first | exact Le.nil _ | refine Le.cons (by (rfl)) ?_))) (fun _ hw => hw.subs (by repeat ((exact Subs.sub (by repeat ((exact List.Sublist.refl _)))))))
      rw [← Hl.out]
      unfold trN
      rw [List.reverse_reverse, List.reverse_reverse, List.dropWhile_cons, hp]
      rfl
    | false =>
      rw [hp] at c1
      repeat' ((first | (apply g_sl; (first | (apply ks_nil; refine sl_nil ?_) | (apply ks_move; refine s_move rfl rfl ?_) | (apply ks_bin; refine s_bin rfl rfl rfl ?_; ((((first | (apply kb_sub; (refine bb_sub ⟨by omega, by omega⟩ ?_)) | refine bb_of rfl ?_))))) | (apply ks_asgn; refine s_asgn rfl rfl ?_) | (apply ks_un; refine s_un (y_un rfl rfl rfl) rfl ?_) | (apply ks_index; (((refine s_index (c_indexNumV hv rfl rfl rfl (by omega) (by omega)) rfl ?_)))) | (apply ks_fn; (refine c_callv rfl rfl rfl (c1) rfl rfl ?_)) | (apply ks_bi; ((refine s_call (c_len_str rfl rfl) rfl ?_))))) | (apply sw_seq) | (apply sw_skip) | (apply sw_ret) | (apply sw_exit) | (apply sw_block) | (apply sw_region) | (refine sw_cd rfl ?_; (first | (apply gd_t) | (apply gd_dec_t <;> intro hq <;> (try (exfalso; omega))))) | (apply at_thn) | (apply at_thn_exit) | (apply at_inb_exit) | refine at_inb_pass rfl ?_))
      all_goals (skip)
      refine e_sv (by (exact .inr rfl)) rfl (by repeat ((exact List.Sublist.refl _))) ?_
      rw [← Hl.out]
      unfold trN
      rw [List.reverse_reverse, List.dropWhile_cons, hp, ← hS]
      rfl
theorem mkSet_sv (G : Ctx) (H : List Ent) (cut : ByteArray) (hz : cut.size ≤ 1000) (ha : ∀ (j : Nat) b, cut.data.toList[j]? = some b → b.toNat < 128) : SV Tryz.prog G 197 [.string cut] H (.tuple #[.agg (setC cut).toArray, .bool true]) := by
  refine sv_of_calls (callee_of Tryz.func197 rfl rfl) fun w hw => ?_
  have h := Tryz.strings_makeASCIISet (fun w => still_run _ _ (by kernel_rfl) w) cut w (by omega) ha
  have e : (setC cut).toArray = Lib.setCells cut.data.toList := by unfold setC; exact Array.toArray_toList
  rw [e]
  exact h.mono fun e w' ⟨h1, h2⟩ => ⟨h1, by rw [h2]; exact (Below.refl _ w).alloc (Nat.le_refl _) _⟩
theorem setC_one (cut : ByteArray) : (setC cut).all (·.oneCell') = true := by
  have := Lib.setCells_one cut.data.toList
  unfold setC
  rw [List.all_eq_true]
  intro v hv
  rw [Array.all_eq_true_iff_forall_mem] at this
  exact this v (Array.mem_toList_iff.1 hv)
theorem setC_b (cut : ByteArray) : Nat.beq (setC cut).length 256 = true := by rw [setC_len]; rfl
instance zSet : ZeroT Tryz.prog 286 (List.replicate 256 (.bool false)) := ⟨_, show still Tryz.prog (zeroValue 286) = some (.agg (List.toArray (List.replicate 256 (.bool false)))) by kernel_rfl, .agg _⟩
theorem trimB_sv2 (G : Ctx) (H : List Ent) (cut s : ByteArray) (h2 : 2 ≤ cut.size) (hz : cut.size ≤ 1000) (hs : s.size ≤ 4000000) (ha : ∀ (j : Nat) b, cut.data.toList[j]? = some b → b.toNat < 128) : SV Tryz.prog G 145 [.string s, .string cut] H (.string (strOfNums (tlN (inS cut) (trN (inS cut) (nums s))))) := by
  have cM := fun H => mkSet_sv G H cut hz ha
  have hone := setC_one cut
  have hb := setC_b cut
  have hne : ¬ cut = ⟨#[]⟩ := fun e => by subst e; exact absurd h2 (by decide)
  have cR := fun H b t (h : HasBlk H b t (setC cut)) => trimR_sv G H b (hb := h) cut (nums s) (nums_bound s) (by rw [nums_length]; exact hs)
  rw [strOf_nums] at cR
  have hsub := (List.dropWhile_sublist (inS cut) (l := (nums s).reverse))
  have cL := fun H b t (h : HasBlk H b t (setC cut)) => trimL_sv G H b (hb := h) cut (trN (inS cut) (nums s)) (fun x hx => nums_bound s x (List.mem_reverse.1 (hsub.subset (List.mem_reverse.1 hx)))) (by have := hsub.length_le; rw [List.length_reverse, nums_length] at this; unfold trN; rw [List.length_reverse]; omega)
  clear hsub
  by_cases hs0 : s = ⟨#[]⟩
  · subst hs0
    refine sv_enter2 Tryz.func145 rfl rfl rfl rfl rfl ?_
    repeat' ((first | (apply g_sl; (first | (apply ks_nil; refine sl_nil ?_) | (apply ks_move; refine s_move rfl rfl ?_) | (apply ks_bin; refine s_bin rfl rfl rfl ?_; ((refine bb_seq ?_))) | (apply ks_asgn; refine s_asgn rfl rfl ?_) | (apply ks_pick; refine s_pick rfl rfl ?_; ((apply kp_t; refine pk_t rfl ?_))) | (apply ks_guard; ((refine sl_gd rfl rfl rfl rfl ?_; ((apply gd_tf))))))) | (apply sw_seq) | (apply sw_ret) | (apply sw_region) | (refine sw_cd rfl ?_; ((apply gd_t))) | (apply at_thn) | (apply at_thn_ret)))
    all_goals ((refine e_sv (by (exact .inr rfl)) rfl (by repeat ((exact List.Sublist.refl _))) ?_; rfl))
  · refine sv_enter2 Tryz.func145 rfl rfl rfl rfl rfl ?_
    repeat' ((first | (apply g_sl; (first | (apply ks_nil; refine sl_nil ?_) | (apply ks_move; refine s_move rfl rfl ?_) | (apply ks_bin; refine s_bin rfl rfl rfl ?_; ((first | (refine bb_seq ?_) | ((refine bb_of rfl ?_))))) | (apply ks_asgn; refine s_asgn rfl rfl ?_) | (apply ks_pick; refine s_pick rfl rfl ?_; (first | (apply kp_t; refine pk_t rfl ?_) | (apply kp_f; refine pk_f rfl ?_))) | (apply ks_extr; refine s_extr (y_extract rfl rfl rfl) rfl ?_) | (apply ks_fn; ((first | refine c_callv rfl rfl rfl (cM _) rfl rfl ?_ | refine c_callv rfl rfl rfl (cL _ _ _ inferInstance) rfl rfl ?_ | refine c_callv rfl rfl rfl (cR _ _ _ inferInstance) rfl rfl ?_))) | (apply ks_bi; ((refine s_call (c_len_str rfl rfl) rfl ?_))) | (apply ks_store; ((((refine c_storew rfl rfl rfl rfl hone hb rfl rfl ?_))))) | (apply ks_alloc; refine c_alloc rfl rfl rfl rfl (fun _ => ?_)) | (apply ks_guard; ((refine sl_gd rfl rfl rfl rfl ?_; (first | (apply gd_t) | (apply gd_ft) | (apply gd_tf) | (apply gd_dec_t <;> intro hq <;> (try (exfalso; omega))) | (apply gd_dec_f <;> intro hq <;> (try (exfalso; omega))))))))) | (apply sw_seq) | (apply sw_skip) | (apply sw_ret) | (apply sw_region) | (refine sw_cd rfl ?_; (first | (apply gd_t) | (apply gd_ft) | (apply gd_dec_t <;> intro hq <;> (try (exfalso; omega))))) | (apply at_thn) | (apply at_thn_ret)))
    all_goals (first | (exact absurd (by assumption) hs0) | (exact absurd (by assumption) hne) | (refine e_sv (by (exact .inr rfl)) rfl (by repeat ((first | exact List.Sublist.refl _ | refine List.Sublist.cons _ ?_))) ?_; rfl))
end Go.Proofs.YtmbfechiallppaaGreatDoor
end
section
namespace Go.Fw
open Go Go.RowKit Go.Sx
def okA (x : Int) : Bool := decide ((48 ≤ x ∧ x ≤ 57) ∨ x = 59)
def stepA (n d : Int) : Int := min (max n 0 * 10 + (d - 48)) 16383
def numA (l : List Int) : Int := l.foldl stepA (-1)
theorem numA_snoc (l : List Int) (d : Int) : numA (l ++ [d]) = stepA (numA l) d := by unfold numA; rw [List.foldl_append]; rfl
theorem numA_bd (l : List Int) (h : ∀ x ∈ l, 48 ≤ x ∧ x ≤ 57) : -1 ≤ numA l ∧ numA l ≤ 16383 := by
  unfold numA
  have : ∀ (l : List Int) (n : Int), (∀ x ∈ l, 48 ≤ x ∧ x ≤ 57) → -1 ≤ n ∧ n ≤ 16383 → -1 ≤ l.foldl stepA n ∧ l.foldl stepA n ≤ 16383 := by
    intro l
    induction l with
    | nil => exact fun n _ h => h
    | cons d l ih =>
      intro n hl hn
      have hd := hl d List.mem_cons_self
      rw [List.foldl_cons]
      exact ih _ (fun x hx => hl x (List.mem_cons_of_mem _ hx)) (by unfold stepA; omega)
  exact this l (-1) h (by omega)
/-- What is trimmed away whole. -/
theorem trim_nil (p : Int → Bool) (l : List Int) : tlN p (trN p l) = [] ↔ l.all p = true := by
  have hall : ∀ l : List Int, l.dropWhile p = [] ↔ l.all p = true := fun l => by
    induction l with
    | nil => simp
    | cons x l ih => rw [List.dropWhile_cons]; split <;> simp_all
  unfold tlN trN
  rw [hall, List.all_reverse]
  constructor
  · intro h
    rw [← List.all_reverse, ← hall]
    cases hd : l.reverse.dropWhile p with
    | nil => rfl
    | cons x r =>
      exfalso
      have h9 := List.head?_dropWhile_not p l.reverse
      rw [hd] at h h9
      simp at h h9
      rw [h9] at h
      exact absurd h.1 (by decide)
  · intro h
    rw [(hall _).2 (by rw [List.all_reverse]; exact h)]
    rfl
end Go.Fw
namespace Go.Proofs.YtmbfechiallppaaGreatDoor
open Go Go.RowKit Go.Fw Go.Sx
def cutA : ByteArray := ⟨#[48, 49, 50, 51, 52, 53, 54, 55, 56, 57, 59]⟩
theorem cutA_in (x : Int) (h : 0 ≤ x ∧ x ≤ 255) : inS cutA x = okA x := by
  have key : ∀ n : Fin 256, inS cutA (n.val : Int) = okA (n.val : Int) := by decide +kernel
  have := key ⟨x.toNat, by omega⟩
  rw [show ((x.toNat : Nat) : Int) = x from by omega] at this
  exact this
def readA (s : ByteArray) : List Int × Int := if (nums s).all okA = true then (((wordsB 59 s).take 32).map fun w => numA (nums w), 0) else ([], 4)
/-- The pieces of a good text are digits. -/
theorem wordsA_mem (c : UInt8) : ∀ (l acc w : List UInt8), w ∈ wordsA c acc l → (∀ x ∈ acc, x ≠ c) → ∀ x ∈ w, x ≠ c ∧ (x ∈ acc ∨ x ∈ l)
  | [], acc, w, h, ha, x, hx => by simp only [wordsA, List.mem_singleton] at h; subst h; exact ⟨ha x hx, .inl hx⟩
  | b :: l, acc, w, h, ha, x, hx => by
    unfold wordsA at h
    split at h
    · rcases List.mem_cons.1 h with rfl | h
      · exact ⟨ha x hx, .inl hx⟩
      · obtain ⟨h1, h2⟩ := wordsA_mem c l [] w h (fun y hy => nomatch hy) x hx
        exact ⟨h1, .inr (List.mem_cons_of_mem _ (h2.resolve_left (fun h => nomatch h)))⟩
    · rename_i hb
      obtain ⟨h1, h2⟩ := wordsA_mem c l _ w h (fun y hy => by
        rcases List.mem_append.1 hy with hy | hy
        · exact ha y hy
        · rw [List.mem_singleton] at hy; rw [hy]; exact hb) x hx
      refine ⟨h1, ?_⟩
      rcases h2 with h2 | h2
      · rcases List.mem_append.1 h2 with h2 | h2
        · exact .inl h2
        · rw [List.mem_singleton] at h2; rw [h2]; exact .inr List.mem_cons_self
      · exact .inr (List.mem_cons_of_mem _ h2)
theorem words_digits (s : ByteArray) (h : (nums s).all okA = true) (w : ByteArray) (hw : w ∈ wordsB 59 s) : (∀ x ∈ nums w, 48 ≤ x ∧ x ≤ 57) ∧ w.size ≤ s.size := by
  unfold wordsB at hw
  rw [List.mem_map] at hw
  obtain ⟨v, hv, rfl⟩ := hw
  have hn : nums (baL v) = v.map fun x => (x.toNat : Int) := by unfold nums baL; rw [List.toList_toArray]
  refine ⟨fun x hx => ?_, ?_⟩
  · rw [hn, List.mem_map] at hx
    obtain ⟨u, hu, rfl⟩ := hx
    obtain ⟨h1, h2⟩ := wordsA_mem 59 _ _ v hv (fun y hy => nomatch hy) u hu
    have h3 := h2.resolve_left (fun h => nomatch h)
    rw [List.all_eq_true] at h
    have h4 := h (u.toNat : Int) (by unfold nums; exact List.mem_map.2 ⟨u, h3, rfl⟩)
    unfold okA at h4
    rw [decide_eq_true_eq] at h4
    have h5 : ¬ u.toNat = 59 := fun e => h1 (UInt8.toNat_inj.1 e)
    omega
  · have := words_len 59 _ _ v hv
    simp at this
    exact this
end Go.Proofs.YtmbfechiallppaaGreatDoor
end
section
namespace Go.Fw
open Go Go.RowKit Go.Sx
/-- A name, a value, is it a user's, has it a value. -/
abbrev Vr := ByteArray × ByteArray × Bool × Bool
def vrC (v : Vr) : List Value := [.string v.1, .string v.2.1, .bool v.2.2.1, .bool v.2.2.2]
instance : En vrC 4 := ⟨fun _ => rfl⟩
abbrev vrV (v : Vr) : Value := .agg (vrC v).toArray
def vrs (L : List Vr) : List Value := L.flatMap vrC
@[simp] theorem vrs_len (L : List Vr) : (vrs L).length = L.length * 4 := fm_len L
theorem vrs_one (L : List Vr) : (vrs L).all (·.oneCell') = true := fm_one L fun _ => rfl
/-- A 2 ahead of each byte from 0 to 3. -/
def escI (l : List Int) : List Int := l.flatMap fun x => if x ≤ 3 then [2, x] else [x]
theorem escI_cons (x : Int) (l : List Int) : escI (x :: l) = (if x ≤ 3 then [2, x] else [x]) ++ escI l := rfl
theorem escI_app (l m : List Int) : escI (l ++ m) = escI l ++ escI m := by simp [escI]
theorem escI_len (l : List Int) : (escI l).length ≤ 2 * l.length := by
  unfold escI
  induction l with
  | nil => exact Nat.le_refl _
  | cons b l ih =>
    rw [List.flatMap_cons, List.length_append, List.length_cons]
    have : (if b ≤ 3 then [2, b] else [b]).length ≤ 2 := by split <;> simp
    omega
def vI (v : Vr) : List Int := (if v.2.2.1 then 3 else 0) :: (escI (nums v.1) ++ (if v.2.2.2 then 1 :: escI (nums v.2.1) else []))
def varsI (L : List Vr) : List Int := L.flatMap vI
theorem varsI_snoc (L : List Vr) (v : Vr) : varsI (L ++ [v]) = varsI L ++ vI v := by simp [varsI]
def largeV (L : List Vr) : Prop := 20 < L.length ∨ (L.any fun v => decide (200 < v.1.size) || decide (200 < v.2.1.size)) = true
instance (L : List Vr) : Decidable (largeV L) := by unfold largeV; infer_instance
def formV (v : Vr) : Bool := !v.2.2.2 && decide (v.2.1 ≠ ⟨#[]⟩)
def writeV (L : List Vr) : ByteArray × Int :=
  if largeV L then (⟨#[]⟩, 2) else if L.any formV then (⟨#[]⟩, 4) else (strOfNums (varsI L), 0)
theorem writeV_large {L : List Vr} (h : largeV L) : writeV L = (⟨#[]⟩, 2) := if_pos h
theorem writeV_form {L : List Vr} (h : ¬ largeV L) (h2 : L.any formV = true) : writeV L = (⟨#[]⟩, 4) := by unfold writeV; rw [if_neg h, if_pos h2]
theorem writeV_ok {L : List Vr} (h : ¬ largeV L) (h2 : L.any formV = false) : writeV L = (strOfNums (varsI L), 0) := by unfold writeV; rw [if_neg h, if_neg (by rw [h2]; decide)]
/-- A piece, as environ reads it. -/
def wordI : List Int → List Int × List Int
  | [] => ([], [])
  | [x] => if x ≤ 3 then ([], [x]) else ([x], [])
  | x :: y :: l => if x = 2 then (y :: (wordI l).1, (wordI l).2) else if x ≤ 3 then ([], x :: y :: l) else (x :: (wordI (y :: l)).1, (wordI (y :: l)).2)
/-- A piece, as the document has it. -/
def pieceI : List Int → Option (List Int × List Int)
  | [] => some ([], [])
  | [x] => if x = 2 then none else if x ≤ 3 then some ([], [x]) else some ([x], [])
  | x :: y :: l => if x = 2 then (if y > 3 then none else (pieceI l).map fun p => (y :: p.1, p.2)) else if x ≤ 3 then some ([], x :: y :: l) else (pieceI (y :: l)).map fun p => (x :: p.1, p.2)
def markI (r : List Int) : Prop := ∀ x, r[0]? = some x → x ≤ 3 ∧ x ≠ 2
theorem piece_ok : ∀ (l w r : List Int), pieceI l = some (w, r) → wordI l = (w, r) ∧ l = escI w ++ r ∧ markI r
  | [], w, r, h => by
    simp only [pieceI, Option.some.injEq, Prod.mk.injEq] at h
    obtain ⟨rfl, rfl⟩ := h
    exact ⟨rfl, rfl, fun x hx => by simp at hx⟩
  | [x], w, r, h => by
    simp only [pieceI] at h
    split at h
    · cases h
    · rename_i h2
      split at h
      · rename_i h3
        simp only [Option.some.injEq, Prod.mk.injEq] at h
        obtain ⟨rfl, rfl⟩ := h
        exact ⟨by simp [wordI, h3], rfl, fun y hy => by simp at hy; subst hy; exact ⟨h3, h2⟩⟩
      · rename_i h3
        simp only [Option.some.injEq, Prod.mk.injEq] at h
        obtain ⟨rfl, rfl⟩ := h
        exact ⟨by simp [wordI, h3], by simp [escI, h3], fun y hy => by simp at hy⟩
  | x :: y :: l, w, r, h => by
    rw [pieceI] at h
    split at h
    · rename_i h2
      subst h2
      split at h
      · cases h
      · rename_i h3
        cases hp : pieceI l with
        | none => rw [hp] at h; cases h
        | some p =>
          rw [hp] at h
          simp only [Option.map_some, Option.some.injEq, Prod.mk.injEq] at h
          obtain ⟨rfl, rfl⟩ := h
          obtain ⟨h4, h5, h6⟩ := piece_ok l p.1 p.2 hp
          refine ⟨?_, ?_, h6⟩
          · rw [wordI, if_pos rfl, h4]
          · rw [escI_cons, if_pos (by omega)]
            rw [List.append_assoc, ← h5]; rfl
    · rename_i h2
      split at h
      · rename_i h3
        simp only [Option.some.injEq, Prod.mk.injEq] at h
        obtain ⟨rfl, rfl⟩ := h
        refine ⟨?_, rfl, fun z hz => ?_⟩
        · rw [wordI, if_neg h2, if_pos h3]
        · simp at hz; subst hz; exact ⟨h3, h2⟩
      · rename_i h3
        cases hp : pieceI (y :: l) with
        | none => rw [hp] at h; cases h
        | some p =>
          rw [hp] at h
          simp only [Option.map_some, Option.some.injEq, Prod.mk.injEq] at h
          obtain ⟨rfl, rfl⟩ := h
          obtain ⟨h4, h5, h6⟩ := piece_ok (y :: l) p.1 p.2 hp
          refine ⟨?_, ?_, h6⟩
          · rw [wordI, if_neg h2, if_neg h3, h4]
          · rw [escI_cons, if_neg h3, List.append_assoc, ← h5]; rfl
theorem word_len : ∀ (l : List Int), (wordI l).2.length ≤ l.length
  | [] => Nat.le_refl _
  | [x] => by unfold wordI; split <;> simp
  | x :: y :: l => by
    have h1 := word_len l
    have h2 := word_len (y :: l)
    rw [wordI]
    split
    · simp at *; omega
    · split
      · exact Nat.le_refl _
      · simp at *; omega
theorem piece_len (l w r : List Int) (h : pieceI l = some (w, r)) : r.length ≤ l.length := by
  have h1 := (piece_ok l w r h).1
  have h2 := word_len l
  rw [h1] at h2
  exact h2
/-- One variable at the front. -/
def stepW (l : List Int) : Option (Vr × List Int) :=
  match l with
  | [] => none
  | x :: l => if x ≠ 0 ∧ x ≠ 3 then none else
    let p := wordI l
    if p.2[0]? = some 1 then let q := wordI (p.2.drop 1); some ((strOfNums p.1, strOfNums q.1, decide (x = 3), true), q.2)
    else some ((strOfNums p.1, ⟨#[]⟩, decide (x = 3), false), p.2)
def stepP (l : List Int) : Option (Vr × List Int) :=
  match l with
  | [] => none
  | x :: l => if x ≠ 0 ∧ x ≠ 3 then none else
    match pieceI l with
    | none => none
    | some p => if p.2[0]? = some 1 then match pieceI (p.2.drop 1) with
        | none => none
        | some q => some ((strOfNums p.1, strOfNums q.1, decide (x = 3), true), q.2)
      else some ((strOfNums p.1, ⟨#[]⟩, decide (x = 3), false), p.2)
def many (st : List Int → Option (Vr × List Int)) : Nat → List Int → Option (List Vr)
  | _, [] => some []
  | 0, _ :: _ => none
  | m + 1, x :: l => match st (x :: l) with
    | none => none
    | some (v, r) => (many st m r).map (v :: ·)
theorem escI_mem {w : List Int} {x : Int} (h : x ∈ w) : x ∈ escI w := by
  unfold escI
  rw [List.mem_flatMap]
  refine ⟨x, h, ?_⟩
  split <;> simp
theorem stepP_ok {l : List Int} {v : Vr} {r : List Int} (h : stepP l = some (v, r)) (hb : ∀ x ∈ l, 0 ≤ x ∧ x ≤ 255) : stepW l = some (v, r) ∧ l = vI v ++ r ∧ formV v = false ∧ r.length < l.length := by
  cases l with
  | nil => cases h
  | cons x l =>
    unfold stepP at h
    unfold stepW
    simp only at h ⊢
    split at h
    · cases h
    · rename_i h0
      have hb2 : ∀ y ∈ l, 0 ≤ y ∧ y ≤ 255 := fun y hy => hb y (List.mem_cons_of_mem _ hy)
      rw [if_neg h0]
      cases hp : pieceI l with
      | none => rw [hp] at h; cases h
      | some p =>
        rw [hp] at h
        simp only at h
        obtain ⟨e1, e2, e3⟩ := piece_ok l p.1 p.2 hp
        have hl := piece_len l p.1 p.2 hp
        have hw1 : ∀ y ∈ p.1, 0 ≤ y ∧ y ≤ 255 := fun y hy => hb2 y (by rw [e2]; exact List.mem_append_left _ (escI_mem hy))
        rw [e1]
        have hx3 : (if decide (x = 3) = true then (3 : Int) else 0) = x := by
          by_cases h3 : x = 3
          · simp [h3]
          · have : x = 0 := by omega
            simp [this]
        split at h
        · rename_i h1
          cases hq : pieceI (p.2.drop 1) with
          | none => rw [hq] at h; cases h
          | some q =>
            rw [hq] at h
            simp only [Option.some.injEq, Prod.mk.injEq] at h
            obtain ⟨rfl, rfl⟩ := h
            obtain ⟨f1, f2, f3⟩ := piece_ok _ q.1 q.2 hq
            have hl2 := piece_len _ q.1 q.2 hq
            have hp2 : p.2 = 1 :: p.2.drop 1 := by
              cases hc : p.2 with
              | nil => rw [hc] at h1; simp at h1
              | cons a t => rw [hc] at h1; simp at h1; rw [h1]; rfl
            have hb3 : ∀ y ∈ p.2, 0 ≤ y ∧ y ≤ 255 := fun y hy => hb2 y (by rw [e2]; exact List.mem_append_right _ hy)
            have hw2 : ∀ y ∈ q.1, 0 ≤ y ∧ y ≤ 255 := fun y hy => hb3 y (by rw [hp2, f2]; exact List.mem_cons_of_mem _ (List.mem_append_left _ (escI_mem hy)))
            refine ⟨?_, ?_, rfl, ?_⟩
            · rw [if_pos h1, f1]
            · unfold vI
              simp only [if_true, nums_strOf hw1, nums_strOf hw2]
              rw [hx3, List.cons_append, List.append_assoc, List.cons_append, ← f2, ← hp2, ← e2]
            · have : (p.2.drop 1).length ≤ p.2.length := by simp
              simp only [List.length_cons]; omega
        · rename_i h1
          simp only [Option.some.injEq, Prod.mk.injEq] at h
          obtain ⟨rfl, rfl⟩ := h
          refine ⟨?_, ?_, rfl, by simp only [List.length_cons]; omega⟩
          · rw [if_neg h1]
          · unfold vI
            simp only [Bool.false_eq_true, if_false, List.append_nil, nums_strOf hw1]
            rw [hx3, List.cons_append, ← e2]
end Go.Fw
end
section
namespace Go.Fw
def gIdx {α : Type} (p : α → Bool) (L : List α) : Int := if L.any p then (L.findIdx p : Nat) else -1
theorem gIdx_at {α : Type} {p : α → Bool} {L : List α} {j : Nat} {x : α} (hx : L[j]? = some x) (h : p x = true) (hb : ∀ y ∈ L.take j, p y = false) : gIdx p L = j := by
  obtain ⟨hj, rfl⟩ := List.getElem?_eq_some_iff.1 hx
  have ha : L.any p = true := List.any_eq_true.2 ⟨L[j], List.getElem_mem hj, h⟩
  have hf : L.findIdx p = j := by
    rw [List.findIdx_eq hj]
    refine ⟨h, fun i hi => ?_⟩
    have : L[i]'(by omega) ∈ L.take j := by
      rw [List.mem_take_iff_getElem]
      exact ⟨i, by omega, rfl⟩
    have h2 := hb _ this
    simpa using h2
  unfold gIdx
  rw [if_pos ha, hf]
theorem gIdx_no {α : Type} {p : α → Bool} {L : List α} (hb : ∀ y ∈ L, p y = false) : gIdx p L = -1 := by
  unfold gIdx
  rw [show L.any p = false from by rw [← Bool.not_eq_true, List.any_eq_true]; rintro ⟨x, hx, h⟩; rw [hb x hx] at h; cases h]
  rfl
theorem gIdx_ge {α : Type} (p : α → Bool) (L : List α) : decide (0 ≤ gIdx p L) = L.any p := by
  unfold gIdx
  cases L.any p <;> simp
theorem take_all {α : Type} {p : α → Bool} {L : List α} {j : Nat} {x : α} (hx : L[j]? = some x) (h : p x = false) (hb : ∀ y ∈ L.take j, p y = false) : ∀ y ∈ L.take (j + 1), p y = false := by
  obtain ⟨hj, rfl⟩ := List.getElem?_eq_some_iff.1 hx
  intro y hy
  rw [List.take_succ_eq_append_getElem hj, List.mem_append] at hy
  rcases hy with hy | hy
  · exact hb y hy
  · simp only [List.mem_singleton] at hy; subst hy; exact h
end Go.Fw
namespace Go.Proofs.YtmbfechiallppaaGreatDoor
open Go Go.RowKit Go.Fw Go.Sx
set_option maxRecDepth 100000
set_option maxHeartbeats 1000000
attribute [local irreducible] SW SL SQ AtQ SV SC BB LD PK Yields SO SOT SOA SY
theorem idxVarG_sv (G : Ctx) (H : List Ent) (f : Nat) (caps : List Value) (p : Vr → Bool) (L : List Vr) {vs : List Value} (a : Option Addr) (n c : Nat) [h1 : RdC G H a vs] (hv : vs = vrs L) (hn : n = L.length) (hm : L.length ≤ maxLen) (hf : ∀ x, x ∈ L → SV Tryz.prog G f (vrV x :: caps) H (.bool (p x))) : SV Tryz.prog G 144 [.slice a n c, .func (.func f) #[] caps.toArray] H (.int .i64 (gIdx p L)) := by
  have Hn := Lib.hid hn
  have hbn : n ≤ 9223372036854775807 := by unfold maxLen at hm; omega
  have hix : ∀ (k : Nat) x, L[k]? = some x → take? (vs.drop ((k : Int).toNat * 4)) 4 = some (vrC x) := fun k x hk => by subst hv; exact fm_elem hk
  have hlx : vs.length = n * 4 := by subst hv; simp [hn]
  have hfk : ∀ (k : Nat) x, L[k]? = some x → SV Tryz.prog G f (vrV x :: caps) H (.bool (p x)) := fun k x hk => hf x (List.mem_of_getElem? hk)
  have Hix := Lib.hid hix
  have Hfk := Lib.hid hfk
  clear hix hf hfk hn hm hv
  refine sv_enter2 Tryz.func144 rfl rfl rfl rfl rfl ?_
  repeat' ((first | (apply g_sl; (first | (apply ks_nil; refine sl_nil ?_) | (apply ks_move; refine s_move rfl rfl ?_) | (apply ks_asgn; refine s_asgn rfl rfl ?_) | (apply ks_bi; (refine s_call (c_len rfl rfl) rfl ?_)))) | (apply sw_seq) | (apply sw_block) | (apply sw_region) | (apply at_thn)))
  refine sw_loopg (α := Nat) (fun j => [(0, .slice a n c), (1, .func (.func f) #[] caps.toArray), (7, .int .i64 n), (8, .int .i64 j)]) (fun _ => H)
    (fun j => j ≤ n ∧ ∀ y ∈ L.take j, p y = false) (fun j => n - j) 0 ⟨Nat.zero_le _, fun y hy => by simp at hy⟩ (by repeat ((first | exact Le.nil _ | refine Le.cons (by (rfl)) ?_))) (fun _ hw => hw.subs (by repeat ((exact Subs.sub (by repeat ((exact List.Sublist.refl _))))))) ?_
  rintro j ⟨hj, hs⟩
  have Hs := Lib.hid hs
  clear hs
  by_cases hlt : (j : Int) < n
  · obtain ⟨x, hx⟩ := get_of (X := L) (k := j) (by rw [← Hn.out]; omega)
    have hxj := Hix.out j x hx
    have hc := Hfk.out j x hx
    have Hx := Lib.hid hx
    clear hx
    cases hp : p x
    · rw [hp] at hc
      repeat' ((first | (apply g_sl; (first | (apply ks_nil; refine sl_nil ?_) | (apply ks_move; refine s_move rfl rfl ?_) | (apply ks_bin; refine s_bin rfl rfl rfl ?_; ((((first | (apply kb_add; (refine bb_add ⟨by omega, by omega⟩ ?_)) | refine bb_of rfl ?_))))) | (apply ks_load; (((refine s_load rfl rfl ?_; (refine ld_elems hxj rfl ?_))))) | (apply ks_asgn; refine s_asgn rfl rfl ?_) | (apply ks_indexA; (((refine s_indexA (c_indexAddr rfl rfl rfl hlx (by omega) (by omega)) rfl ?_)))) | ((refine c_calldv rfl rfl rfl rfl hc rfl rfl ?_)))) | (apply sw_seq) | (apply sw_skip) | (apply sw_block) | (apply sw_region) | (refine sw_cd rfl ?_; (first | (apply gd_ft) | (apply gd_dec_t <;> intro hq <;> (try (exfalso; omega))))) | (apply at_thn) | (apply at_inb)))
      exact at_meet (j + 1) ⟨⟨by omega, take_all Hx.out hp Hs.out⟩, by omega⟩ (by repeat ((first | exact Le.nil _ | refine Le.cons (by (rfl)) ?_))) (fun _ hw => hw.subs (by repeat ((exact Subs.sub (by repeat ((exact List.Sublist.refl _)))))))
    · rw [hp] at hc
      repeat' ((first | (apply g_sl; (first | (apply ks_nil; refine sl_nil ?_) | (apply ks_move; refine s_move rfl rfl ?_) | (apply ks_bin; refine s_bin rfl rfl rfl ?_; ((((refine bb_of rfl ?_))))) | (apply ks_load; (((refine s_load rfl rfl ?_; (refine ld_elems hxj rfl ?_))))) | (apply ks_asgn; refine s_asgn rfl rfl ?_) | (apply ks_indexA; (((refine s_indexA (c_indexAddr rfl rfl rfl hlx (by omega) (by omega)) rfl ?_)))) | ((refine c_calldv rfl rfl rfl rfl hc rfl rfl ?_)))) | (apply sw_seq) | (apply sw_skip) | (apply sw_ret) | (apply sw_block) | (apply sw_region) | (refine sw_cd rfl ?_; (first | (apply gd_t) | (apply gd_dec_t <;> intro hq <;> (try (exfalso; omega))))) | (apply at_thn) | (apply at_thn_ret) | (apply at_inb_ret)))
      refine e_sv (by (exact .inr rfl)) rfl (by repeat ((exact List.Sublist.refl _))) ?_
      rw [gIdx_at Hx.out hp Hs.out]
      rfl
  · obtain rfl : j = n := by omega
    repeat' ((first | (apply g_sl; (first | (apply ks_nil; refine sl_nil ?_) | (apply ks_bin; refine s_bin rfl rfl rfl ?_; (((refine bb_of rfl ?_)))) | (apply ks_asgn; refine s_asgn rfl rfl ?_))) | (apply sw_seq) | (apply sw_ret) | (apply sw_exit) | (apply sw_region) | (refine sw_cd rfl ?_; ((apply gd_dec_t <;> intro hq <;> (try (exfalso; omega))))) | (apply at_thn) | (apply at_thn_exit) | (apply at_inb_exit)))
    refine e_sv (by (exact .inr rfl)) rfl (by repeat ((exact List.Sublist.refl _))) ?_
    rw [gIdx_no (by rw [Hn.out, List.take_length] at Hs; exact Hs.out)]
    rfl
theorem hasVarG_sv (G : Ctx) (H : List Ent) (f : Nat) (caps : List Value) (p : Vr → Bool) (L : List Vr) {vs : List Value} (a : Option Addr) (n c : Nat) [h1 : RdC G H a vs] (hv : vs = vrs L) (hn : n = L.length) (hm : L.length ≤ maxLen) (hf : ∀ x, x ∈ L → SV Tryz.prog G f (vrV x :: caps) H (.bool (p x))) : SV Tryz.prog G 90 [.slice a n c, .func (.func f) #[] caps.toArray] H (.bool (L.any p)) := by
  have hc := idxVarG_sv G H f caps p L a n c hv hn hm hf
  rw [← gIdx_ge]
  generalize gIdx p L = r at *
  clear hf
  refine sv_enter2 Tryz.func90 rfl rfl rfl rfl rfl ?_
  repeat' ((first | (apply g_sl; (first | (apply ks_nil; refine sl_nil ?_) | (apply ks_move; refine s_move rfl rfl ?_) | (apply ks_bin; refine s_bin rfl rfl rfl ?_; (((refine bb_of rfl ?_)))) | (apply ks_asgn; refine s_asgn rfl rfl ?_) | (apply ks_fn; (refine c_callv rfl rfl rfl (hc) rfl rfl ?_)))) | (apply sw_seq) | (apply sw_ret) | (apply sw_region) | (apply at_thn)))
  refine e_sv (by (exact .inr rfl)) rfl (by repeat ((exact List.Sublist.refl _))) ?_
  (exact rb_d (by omega))
end Go.Proofs.YtmbfechiallppaaGreatDoor
end
section
namespace Go.Proofs.YtmbfechiallppaaGreatDoor
open Go Go.RowKit Go.Fw Go.Sx
set_option maxRecDepth 100000
set_option maxHeartbeats 1000000
theorem sc_mk {P : Program} {G : Ctx} {f : FuncId} {args : List Value} {H : List Ent} {R : Value → List Ent → Prop} (hc : Sx.Callee P f) (h : ∀ w, Holds G H w → Calls P f args.toArray w fun e w' => ∃ v H', e = .returned v ∧ Holds G H' w' ∧ R v H') : SC P G f args H R := ⟨hc, h⟩
attribute [local irreducible] SW SL SQ AtQ SV SC BB LD PK Yields SO SOT SOA SY
theorem split_sc (G : Ctx) (H : List Ent) (m : Int) (hm : ∀ w, Holds G H w → w.cell? ⟨2, 0, none⟩ = some (.int .i64 m)) (s : ByteArray) (c : UInt8) (hs : s.size ≤ 4000000) : SC Tryz.prog G 146 [.string s, .string ⟨#[c]⟩] H fun v H' => ∃ b, v = .slice (some ⟨b, 0, none⟩) (wordsB c s).length (wordsB c s).length ∧ H' = .blk b 9 (strs (wordsB c s)) :: H := by
  refine sc_mk (callee_of Tryz.func146 rfl rfl) fun w hw => ?_
  have h := Tryz.strings_Split s ⟨#[c]⟩ m w (by omega) (hm w hw) (Nat.le_refl 1)
  rw [countB_words, splitB_words] at h
  exact h.mono fun e w' ⟨he, hw'⟩ => ⟨_, _, he, hw' ▸ hw.alloc _ _, _, rfl, rfl⟩
end Go.Proofs.YtmbfechiallppaaGreatDoor
end
section
namespace Go.Proofs.YtmbfechiallppaaGreatDoor
open Go Go.RowKit Go.Fw Go.Sx
set_option maxRecDepth 100000
set_option maxHeartbeats 1000000
theorem words_count (s : ByteArray) : (wordsB 59 s).length ≤ s.size + 1 := by
  unfold wordsB
  rw [List.length_map]
  have : ∀ (l acc : List UInt8), (wordsA 59 acc l).length ≤ l.length + 1 := by
    intro l
    induction l with
    | nil => intro acc; simp [wordsA]
    | cons b l ih =>
      intro acc
      unfold wordsA
      split
      · have := ih []; simp; omega
      · have := ih (acc ++ [b]); simp; omega
  exact this s.data.toList []
theorem cutA_ascii : ∀ (j : Nat) b, cutA.data.toList[j]? = some b → b.toNat < 128 := fun j b h => by
  have : ∀ b ∈ cutA.data.toList, b.toNat < 128 := by decide
  exact this b (List.mem_of_getElem? h)
def numW (w : ByteArray) : Int := numA (nums w)
attribute [local irreducible] SW SL SQ AtQ SV SC BB LD PK Yields SO SOT SOA SY
theorem argsRead_sc (G : Ctx) (H : List Ent) (m : Int) (hm : ∀ H w, Holds G H w → w.cell? ⟨2, 0, none⟩ = some (.int .i64 m)) (s : ByteArray) (hs : s.size ≤ 2000000) : SC Tryz.prog G 93 [.string s] H (fun v H' => ∃ a' c', v = .tuple #[.slice a' (readA s).1.length c', .int .i64 (readA s).2] ∧ H' = .own 3 1 a' (readA s).1.length c' (ints (readA s).1) :: H) := by
  have cT := fun H => trimB_sv2 G H cutA s (by decide) (by decide) (by omega) cutA_ascii
  have cS := fun H => split_sc G H m (hm H) s 59 (by omega)
  have hall : (tlN (inS cutA) (trN (inS cutA) (nums s)) = []) ↔ (nums s).all okA = true := by
    rw [trim_nil]
    have : ∀ l : List Int, (∀ x ∈ l, 0 ≤ x ∧ x ≤ 255) → l.all (inS cutA) = l.all okA := fun l => by
      induction l with
      | nil => exact fun _ => rfl
      | cons x l ih => exact fun h => by rw [List.all_cons, List.all_cons, cutA_in x (h x List.mem_cons_self), ih (fun y hy => h y (List.mem_cons_of_mem _ hy))]
    rw [this _ (nums_bound s)]
  generalize tlN (inS cutA) (trN (inS cutA) (nums s)) = t at *
  have hts : strOfNums t = ⟨#[]⟩ ↔ t = [] := ⟨fun h => by have := congrArg ByteArray.size h; rw [strOfNums_size] at this; exact List.eq_nil_of_length_eq_zero this, fun h => by subst h; rfl⟩
  unfold readA
  by_cases hok : (nums s).all okA = true
  · rw [if_pos hok]
    have ht0 : strOfNums t = ⟨#[]⟩ := hts.2 (hall.2 hok)
    rw [ht0] at cT
    have hW := fun w hw => words_digits s hok w hw
    have hWc := words_count s
    have hok2 : ∀ (i : Nat) (x : Int), (nums s)[i]? = some x → (48 ≤ x ∧ x ≤ 57) ∨ x = 59 := fun i x h => by
      rw [List.all_eq_true] at hok
      have := hok x (List.mem_of_getElem? h)
      unfold okA at this
      rw [decide_eq_true_eq] at this
      omega
    have hbd := nums_bound s
    have hlen := nums_length s
    have hmap : ∀ l : List ByteArray, l.map (fun w => numA (nums w)) = l.map numW := fun _ => rfl
    rw [hmap]
    generalize wordsB 59 s = L at *
    have Hok2 := Lib.hid hok2
    have HW := Lib.hid hW
    have Hbd := Lib.hid hbd
    clear hok2 hbd hall hts ht0 hok hm hmap
    refine sc_enter1 Tryz.func93 rfl rfl rfl rfl rfl ?_
    repeat' ((first | (apply g_sl; (first | (apply ks_nil; refine sl_nil ?_) | (apply ks_move; refine s_move rfl rfl ?_) | (apply ks_bin; refine s_bin rfl rfl rfl ?_; ((refine bb_sne ?_))) | (apply ks_asgn; refine s_asgn rfl rfl ?_) | (apply ks_fn; (refine c_callv rfl rfl rfl (cT _) rfl rfl ?_)) | (apply ks_bi; (refine s_call (c_len_str rfl rfl) rfl ?_)))) | (apply sw_seq) | (apply sw_skip) | (apply sw_block) | (apply sw_region) | (refine sw_cd rfl ?_; ((apply gd_ft))) | (apply at_thn)))
    all_goals (skip)
    refine sw_loopg (α := Nat) (fun i => [(0, .string s), (14, .int .i64 s.size), (13, .string s), (15, .int .i64 i)]) (fun _ => H) (fun i => i ≤ s.size) (fun i => s.size - i) 0 (Nat.zero_le _) (by repeat ((first | exact Le.nil _ | refine Le.cons (by (rfl)) ?_))) (fun _ hw => hw.subs (by repeat ((exact Subs.sub (by repeat ((exact List.Sublist.refl _))))))) ?_
    intro i hi
    by_cases hlt : i < s.size
    · obtain ⟨x, hx⟩ := get_of (X := nums s) (k := i) (by omega)
      have hv : (nums s).getD (i : Int).toNat 0 = x := by rw [List.getD_eq_getElem?_getD, show (i : Int).toNat = i from rfl, hx]; rfl
      have hxo := Hok2.out i x hx
      clear hx cT cS
      rcases hxo with hxo | hxo
      · repeat' ((first | (apply g_sl; (first | (apply ks_nil; refine sl_nil ?_) | (apply ks_move; refine s_move rfl rfl ?_) | (apply ks_bin; refine s_bin rfl rfl rfl ?_; ((((first | (apply kb_add; (refine bb_add ⟨by omega, by omega⟩ ?_)) | refine bb_of rfl ?_))))) | (apply ks_asgn; refine s_asgn rfl rfl ?_) | (apply ks_pick; refine s_pick rfl rfl ?_; (first | (apply kp_t; refine pk_t rfl ?_) | (apply kp_f; refine pk_f rfl ?_))) | (apply ks_index; (((refine s_index (c_indexNumV hv rfl rfl rfl (by omega) (by omega)) rfl ?_)))) | (apply ks_guard; ((refine sl_gd rfl rfl rfl rfl ?_; (first | (apply gd_t) | (apply gd_dec_f <;> intro hq <;> (try (exfalso; omega))) | (apply gd_bne_t <;> intro hq <;> (try (exfalso; omega))))))))) | (apply sw_seq) | (apply sw_skip) | (apply sw_block) | (apply sw_region) | (refine sw_cd rfl ?_; ((apply gd_dec_t <;> intro hq <;> (try (exfalso; omega))))) | (apply at_thn) | (apply at_inb)))
        all_goals (exact at_meet (i + 1) ⟨by omega, by omega⟩ (by repeat ((first | exact Le.nil _ | refine Le.cons (by (rfl)) ?_))) (fun _ hw => hw.subs (by repeat ((exact Subs.sub (by repeat ((exact List.Sublist.refl _))))))))
      · repeat' ((first | (apply g_sl; (first | (apply ks_nil; refine sl_nil ?_) | (apply ks_move; refine s_move rfl rfl ?_) | (apply ks_bin; refine s_bin rfl rfl rfl ?_; ((((first | (apply kb_add; (refine bb_add ⟨by omega, by omega⟩ ?_)) | refine bb_of rfl ?_))))) | (apply ks_asgn; refine s_asgn rfl rfl ?_) | (apply ks_pick; refine s_pick rfl rfl ?_; ((apply kp_f; refine pk_f rfl ?_))) | (apply ks_index; (((refine s_index (c_indexNumV hv rfl rfl rfl (by omega) (by omega)) rfl ?_)))) | (apply ks_guard; (first | (refine sl_gd rfl rfl rfl rfl ?_; (first | (apply gd_ft) | (apply gd_bne_t <;> intro hq <;> (try (exfalso; omega))))) | refine sl_skip_u rfl rfl rfl rfl rfl rfl ?_)))) | (apply sw_seq) | (apply sw_skip) | (apply sw_block) | (apply sw_region) | (refine sw_cd rfl ?_; (first | (apply gd_ft) | (apply gd_dec_t <;> intro hq <;> (try (exfalso; omega))))) | (apply at_thn) | (apply at_inb)))
        all_goals (exact at_meet (i + 1) ⟨by omega, by omega⟩ (by repeat ((first | exact Le.nil _ | refine Le.cons (by (rfl)) ?_))) (fun _ hw => hw.subs (by repeat ((exact Subs.sub (by repeat ((exact List.Sublist.refl _))))))))
    · repeat' ((first | (apply g_sl; (first | (apply ks_nil; refine sl_nil ?_) | (apply ks_move; refine s_move rfl rfl ?_) | (apply ks_bin; refine s_bin rfl rfl rfl ?_; (((refine bb_of rfl ?_)))) | (apply ks_asgn; refine s_asgn rfl rfl ?_) | (apply ks_fn; ((refine c_call rfl rfl rfl (cS _) rfl rfl ?_; rintro _ _ ⟨bL, rfl, rfl⟩))) | (apply ks_bi; (refine s_call (c_len rfl rfl) rfl ?_)))) | (apply sw_seq) | (apply sw_exit) | (apply sw_block) | ((fail_if_success (refine g_reg (id := 11) ?_)); apply sw_region) | (refine sw_cd rfl ?_; ((apply gd_dec_t <;> intro hq <;> (try (exfalso; omega))))) | (apply at_thn) | (apply at_thn_exit) | (apply at_inb_exit)))
      all_goals (skip)
      have hlx : (strs L).length = L.length * 1 := by simp [strs]
      refine sw_loopg (α := Nat × Option Addr × Nat) (fun g => [(5, .slice g.2.1 ((L.take g.1).map numW).length g.2.2), (36, .slice (some ⟨bL, 0, none⟩) L.length L.length), (37, .int .i64 L.length), (38, .int .i64 g.1)]) (fun g => .own 3 1 g.2.1 ((L.take g.1).map numW).length g.2.2 (ints ((L.take g.1).map numW)) :: .blk bL 9 (strs L) :: H)
        (fun g => g.1 ≤ L.length ∧ g.1 ≤ 32) (fun g => L.length - g.1) (0, none, 0) ⟨Nat.zero_le _, by decide⟩ (by repeat ((first | exact Le.nil _ | refine Le.cons (by (rfl)) ?_))) (fun _ hw => (hw.nilrow _ _).subs (by repeat ((first | refine Subs.cons (by repeat constructor) ?_ | exact Subs.sub (by repeat ((exact List.Sublist.refl _))))))) ?_
      rintro ⟨j, a, c⟩ ⟨hj, hj32⟩
      dsimp only at hj hj32 ⊢
      have hol : ((L.take j).map numW).length = j := by rw [List.length_map, List.length_take]; omega
      by_cases hjl : j < L.length
      · obtain ⟨w, hw⟩ := get_of (X := L) (k := j) (by omega)
        have hwi : (strs L)[(j : Int).toNat * 1]? = some (.string w) := by simp [strs, hw]
        obtain ⟨hwd, hwz⟩ := HW.out w (List.mem_of_getElem? hw)
        by_cases h32 : j = 32
        · rw [hol]
          repeat' ((first | (apply g_sl; (first | (apply ks_nil; refine sl_nil ?_) | (apply ks_move; refine s_move rfl rfl ?_) | (apply ks_bin; refine s_bin rfl rfl rfl ?_; ((((refine bb_of rfl ?_))))) | (apply ks_load; (((refine s_load rfl rfl ?_; refine ld_elem hwi ?_)))) | (apply ks_asgn; refine s_asgn rfl rfl ?_) | (apply ks_indexA; (((refine s_indexA (c_indexAddr rfl rfl rfl hlx (by omega) (by omega)) rfl ?_)))) | (apply ks_bi; ((refine s_call (c_len rfl rfl) rfl ?_))))) | (apply sw_seq) | (apply sw_skip) | (apply sw_ret) | (apply sw_exit) | (apply sw_block) | (apply sw_region) | (refine sw_cd rfl ?_; ((apply gd_dec_t <;> intro hq <;> (try (exfalso; omega))))) | (apply at_thn) | (apply at_thn_exit) | (apply at_inb_exit) | refine at_inb_pass rfl ?_))
          all_goals (skip)
          subst h32
          exact e_scf (.own 3 1 a 32 c (ints ((L.take 32).map numW)) :: H) (by (exact .inr rfl)) rfl (fun _ hw => hw.subs (by repeat ((first | refine Subs.cons (by repeat constructor) ?_ | exact Subs.sub (by repeat ((first | exact List.Sublist.refl _ | refine List.Sublist.cons _ ?_))))))) ⟨a, c, by rw [hol]; rfl, by rw [hol]⟩
        · have hnx : (L.take (j + 1)).map numW = (L.take j).map numW ++ [numW w] := by
            rw [List.take_succ_eq_append_getElem hjl, List.map_append]
            have : L[j] = w := (List.getElem?_eq_some_iff.1 hw).2
            rw [this]; rfl
          have hnl := nums_length w
          have hpre : ∀ k, -1 ≤ numA ((nums w).take k) ∧ numA ((nums w).take k) ≤ 16383 := fun k => numA_bd _ (fun x hx => hwd x (List.mem_of_mem_take hx))
          have hstep : ∀ (k : Nat) (d : Int), (nums w)[k]? = some d → numA ((nums w).take (k + 1)) = stepA (numA ((nums w).take k)) d ∧ 48 ≤ d ∧ d ≤ 57 := fun k d h => by
            obtain ⟨h1, h2⟩ := List.getElem?_eq_some_iff.1 h
            rw [List.take_succ_eq_append_getElem h1, numA_snoc, h2]
            exact ⟨rfl, hwd d (List.mem_of_getElem? h)⟩
          have hend : numA ((nums w).take w.size) = numW w := by rw [← nums_length, List.take_length]; rfl
          have Hpre := Lib.hid hpre
          have Hstep := Lib.hid hstep
          have Hnx := Lib.hid hnx
          clear hpre hstep hnx hw hwd cT cS
          rw [hol]
          repeat' ((first | (apply g_sl; (first | (apply ks_nil; refine sl_nil ?_) | (apply ks_move; refine s_move rfl rfl ?_) | (apply ks_bin; refine s_bin rfl rfl rfl ?_; ((((refine bb_of rfl ?_))))) | (apply ks_load; (((refine s_load rfl rfl ?_; refine ld_elem hwi ?_)))) | (apply ks_asgn; refine s_asgn rfl rfl ?_) | (apply ks_indexA; (((refine s_indexA (c_indexAddr rfl rfl rfl hlx (by omega) (by omega)) rfl ?_)))) | (apply ks_bi; ((first | refine s_call (c_len rfl rfl) rfl ?_ | refine s_call (c_len_str rfl rfl) rfl ?_))))) | (apply sw_seq) | (apply sw_skip) | (apply sw_block) | ((fail_if_success (refine g_reg (id := 16) ?_)); apply sw_region) | (refine sw_cd rfl ?_; ((apply gd_dec_t <;> intro hq <;> (try (exfalso; omega))))) | (apply at_thn)))
          all_goals (skip)
          refine sw_loopg (α := Nat) (fun k => [(5, .slice a j c), (36, .slice (some ⟨bL, 0, none⟩) L.length L.length), (37, .int .i64 L.length), (38, .int .i64 j), (7, .string w), (8, .int .i64 (numA ((nums w).take k))), (46, .int .i64 w.size), (47, .int .i64 k)]) (fun _ => .own 3 1 a j c (ints ((L.take j).map numW)) :: .blk bL 9 (strs L) :: H)
            (fun k => k ≤ w.size) (fun k => w.size - k) 0 (Nat.zero_le _) (by repeat ((first | exact Le.nil _ | refine Le.cons (by (rfl)) ?_))) (fun _ hw => hw.subs (by repeat ((first | refine Subs.cons (by repeat constructor) ?_ | exact Subs.sub (by repeat ((exact List.Sublist.refl _))))))) ?_
          intro k hk
          by_cases hkl : k < w.size
          · obtain ⟨d, hd⟩ := get_of (X := nums w) (k := k) (by omega)
            have hv : (nums w).getD (k : Int).toNat 0 = d := by rw [List.getD_eq_getElem?_getD, show (k : Int).toNat = k from rfl, hd]; rfl
            obtain ⟨h1, h2, h3⟩ := Hstep.out k d hd
            obtain ⟨h4, h5⟩ := Hpre.out k
            generalize numA ((nums w).take k) = n at *
            clear hd hend
            repeat' ((first | (apply g_sl; (first | (apply ks_nil; refine sl_nil ?_) | (apply ks_move; refine s_move rfl rfl ?_) | (apply ks_bin; refine s_bin rfl rfl rfl ?_; ((((first | (apply kb_add; (refine bb_add ⟨by omega, by omega⟩ ?_)) | (apply kb_sub; (refine bb_sub ⟨by omega, by omega⟩ ?_)) | (apply kb_mul; (refine bb_mul ⟨by omega, by omega⟩ ?_)) | refine bb_of rfl ?_))))) | (apply ks_asgn; refine s_asgn rfl rfl ?_) | (apply ks_conv; ((refine s_conv (c_conv (k := .i64) rfl rfl ⟨by omega, by omega⟩) rfl ?_))) | (apply ks_index; (((refine s_index (c_indexNumV hv rfl rfl rfl (by omega) (by omega)) rfl ?_)))) | (apply ks_bi; ((first | (refine s_call (c_max2 rfl rfl rfl) rfl ?_) | (refine s_call (c_minB rfl rfl rfl) rfl ?_)))))) | (apply sw_seq) | (apply sw_skip) | (apply sw_block) | (apply sw_region) | (refine sw_cd rfl ?_; ((apply gd_dec_t <;> intro hq <;> (try (exfalso; omega))))) | (apply at_thn) | (apply at_inb)))
            all_goals (skip)
            refine at_meet (k + 1) ⟨by omega, by omega⟩ ?_ (fun _ hw => hw.subs (by repeat ((first | refine Subs.cons (by repeat constructor) ?_ | exact Subs.sub (by repeat ((exact List.Sublist.refl _)))))))
            rw [h1]
            exact (by repeat ((first | exact Le.nil _ | refine Le.cons (by (rfl)) ?_)))
          · obtain rfl : w.size = k := by omega
            rw [hend]
            repeat' ((first | (apply g_sl; (first | (apply ks_nil; refine sl_nil ?_) | (apply ks_move; refine s_move rfl rfl ?_) | (apply ks_bin; refine s_bin rfl rfl rfl ?_; (((first | (apply kb_add; (refine bb_add ⟨by omega, by omega⟩ ?_)) | refine bb_of rfl ?_)))) | (apply ks_asgn; refine s_asgn rfl rfl ?_) | (apply ks_bi; (refine c_append rfl rfl rfl rfl (by (rfl)) (by (rfl)) (by omega) rfl rfl (fun _ _ => ?_))) | (apply ks_bs; (refine c_buildSlice rfl rfl rfl rfl rfl rfl rfl rfl rfl rfl (fun _ => ?_))))) | (apply sw_seq) | (apply sw_exit) | (apply sw_region) | (refine sw_cd rfl ?_; ((apply gd_dec_t <;> intro hq <;> (try (exfalso; omega))))) | (apply at_thn) | (apply at_thn_exit) | (apply at_inb) | (apply at_inb_exit)))
            all_goals (skip)
            rename_i bx ax cx
            refine at_meet (j + 1, ax, cx) ⟨⟨by dsimp only; omega, by dsimp only; omega⟩, by dsimp only; omega⟩ ?_ ?_
            · dsimp only; rw [Hnx.out, List.length_append, hol]; exact (by repeat ((first | exact Le.nil _ | refine Le.cons (by (rfl)) ?_)))
            · dsimp only; rw [Hnx.out, List.length_append, hol, show ints ((L.take j).map numW ++ [numW w]) = ints ((L.take j).map numW) ++ [.int .i64 (numW w)] from by simp [ints]]; exact (fun _ hw => hw.subs (by repeat ((first | refine Subs.cons (by repeat constructor) ?_ | exact Subs.sub (by repeat ((first | exact List.Sublist.refl _ | refine List.Sublist.cons _ ?_)))))))
      · obtain rfl : L.length = j := by omega
        rw [show L.take 32 = L from List.take_of_length_le hj32]
        rw [List.take_length]
        repeat' ((first | (apply g_sl; (first | (apply ks_nil; refine sl_nil ?_) | (apply ks_move; refine s_move rfl rfl ?_) | (apply ks_bin; refine s_bin rfl rfl rfl ?_; (((refine bb_of rfl ?_)))) | (apply ks_asgn; refine s_asgn rfl rfl ?_))) | (apply sw_seq) | (apply sw_ret) | (apply sw_exit) | (apply sw_region) | (refine sw_cd rfl ?_; ((apply gd_dec_t <;> intro hq <;> (try (exfalso; omega))))) | (apply at_thn) | (apply at_thn_exit) | (apply at_inb_exit)))
        all_goals (skip)
        exact e_scf (.own 3 1 a (L.map numW).length c (ints (L.map numW)) :: H) (by (exact .inr rfl)) rfl (fun _ hw => hw.subs (by repeat ((first | refine Subs.cons (by repeat constructor) ?_ | exact Subs.sub (by repeat ((first | exact List.Sublist.refl _ | refine List.Sublist.cons _ ?_))))))) ⟨a, c, rfl, rfl⟩
  · rw [if_neg hok]
    have ht0 : ¬ strOfNums t = ⟨#[]⟩ := fun h => hok (hall.1 (hts.1 h))
    refine sc_enter1 Tryz.func93 rfl rfl rfl rfl rfl ?_
    repeat' ((first | (apply g_sl; (first | (apply ks_nil; refine sl_nil ?_) | (apply ks_move; refine s_move rfl rfl ?_) | (apply ks_bin; refine s_bin rfl rfl rfl ?_; ((refine bb_sne ?_))) | (apply ks_asgn; refine s_asgn rfl rfl ?_) | (apply ks_fn; (refine c_callv rfl rfl rfl (cT _) rfl rfl ?_)) | (apply ks_bi; (refine s_call (c_len_str rfl rfl) rfl ?_)))) | (apply sw_seq) | (apply sw_skip) | (apply sw_ret) | (apply sw_block) | (apply sw_region) | (refine sw_cd rfl ?_; ((apply gd_not_t <;> intro hq))) | (apply at_thn) | (apply at_thn_ret)))
    all_goals (first | (exact absurd (of_decide_eq_true (by assumption)) ht0) | skip)
    exact e_scf (.own 3 1 none 0 0 [] :: H) (by (exact .inr rfl)) rfl (fun _ hw => hw.nilrow _ _) ⟨none, 0, rfl, rfl⟩
end Go.Proofs.YtmbfechiallppaaGreatDoor
end
section
namespace Go.Proofs.YtmbfechiallppaaGreatDoor
open Go.RowKit Go.Fw
set_option maxHeartbeats 1000000 in
set_option maxRecDepth 100000 in
theorem liteIndexByte_any (s : ByteArray) (c : Int) (w : World) :
    Calls Tryz.prog 184 #[.string s, .int .u8 c] w fun e w' => e = .returned (.int .i64 (Lib.indexByte s.data.toList c.toNat.toUInt8)) ∧ w = w' := by
  go_enter Tryz.func184, Tryz.ntmps184
  go_wp2
  rw [run_callFunc_extern Tryz.func236 (by kernel_rfl) (by kernel_rfl) (by kernel_rfl) (e := Extern.BytealgIndexByte.indexByte) (by kernel_rfl), Lib.run_indexByteString]
  simp only [Result.andThen]
  rw [Oper.upon_value]
  go_wp2
  go_ret
  exact ⟨rfl, rfl⟩
set_option maxRecDepth 100000 in
theorem indexByte_any (s : ByteArray) (c : Int) (w : World) :
    Calls Tryz.prog 131 #[.string s, .int .u8 c] w fun e w' => e = .returned (.int .i64 (Lib.indexByte s.data.toList c.toNat.toUInt8)) ∧ w = w' := by
  go_enter Tryz.func131, Tryz.ntmps131
  go_wp2_with (go_at_call 184; refine (liteIndexByte_any _ _ _).mono ?_; rintro e w' ⟨rfl, rfl⟩)
  go_ret
  exact ⟨rfl, rfl⟩
end Go.Proofs.YtmbfechiallppaaGreatDoor
end
section
namespace Go.Proofs.YtmbfechiallppaaGreatDoor
open Go Go.RowKit Go.Fw Go.Sx
set_option maxRecDepth 100000
set_option maxHeartbeats 1000000
abbrev sP (n : Int) : Ps := (n, 0, e0, e0, e0)
/-- What control does: was it one; the parser behind it; the acts. -/
def ctlU (p : Ps) (x : Int) : Bool × Ps × List Ac :=
  if x = 27 then (true, sP 1, if p.1 = 0 then [] else [dA])
  else if x = 24 ∨ x = 26 then (true, sP 0, if p.1 = 0 then [] else [dA])
  else if x < 32 then (true, p, [(2, x, 0, e0, nA, e0)])
  else (decide (127 ≤ x ∧ x ≤ 159), p, [])
def escU (p : Ps) (x : Int) : Ps × List Ac :=
  if x < 48 then ((2, p.2.1, moreU p.2.2.1 x, p.2.2.2.1, p.2.2.2.2), [])
  else if p.1 = 2 then (sP 0, [finA p.2.2.1 (3, x, 0, p.2.2.1, nA, e0)])
  else if x = 91 then ((3, p.2), [])
  else if x = 93 then ((7, p.2), [])
  else if x = 80 ∨ x = 88 ∨ x = 94 ∨ x = 95 then ((9, p.2), [])
  else (sP 0, [finA p.2.2.1 (3, x, 0, e0, nA, e0)])
/-- What csi does, with the parsed row at a (n cells, room for cp). -/
def csiU (p : Ps) (x : Int) (r : Rx Int) : Ps × List Ac :=
  if p.1 = 6 then (if 64 ≤ x then (sP 0, [dA]) else (p, []))
  else if x < 48 then ((5, p.2.1, moreU p.2.2.1 x, p.2.2.2.1, p.2.2.2.2), [])
  else if 64 ≤ x then (sP 0, [finA p.2.2.1 (4, x, p.2.1, p.2.2.1, r, e0)])
  else if p.1 = 5 ∨ x = 58 then (sP 6, [])
  else if x < 60 then ((4, p.2.1, p.2.2.1, argU p.2.2.2.1 x, p.2.2.2.2), [])
  else if p.1 = 3 then ((4, x, p.2.2), [])
  else (sP 6, [])
theorem slD {G : Ctx} {H : List Ent} : ∀ y ∈ [dA], Sl ints G H y.2.2.2.2.1 := fun y h => by
  rw [List.mem_singleton] at h
  subst h
  exact Sl.nil rfl
attribute [local irreducible] SW SL SQ AtQ SV SC BB LD PK Yields SO SOT SOA SY SP SPT SPA
theorem mControl_sc (G : Ctx) (K : List Ent) (b : Nat) (s m : Int) (i g t : ByteArray) (X : List Ac) (a : Option Addr) (c : Nat) (x : Int) (hX : X.length ≤ 10000000) : SC Tryz.prog G 114 [.pointer (some ⟨b, 0, none⟩), .int .i64 x] (mcH b (s, m, i, g, t) X a c K) (fun v H' => ∃ a' c', v = .bool (ctlU (s, m, i, g, t) x).1 ∧ H' = mcH b (ctlU (s, m, i, g, t) x).2.1 (X ++ (ctlU (s, m, i, g, t) x).2.2) a' c' K) := by
  have c1 := mEmit_sc G K b s m i g t X a c 6 0 0 e0 nA e0 hX
  have c2 := mEmit_sc G K b s m i g t X a c 2 x 0 e0 nA e0 hX
  have c3 := fun X a c n => mEnter_sc G K b s m i g t X a c n
  have c4 := fun H => pWithin_sv G H x 127 159
  unfold mcH at *
  dsimp only at *
  refine sc_enter2 Tryz.func114 rfl rfl rfl rfl rfl ?_
  repeat' ((first | (apply g_sl; (first | (apply ks_nil; refine sl_nil ?_) | (apply ks_move; refine s_move rfl rfl ?_) | (apply ks_bin; refine s_bin rfl rfl rfl ?_; (((refine bb_of rfl ?_)))) | (apply ks_load; ((refine s_load rfl rfl ?_; (refine ld_cell rfl ?_)))) | (apply ks_asgn; refine s_asgn rfl rfl ?_) | (apply ks_pick; refine s_pick rfl rfl ?_; (first | (apply kp_t; refine pk_t rfl ?_) | (apply kp_f; refine pk_f rfl ?_))) | (apply ks_field; (refine s_field (c_field0 rfl rfl) rfl ?_)) | (apply ks_build; (refine s_build (c_build rfl rfl rfl) rfl ?_)) | (apply ks_nilc; refine s_nilc (y_nilCheck rfl rfl) rfl ?_) | (apply ks_fn; ((first | (refine c_call rfl rfl rfl c1 rfl rfl ?_; rintro _ _ ⟨a1, k1, rfl, rfl⟩) | (refine c_call rfl rfl rfl c2 rfl rfl ?_; rintro _ _ ⟨a1, k1, rfl, rfl⟩) | (refine c_call rfl rfl rfl (c3 _ _ _ _) rfl rfl ?_; rintro _ _ ⟨rfl, rfl⟩) | refine c_callv rfl rfl rfl (c4 _) rfl rfl ?_))) | (apply ks_guard; ((refine sl_gd rfl rfl rfl rfl ?_; (first | (apply gd_t) | (apply gd_tf) | (apply gd_dec_f <;> intro hq <;> (try (exfalso; omega))))))))) | (apply sw_seq) | (apply sw_skip) | (apply sw_ret) | (apply sw_block) | (apply sw_region) | (refine sw_cd rfl ?_; (first | (apply gd_t) | (apply gd_dec_t <;> intro hq <;> (try (exfalso; omega))) | (apply gd_bne_t <;> intro hq <;> (try (exfalso; omega))))) | (apply at_thn) | (apply at_thn_ret) | (apply at_inb) | (apply at_inb_ret)))
  all_goals
    refine e_scf _ (by (exact .inr rfl)) rfl (fun _ hw => hw) ?_
    unfold ctlU
    dsimp only
    (repeat ((first | rw [if_pos (by (first | assumption | omega))] | rw [if_neg (by (first | assumption | omega))])))
    try dsimp only
    (first | exact ⟨_, _, rfl, rfl⟩ | (rw [List.append_nil]; exact ⟨_, _, rfl, rfl⟩))
theorem pxb_sv (G : Ctx) (H : List Ent) (x : Int) (hx : 0 ≤ x ∧ x ≤ 255) : SV Tryz.prog G 131 [.string ⟨#[80, 88, 94, 95]⟩, .int .u8 x] H (.int .i64 (if x = 80 then 0 else if x = 88 then 1 else if x = 94 then 2 else if x = 95 then 3 else -1)) := by
  have h := fun w => indexByte_any ⟨#[80, 88, 94, 95]⟩ x w
  have e : ∀ n : Nat, n < 256 → (Lib.indexByte (⟨#[80, 88, 94, 95]⟩ : ByteArray).data.toList (n : Int).toNat.toUInt8) = (if (n : Int) = 80 then 0 else if (n : Int) = 88 then 1 else if (n : Int) = 94 then 2 else if (n : Int) = 95 then 3 else -1) := by decide +kernel
  obtain ⟨n, rfl⟩ := Int.eq_ofNat_of_zero_le hx.1
  have e := e n (by omega)
  refine sv_of_calls (callee_of Tryz.func131 rfl rfl) fun w hw => (h w).mono ?_
  rintro _ _ ⟨rfl, rfl⟩
  exact ⟨congrArg (fun z => Ending.returned (.int .i64 z)) e, Below.refl _ _⟩
theorem mEsc_sc (G : Ctx) (K : List Ent) (b : Nat) (s m : Int) (i g t : ByteArray) (X : List Ac) (a : Option Addr) (c : Nat) (x : Int) (hx : 32 ≤ x ∧ x ≤ 126) (hX : X.length ≤ 10000000) : SC Tryz.prog G 115 [.pointer (some ⟨b, 0, none⟩), .int .i64 x] (mcH b (s, m, i, g, t) X a c K) (fun v H' => ∃ a' c', v = resV [] ∧ H' = mcH b (escU (s, m, i, g, t) x).1 (X ++ (escU (s, m, i, g, t) x).2) a' c' K) := by
  have c1 := mFinal_sc G K b s m i g t X a c 3 x 0 i nA e0 hX
  have c2 := mFinal_sc G K b s m i g t X a c 3 x 0 e0 nA e0 hX
  have c3 := mMore_sc G K b s m i g t X a c x (by omega)
  have c4 := fun H => pxb_sv G H x (by omega)
  unfold mcH at *
  dsimp only at *
  refine sc_enter2 Tryz.func115 rfl rfl rfl rfl rfl ?_
  repeat' ((first | (apply g_sl; (first | (apply ks_nil; refine sl_nil ?_) | (apply ks_move; refine s_move rfl rfl ?_) | (apply ks_bin; refine s_bin rfl rfl rfl ?_; ((((refine bb_of rfl ?_))))) | (apply ks_load; ((refine s_load rfl rfl ?_; (refine ld_cell rfl ?_)))) | (apply ks_asgn; refine s_asgn rfl rfl ?_) | (apply ks_field; (refine s_field (c_field0 rfl rfl) rfl ?_)) | (apply ks_build; (refine s_build (c_build rfl rfl rfl) rfl ?_)) | (apply ks_conv; (((refine s_conv (c_conv (k := .u8) rfl rfl ⟨by omega, by omega⟩) rfl ?_)))) | (apply ks_nilc; refine s_nilc (y_nilCheck rfl rfl) rfl ?_) | (apply ks_fn; ((first | (refine c_call rfl rfl rfl c1 rfl rfl ?_; rintro _ _ ⟨a1, k1, rfl, rfl⟩) | (refine c_call rfl rfl rfl c2 rfl rfl ?_; rintro _ _ ⟨a1, k1, rfl, rfl⟩) | (refine c_call rfl rfl rfl c3 rfl rfl ?_; rintro _ _ ⟨rfl, rfl⟩) | refine c_callv rfl rfl rfl (c4 _) rfl rfl ?_))) | (apply ks_store; ((refine c_store rfl rfl rfl rfl rfl rfl rfl ?_))))) | (apply sw_seq) | (apply sw_block) | (apply sw_region) | (refine sw_cd rfl ?_; ((apply gd_dec_t <;> intro hq <;> (try (exfalso; omega))))) | (apply at_thn) | (apply at_inb)))
  all_goals
    refine e_scf _ (by (exact .inl rfl)) rfl (fun _ hw => hw) ?_
    unfold escU
    dsimp only
    (repeat ((first | rw [if_pos (by (first | assumption | omega))] | rw [if_neg (by (first | assumption | omega))])))
    try dsimp only
    (first | exact ⟨_, _, rfl, rfl⟩ | (rw [List.append_nil]; exact ⟨_, _, rfl, rfl⟩))
theorem mCsi_sc (G : Ctx) (K : List Ent) (M : Int) (hM : ∀ H w, Holds G H w → w.cell? ⟨2, 0, none⟩ = some (.int .i64 M)) (b : Nat) (s m : Int) (i g t : ByteArray) (X : List Ac) (a : Option Addr) (c : Nat) (x : Int) (hx : 32 ≤ x ∧ x ≤ 126) (hX : X.length ≤ 10000000) (hg : g.size ≤ 200) : SC Tryz.prog G 116 [.pointer (some ⟨b, 0, none⟩), .int .i64 x] (mcH b (s, m, i, g, t) X a c K) (fun v H' => ∃ a2 c2 F a' c', v = resV [] ∧ H' = mcH b (csiU (s, m, i, g, t) x (a2, c2, (readA g).1)).1 (X ++ (csiU (s, m, i, g, t) x (a2, c2, (readA g).1)).2) a' c' (F ++ K) ∧ ∀ y ∈ (csiU (s, m, i, g, t) x (a2, c2, (readA g).1)).2, Sl ints G F y.2.2.2.2.1) := by
  have c1 := fun K a2 c2 => mFinal_sc G K b s m i g t X a c 4 x m i (a2, c2, (readA g).1) e0 hX
  have c2 := fun K => mDrop_sc G K b s m i g t X a c 0 hX
  have c3 := mMore_sc G K b s m i g t X a c x (by omega)
  have c4 := mIgnore_sc G K b s m i g t X a c
  have c5 := fun H => argsRead_sc G H M hM g (by omega)
  have hcat : ∀ (g : ByteArray), g.size < 100 → g.size + (strOfNums [x]).size ≤ 9223372036854775807 := fun i h => by rw [strOfNums_size]; simp; omega
  unfold mcH at *
  dsimp only at *
  refine sc_enter2 Tryz.func116 rfl rfl rfl rfl rfl ?_
  repeat' ((first | (apply g_sl; (first | (apply ks_nil; refine sl_nil ?_) | (apply ks_move; refine s_move rfl rfl ?_) | (apply ks_bin; refine s_bin rfl rfl rfl ?_; ((first | (refine bb_cat (hcat _ (by omega)) ?_) | ((refine bb_of rfl ?_))))) | (apply ks_load; ((refine s_load rfl rfl ?_; (refine ld_cell rfl ?_)))) | (apply ks_asgn; refine s_asgn rfl rfl ?_) | (apply ks_pick; refine s_pick rfl rfl ?_; (first | (apply kp_t; refine pk_t rfl ?_) | (apply kp_f; refine pk_f rfl ?_))) | (apply ks_field; (refine s_field (c_field0 rfl rfl) rfl ?_)) | (apply ks_extr; refine s_extr (y_extract rfl rfl rfl) rfl ?_) | (apply ks_conv; ((first | (refine s_conv (c_conv (k := .i32) rfl rfl ⟨by omega, by omega⟩) rfl ?_) | (refine s_conv (c_convIs rfl rfl (by omega) (by omega)) rfl ?_)))) | (apply ks_nilc; refine s_nilc (y_nilCheck rfl rfl) rfl ?_) | (apply ks_fn; ((first | (refine c_call rfl rfl rfl (c2 _) rfl rfl ?_; rintro _ _ ⟨a1, k1, rfl, rfl⟩) | (refine c_call rfl rfl rfl c3 rfl rfl ?_; rintro _ _ ⟨rfl, rfl⟩) | (refine c_call rfl rfl rfl c4 rfl rfl ?_; rintro _ _ ⟨rfl, rfl⟩) | (refine c_call rfl rfl rfl (c5 _) rfl rfl ?_; rintro _ _ ⟨a2, k2, rfl, rfl⟩)))) | (apply ks_bi; ((refine s_call (c_len_str rfl rfl) rfl ?_))) | (apply ks_store; ((refine c_store rfl rfl rfl rfl rfl rfl rfl ?_))) | (apply ks_guard; ((refine sl_gd rfl rfl rfl rfl ?_; (first | (apply gd_t) | (apply gd_tf) | (apply gd_dec_f <;> intro hq <;> (try (exfalso; omega))))))))) | (apply sw_seq) | (apply sw_skip) | (apply sw_block) | ((fail_if_success (refine g_reg (id := 9) ?_)); apply sw_region) | (refine sw_cd rfl ?_; (first | (apply gd_t) | (apply gd_dec_t <;> intro hq <;> (try (exfalso; omega))))) | (apply at_thn) | (apply at_inb)))
  all_goals first
    | (refine e_scf _ (by first | exact .inl rfl | exact .inr rfl) rfl (fun _ hw => hw) ⟨none, 0, [], ?_⟩
       unfold csiU argU
       dsimp only
       (repeat ((first | rw [if_pos (by (first | assumption | omega))] | rw [if_neg (by (first | assumption | omega))])))
       first | exact ⟨_, _, rfl, rfl, slD⟩ | (rw [List.append_nil]; exact ⟨_, _, rfl, rfl, fun _ h => nomatch h⟩))
    | skip
  refine sw_held (.blk b 167 [.int .i64 s, .int .i64 m, .string i, .string g, .string t, .slice a X.length c] :: .own 174 6 a X.length c (acs X) :: .own 3 1 a2 (readA g).1.length k2 (ints (readA g).1) :: K) (fun _ hw => hw.subs (by repeat ((first | refine Subs.cons (by repeat constructor) ?_ | exact Subs.sub (by repeat ((exact List.Sublist.refl _))))))) ?_
  refine c_phase 14 (.blk b 167 [.int .i64 s, .int .i64 m, .string i, .string g, .string t, .slice a X.length c] :: .own 174 6 a X.length c (acs X) :: .own 3 1 a2 (readA g).1.length k2 (ints (readA g).1) :: K) K (fun _ hw => hw.subs (by repeat ((first | refine Subs.cons (by repeat constructor) ?_ | exact Subs.sub (by repeat ((exact List.Sublist.refl _))))))) rfl ?_
  repeat' ((first | (apply g_sl; (first | (apply ks_nil; refine sl_nil ?_) | (apply ks_fn; ((refine c_call rfl rfl rfl (c1 _ a2 k2) rfl rfl ?_; rintro _ _ ⟨a1, k1, rfl, rfl⟩))))) | (apply g_atso; refine so_back (k := 0) (fun _ hw => hw.subs (by repeat ((exact Subs.sub (by repeat ((first | exact List.Sublist.refl _ | refine List.Sublist.cons _ ?_))))))) ?_) | (apply g_sot; (first | (refine sot_skip rfl ?_) | (refine so_done (by decide +kernel) ?_))) | (apply g_spt; (first | (refine spt_take rfl rfl rfl rfl (by kernel_rfl) (by decide +kernel) (by decide +kernel) (by decide +kernel) ?_; ((first | (apply ky_move; refine sy_val (y_move rfl rfl) ?_) | (apply ky_load; ((refine sy_load rfl ?_; (refine ld_cell rfl ?_)))) | (apply ky_field; (refine sy_val (c_field0 rfl rfl) ?_)) | (apply ky_build; (refine sy_val (c_build rfl rfl rfl) ?_)) | (apply ky_nilc; refine sy_val (y_nilCheck rfl rfl) ?_)))) | (refine spt_next rfl ?_) | (refine spt_all (by kernel_rfl) ?_))) | (apply g_spa; (first | (refine spa_end rfl) | (refine spa_no (by decide +kernel) ?_) | (refine spa_st rfl rfl ?_ ?_))) | (apply at_inb)))
  refine e_scf _ (.inl rfl) rfl (fun _ hw => hw) ⟨a2, k2, [.own 3 1 a2 (readA g).1.length k2 (ints (readA g).1)], ?_⟩
  unfold csiU
  dsimp only
  (repeat ((first | rw [if_pos (by (assumption))] | rw [if_neg (by (assumption))])))
  refine ⟨_, _, rfl, rfl, fun y h => ?_⟩
  rw [List.mem_singleton] at h
  subst h
  unfold finA
  split
  · exact Sl.nil rfl
  · exact Sl.own List.mem_cons_self rfl rfl
end Go.Proofs.YtmbfechiallppaaGreatDoor
end
section
namespace Go.Proofs.YtmbfechiallppaaGreatDoor
open Go.RowKit Go.Fw
def runeL (c : Int) : List Int :=
  if c < 128 then [c] else if c < 2048 then [192 + c / 64, 128 + c % 64] else if c < 65536 then [224 + c / 4096, 128 + c / 64 % 64, 128 + c % 64]
  else [240 + c / 262144, 128 + c / 4096 % 64, 128 + c / 64 % 64, 128 + c % 64]
theorem runeL_len (c : Int) : (runeL c).length ≤ 4 := by
  unfold runeL; split <;> (try split) <;> (try split) <;> simp
end Go.Proofs.YtmbfechiallppaaGreatDoor
end
section
namespace Go.Proofs.YtmbfechiallppaaGreatDoor
open Go.RowKit Go.Fw
theorem ones_of {k : IntKind} (l : List Int) : ∀ u ∈ l.map (Value.int k), u.oneCell' = true := by
  intro u hu
  obtain ⟨x, _, rfl⟩ := List.mem_map.1 hu
  rfl
set_option maxRecDepth 100000 in
set_option maxHeartbeats 1000000 in
theorem appendRune2 (c : Int) (w : World) (v : Value) (n B : Nat) (xs : List Int) (hn : n ≤ 100000000) (hB : B ≤ w.heap.size) (hown : w.ownsRow B 5 1 v n (octs xs)) (h0 : 128 ≤ c) (h1 : c < 2048) :
    Calls Tryz.prog 84 #[v, .int .i32 c] w fun e w' => ∃ v', e = .returned v' ∧ w'.ownsRow B 5 1 v' (n + (runeL c).length) (octs (xs ++ runeL c)) ∧ Below B w w' := by
  have hl : runeL c = [192 + c / 64, 128 + c % 64] := by unfold runeL; rw [if_neg (by omega), if_pos (by omega)]
  rw [hl]
  clear hl
  go_enter Tryz.func84, Tryz.ntmps84
  go_wp2_with (at_builtin; (refine fw_append rfl _ _ 113 rfl B 5 (.int .u8 0) 1 1 Tryz.underlying113 u8i rfl (by decide) (by decide) _ _ _ rfl hown w.heap.size 2 [.int .u8 (192 + c / 64), .int .u8 (128 + c % 64)] rfl rfl rfl rfl (ones_of [192 + c / 64, 128 + c % 64]) (by omega) hB ?_); intro v3 w3 hown3 hb3)
  go_wp2_with fail
  go_ret
  exact ⟨v3, rfl, by simpa [octs] using hown3, hb3⟩
set_option maxRecDepth 100000 in
set_option maxHeartbeats 1000000 in
theorem appendRune3 (c : Int) (w : World) (v : Value) (n B : Nat) (xs : List Int) (hn : n ≤ 100000000) (hB : B ≤ w.heap.size) (hown : w.ownsRow B 5 1 v n (octs xs)) (h0 : 2048 ≤ c) (h1 : c < 65536) (hs : c < 55296 ∨ 57343 < c) :
    Calls Tryz.prog 84 #[v, .int .i32 c] w fun e w' => ∃ v', e = .returned v' ∧ w'.ownsRow B 5 1 v' (n + (runeL c).length) (octs (xs ++ runeL c)) ∧ Below B w w' := by
  have hl : runeL c = [224 + c / 4096, 128 + c / 64 % 64, 128 + c % 64] := by unfold runeL; rw [if_neg (by omega), if_neg (by omega), if_pos (by omega)]
  rw [hl]
  clear hl
  rcases hs with hs | hs
  all_goals
    go_enter Tryz.func84, Tryz.ntmps84
    go_wp2_with (at_builtin; (refine fw_append rfl _ _ 113 rfl B 5 (.int .u8 0) 1 1 Tryz.underlying113 u8i rfl (by decide) (by decide) _ _ _ rfl hown w.heap.size 3 [.int .u8 (224 + c / 4096), .int .u8 (128 + c / 64 % 64), .int .u8 (128 + c % 64)] rfl rfl rfl rfl (ones_of [224 + c / 4096, 128 + c / 64 % 64, 128 + c % 64]) (by omega) hB ?_); intro v3 w3 hown3 hb3)
    go_wp2_with fail
    go_ret
    exact ⟨v3, rfl, by simpa [octs] using hown3, hb3⟩
set_option maxRecDepth 100000 in
set_option maxHeartbeats 1000000 in
theorem appendRune4 (c : Int) (w : World) (v : Value) (n B : Nat) (xs : List Int) (hn : n ≤ 100000000) (hB : B ≤ w.heap.size) (hown : w.ownsRow B 5 1 v n (octs xs)) (h0 : 65536 ≤ c) (h1 : c ≤ 1114111) :
    Calls Tryz.prog 84 #[v, .int .i32 c] w fun e w' => ∃ v', e = .returned v' ∧ w'.ownsRow B 5 1 v' (n + (runeL c).length) (octs (xs ++ runeL c)) ∧ Below B w w' := by
  have hl : runeL c = [240 + c / 262144, 128 + c / 4096 % 64, 128 + c / 64 % 64, 128 + c % 64] := by unfold runeL; rw [if_neg (by omega), if_neg (by omega), if_neg (by omega)]
  rw [hl]
  clear hl
  go_enter Tryz.func84, Tryz.ntmps84
  go_wp2_with (at_builtin; (refine fw_append rfl _ _ 113 rfl B 5 (.int .u8 0) 1 1 Tryz.underlying113 u8i rfl (by decide) (by decide) _ _ _ rfl hown w.heap.size 4 [.int .u8 (240 + c / 262144), .int .u8 (128 + c / 4096 % 64), .int .u8 (128 + c / 64 % 64), .int .u8 (128 + c % 64)] rfl rfl rfl rfl (ones_of [240 + c / 262144, 128 + c / 4096 % 64, 128 + c / 64 % 64, 128 + c % 64]) (by omega) hB ?_); intro v3 w3 hown3 hb3)
  go_wp2_with fail
  go_ret
  exact ⟨v3, rfl, by simpa [octs] using hown3, hb3⟩
set_option maxRecDepth 100000 in
set_option maxHeartbeats 1000000 in
theorem appendRune_any (c : Int) (w : World) (v : Value) (n B : Nat) (xs : List Int) (hn : n ≤ 100000000) (hB : B ≤ w.heap.size) (hown : w.ownsRow B 5 1 v n (octs xs)) (h0 : 0 ≤ c) (h1 : c ≤ 1114111) (hs : c < 55296 ∨ 57343 < c) :
    Calls Tryz.prog 45 #[v, .int .i32 c] w fun e w' => ∃ v', e = .returned v' ∧ w'.ownsRow B 5 1 v' (n + (runeL c).length) (octs (xs ++ runeL c)) ∧ Below B w w' := by
  by_cases h2 : c < 128
  · have hl : runeL c = [c] := by unfold runeL; rw [if_pos h2]
    rw [hl]
    clear hl
    go_enter Tryz.func45, Tryz.ntmps45
    go_wp2_with (at_builtin; (refine fw_append rfl _ _ 113 rfl B 5 (.int .u8 0) 1 1 Tryz.underlying113 u8i rfl (by decide) (by decide) _ _ _ rfl hown w.heap.size 1 [.int .u8 (c)] rfl rfl rfl rfl (ones_of [c]) (by omega) hB ?_); intro v3 w3 hown3 hb3)
    go_wp2_with fail
    go_ret
    exact ⟨v3, rfl, by simpa [octs] using hown3, hb3⟩
  · have hc : Calls Tryz.prog 84 #[v, .int .i32 c] w fun e w' => ∃ v', e = .returned v' ∧ w'.ownsRow B 5 1 v' (n + (runeL c).length) (octs (xs ++ runeL c)) ∧ Below B w w' := by
      by_cases h3 : c < 2048
      · exact appendRune2 c w v n B xs hn hB hown (by omega) h3
      · by_cases h4 : c < 65536
        · exact appendRune3 c w v n B xs hn hB hown (by omega) h4 hs
        · exact appendRune4 c w v n B xs hn hB hown (by omega) h1
    clear hown hs
    go_enter Tryz.func45, Tryz.ntmps45
    go_wp2_with fail
    refine hc.mono ?_
    rintro e w1 ⟨v', rfl, hown1, hb1⟩
    go_wp2_with fail
    go_ret
    exact ⟨v', rfl, hown1, hb1⟩
end Go.Proofs.YtmbfechiallppaaGreatDoor
end
section
namespace Go.Proofs.YtmbfechiallppaaGreatDoor
open Go.RowKit Go.Fw
def fixR (c : Int) : Int := if c < 0 ∨ 1114111 < c ∨ (55296 ≤ c ∧ c ≤ 57343) then 65533 else c
def encL (xs : List Int) : List Int := xs.flatMap (fun c => runeL (fixR c))
theorem encL_step (xs : List Int) (k : Nat) (h : k < xs.length) : encL (xs.take (k + 1)) = encL (xs.take k) ++ runeL (fixR (xs.getD k 0)) := by
  have e : xs.getD k 0 = xs[k] := by rw [List.getD_eq_getElem?_getD, List.getElem?_eq_getElem h]; rfl
  unfold encL
  rw [List.take_succ_eq_append_getElem h, List.flatMap_append, e]
  simp
theorem encL_len (xs : List Int) : (encL xs).length ≤ 4 * xs.length := by
  unfold encL
  induction xs with
  | nil => simp
  | cons x xs ih =>
    have := runeL_len (fixR x)
    rw [List.flatMap_cons, List.length_append, List.length_cons]
    omega
set_option maxRecDepth 100000 in
set_option maxHeartbeats 2000000 in
theorem encode_any (xs : List Int) (a : Option Addr) (n c : Nat) (w : World) (hn : n = xs.length) (hm : xs.length ≤ 20000000) (h1 : At w a (ints xs)) :
    Calls Tryz.prog 20 #[.slice a n c] w fun e w' => e = .returned (.string (strOfNums (encL xs))) ∧ Below w.heap.size w w' := by
  have Hn := Lib.hid hn
  rw [← hn] at hm
  clear hn
  go_enter Tryz.func20, Tryz.ntmps20
  go_wp2_with fail
  go_loopw [3, 8] (fun v i wr => ∃ k : Nat, k ≤ n ∧ i = .int .i64 k ∧ wr.ownsRow w.heap.size 5 1 v (encL (xs.take k)).length (octs (encL (xs.take k))) ∧ Below w.heap.size w wr) (fun _ i _ => n - (intOf i).toNat)
  case atStart => exact ⟨0, Nat.zero_le _, rfl, World.ownsRow_nil _ _ _ _, Below.refl _ _⟩
  case round =>
    obtain ⟨k, hk, rfl, hown, hbl⟩ := hrel
    by_cases hlt : k < n
    · obtain ⟨b, o, ha, hb, hc⟩ := h1.int (i := k) (by rw [← Hn.out]; exact hlt)
      rw [ha]
      have hx := (hbl.cell (p := ⟨b, o + k, none⟩) hb).trans (hc k (by rw [← Hn.out]; exact hlt))
      have hlen : (encL (xs.take k)).length ≤ 100000000 := by
        have := encL_len (xs.take k)
        rw [List.length_take] at this
        omega
      have Hstep := Lib.hid (encL_step xs k (by rw [← Hn.out]; exact hlt))
      clear hc ha
      generalize xs.getD k 0 = x at *
      generalize encL (xs.take k) = Z at *
      have hcase : (x < 0 ∧ Hid (fixR x = 65533)) ∨ (¬ x < 0 ∧ 1114111 < x ∧ Hid (fixR x = 65533)) ∨ (¬ x < 0 ∧ ¬ 1114111 < x ∧ 55296 ≤ x ∧ x ≤ 57343 ∧ Hid (fixR x = 65533)) ∨ (¬ x < 0 ∧ ¬ 1114111 < x ∧ ¬ 55296 ≤ x ∧ Hid (fixR x = x)) ∨ (¬ x < 0 ∧ ¬ 1114111 < x ∧ 55296 ≤ x ∧ ¬ x ≤ 57343 ∧ Hid (fixR x = x)) := by
        unfold Hid fixR
        split <;> omega
      rcases hcase with ⟨p1, hf⟩ | ⟨p1, p2, hf⟩ | ⟨p1, p2, p3, p4, hf⟩ | ⟨p1, p2, p3, hf⟩ | ⟨p1, p2, p3, p4, hf⟩
      all_goals
        go_wp2_with fail
        refine (appendRune_any _ _ _ _ _ Z hlen hbl.size hown (by omega) (by omega) (by omega)).mono ?_
        rintro e w1 ⟨v', rfl, hown1, hb1⟩
        have hbl1 := hbl.trans hb1
        clear hown hbl hb1
        go_wp2_with fail
        go_roundw
        case rel => exact ⟨k + 1, by omega, by go_num, by rw [Hstep.out, hf.out, List.length_append]; exact hown1, hbl1⟩
        case measure => simp [intOf]; omega
    · obtain rfl : k = n := by omega
      obtain ⟨a', c', hv, hat⟩ := At.own hown
      have hcv := conv_octs (P := Tryz.prog) Tryz.underlying113 Tryz.underlying5 Tryz.underlying9 c' rfl hat
      rw [List.take_of_length_le (by rw [Hn.out]; exact Nat.le_refl _)] at hcv hv
      rw [hv]
      clear hown hat
      go_wp2_with fail
      go_ret
      exact ⟨rfl, hbl⟩
end Go.Proofs.YtmbfechiallppaaGreatDoor
end
section
namespace Go.Proofs.YtmbfechiallppaaGreatDoor
open Go Go.RowKit Go.Fw Go.Sx
set_option maxRecDepth 100000
set_option maxHeartbeats 1000000
def putT (t : ByteArray) (x : Int) : ByteArray := if (t ++ strOfNums (encL [x])).size ≤ 256 then t ++ strOfNums (encL [x]) else t
def textU (p : Ps) (x : Int) : Ps × List Ac :=
  if x = 27 then ((p.1 + 1, p.2), [])
  else if x = 24 ∨ x = 26 then (sP 0, [dA])
  else if p.1 = 9 then (p, [])
  else if x = 7 then (sP 0, [(5, 0, 0, e0, nA, p.2.2.2.2)])
  else if x < 32 ∨ (127 ≤ x ∧ x ≤ 159) then (p, [])
  else ((p.1, p.2.1, p.2.2.1, p.2.2.2.1, putT p.2.2.2.2 x), [])
attribute [local irreducible] SW SL SQ AtQ SV SC BB LD PK Yields SO SOT SOA SY SP SPT SPA
theorem enc1_sv (G : Ctx) (H : List Ent) (x : Int) (a : Option Addr) (c : Nat) [h1 : RdC G H a [.int .i64 x]] : SV Tryz.prog G 20 [.slice a 1 c] H (.string (strOfNums (encL [x]))) :=
  sv_of_calls (callee_of Tryz.func20 rfl rfl) fun w hw => encode_any [x] a 1 c w rfl (by simp) (h1.here w hw)
theorem mText_sc (G : Ctx) (K : List Ent) (b : Nat) (s m : Int) (i g t : ByteArray) (X : List Ac) (a : Option Addr) (c : Nat) (x : Int) (hs : 0 ≤ s ∧ s ≤ 10) (ht : t.size ≤ 256) (hX : X.length ≤ 10000000) : SC Tryz.prog G 110 [.pointer (some ⟨b, 0, none⟩), .int .i64 x] (mcH b (s, m, i, g, t) X a c K) (fun v H' => ∃ a' c', v = resV [] ∧ H' = mcH b (textU (s, m, i, g, t) x).1 (X ++ (textU (s, m, i, g, t) x).2) a' c' K) := by
  have c1 := fun K => mEmit_sc G K b s m i g t X a c 5 0 0 e0 nA t hX
  have c2 := fun K => mDrop_sc G K b s m i g t X a c 0 hX
  have c3 := fun K X a c => mEnter_sc G K b s m i g t X a c 0
  have c4 := fun H => pWithin_sv G H x 127 159
  have c5 := fun (H : List Ent) (a : Option Addr) (c : Nat) (h : RdC G H a [.int .i64 x]) => enc1_sv G H x a c
  have hel := encL_len [x]
  have hcat : t.size + (strOfNums (encL [x])).size ≤ 9223372036854775807 := by rw [strOfNums_size]; simp at hel; omega
  unfold mcH at *
  dsimp only at *
  refine sc_enter2 Tryz.func110 rfl rfl rfl rfl rfl ?_
  repeat' ((first | (apply g_sl; (first | (apply ks_nil; refine sl_nil ?_) | (apply ks_move; refine s_move rfl rfl ?_) | (apply ks_bin; refine s_bin rfl rfl rfl ?_; ((((first | (apply kb_add; (refine bb_add ⟨by omega, by omega⟩ ?_)) | refine bb_of rfl ?_))))) | (apply ks_load; ((refine s_load rfl rfl ?_; (refine ld_cell rfl ?_)))) | (apply ks_asgn; refine s_asgn rfl rfl ?_) | (apply ks_pick; refine s_pick rfl rfl ?_; (first | (apply kp_t; refine pk_t rfl ?_) | (apply kp_f; refine pk_f rfl ?_))) | (apply ks_field; (refine s_field (c_field0 rfl rfl) rfl ?_)) | (apply ks_build; (refine s_build (c_build rfl rfl rfl) rfl ?_)) | (apply ks_nilc; refine s_nilc (y_nilCheck rfl rfl) rfl ?_) | (apply ks_fn; ((first | (refine c_call rfl rfl rfl (c1 _) rfl rfl ?_; rintro _ _ ⟨a1, k1, rfl, rfl⟩) | (refine c_call rfl rfl rfl (c2 _) rfl rfl ?_; rintro _ _ ⟨a1, k1, rfl, rfl⟩) | (refine c_call rfl rfl rfl (c3 _ _ _ _) rfl rfl ?_; rintro _ _ ⟨rfl, rfl⟩) | refine c_callv rfl rfl rfl (c4 _) rfl rfl ?_ | refine c_callv rfl rfl rfl (c5 _ _ _ inferInstance) rfl rfl ?_))) | (apply ks_bi; ((refine s_call (c_len_str rfl rfl) rfl ?_))) | (apply ks_store; ((refine c_store rfl rfl rfl rfl rfl rfl rfl ?_))) | (apply ks_bs; (refine c_buildSlice rfl rfl rfl rfl rfl rfl rfl rfl rfl rfl (fun _ => ?_))) | (apply ks_guard; ((refine sl_gd rfl rfl rfl rfl ?_; (first | (apply gd_t) | (apply gd_tf) | (apply gd_dec_f <;> intro hq <;> (try (exfalso; omega))))))))) | (apply g_atso; refine so_back (k := 0) (fun _ hw => hw.subs (by repeat ((first | refine Subs.cons (by repeat constructor) ?_ | exact Subs.sub (by repeat ((first | exact List.Sublist.refl _ | refine List.Sublist.cons _ ?_))))))) ?_) | (apply g_sot; (first | (refine sot_skip rfl ?_) | (refine sot_take rfl rfl rfl rfl (by kernel_rfl) (by decide +kernel) (by decide +kernel) ?_; ((first | (apply ky_move; refine sy_val (y_move rfl rfl) ?_) | (apply ky_bin; refine sy_bin rfl rfl ?_; (((refine bb_cat hcat ?_)))) | (apply ky_load; ((refine sy_load rfl ?_; (refine ld_cell rfl ?_)))) | (apply ky_asgn; refine sy_val (y_assign rfl rfl) ?_) | (apply ky_field; (refine sy_val (c_field0 rfl rfl) ?_)) | (apply ky_nilc; refine sy_val (y_nilCheck rfl rfl) ?_)))) | (refine sot_next rfl ?_) | (refine so_done (by decide +kernel) ?_) | (refine sot_all (by kernel_rfl) ?_))) | (apply g_soa; (first | (refine soa_end rfl) | (refine soa_no (by decide +kernel) ?_) | (refine soa_yes rfl ?_ ?_))) | (apply sw_seq) | (apply sw_skip) | (apply sw_block) | (apply sw_region) | (refine sw_cd rfl ?_; (first | (apply gd_t) | (apply gd_dec_t <;> intro hq <;> (try (exfalso; omega))))) | (apply at_thn) | (apply at_inb) | ((refine g_reg (id := 0) ?_; refine c_drawno _ (fun _ hw => hw) ?_))))
  all_goals first
    | (refine e_scf _ (by first | exact .inl rfl | exact .inr rfl) rfl (fun _ hw => hw) ?_
       unfold textU
       dsimp only
       (repeat ((first | rw [if_pos (by (first | assumption | omega))] | rw [if_neg (by (first | assumption | omega))])))
       first | exact ⟨_, _, rfl, rfl⟩ | (rw [List.append_nil]; exact ⟨_, _, rfl, rfl⟩))
    | (refine e_scf (.blk b 167 [.int .i64 s, .int .i64 m, .string i, .string g, .string (putT t x), .slice a X.length c] :: .own 174 6 a X.length c (acs X) :: K) (by first | exact .inl rfl | exact .inr rfl) rfl ?_ ?_
       · unfold putT
         (repeat ((first | rw [if_pos (by (omega))] | rw [if_neg (by (omega))])))
         exact (fun _ hw => hw.subs (by repeat ((first | refine Subs.cons (by repeat constructor) ?_ | exact Subs.sub (by repeat ((first | exact List.Sublist.refl _ | refine List.Sublist.cons _ ?_)))))))
       · unfold textU
         dsimp only
         (repeat ((rw [if_neg (by (first | assumption | omega))])))
         rw [List.append_nil]
         exact ⟨_, _, rfl, rfl⟩)
/-- What take does behind a text's escape. -/
def restU (p : Ps) (x : Int) (r : Rx Int) : Ps × List Ac :=
  if x < 32 ∨ (127 ≤ x ∧ x ≤ 159) then (ctlU p x).2
  else if p.1 = 0 then (p, [(1, x, 0, e0, nA, e0)])
  else if 160 ≤ x then (sP 0, [dA])
  else if p.1 ≤ 2 then escU p x
  else csiU p x r
def takeU (p : Ps) (x : Int) (r : Rx Int) : Ps × List Ac :=
  if x < 0 ∨ 1114111 < x then (p, [])
  else if p.1 = 7 ∨ p.1 = 9 then textU p x
  else if p.1 = 8 ∨ p.1 = 10 then
    if x = 92 then (sP 0, [if p.1 = 8 then (5, 0, 0, e0, nA, p.2.2.2.2) else dA])
    else ((restU (sP 1) x r).1, dA :: (restU (sP 1) x r).2)
  else restU p x r
abbrev TakeR (G : Ctx) (K : List Ent) (b : Nat) (U : Rx Int → Ps × List Ac) (X : List Ac) (g : ByteArray) (v : Value) (H' : List Ent) : Prop :=
  ∃ a2 c2 F a' c', v = resV [] ∧ H' = mcH b (U (a2, c2, (readA g).1)).1 (X ++ (U (a2, c2, (readA g).1)).2) a' c' (F ++ K) ∧ ∀ y ∈ (U (a2, c2, (readA g).1)).2, Sl ints G F y.2.2.2.2.1
theorem slP {G : Ctx} {H : List Ent} {k x : Int} {t : ByteArray} : ∀ y ∈ [((k, x, 0, e0, nA, t) : Ac)], Sl ints G H y.2.2.2.2.1 := fun y h => by
  rw [List.mem_singleton] at h
  subst h
  exact Sl.nil rfl
theorem ctl_t (G : Ctx) (K : List Ent) (b : Nat) (s m : Int) (i g t : ByteArray) (X : List Ac) (a : Option Addr) (c : Nat) (x : Int) (hx : x < 32 ∨ (127 ≤ x ∧ x ≤ 159)) (hX : X.length ≤ 10000000) : SC Tryz.prog G 114 [.pointer (some ⟨b, 0, none⟩), .int .i64 x] (mcH b (s, m, i, g, t) X a c K) (fun v H' => ∃ a' c', v = .bool true ∧ H' = mcH b (ctlU (s, m, i, g, t) x).2.1 (X ++ (ctlU (s, m, i, g, t) x).2.2) a' c' K) :=
  have h : (ctlU (s, m, i, g, t) x).1 = true := by
    unfold ctlU
    dsimp only
    by_cases h1 : x = 27
    · rw [if_pos h1]
    by_cases h2 : x = 24 ∨ x = 26
    · rw [if_neg h1, if_pos h2]
    by_cases h3 : x < 32
    · rw [if_neg h1, if_neg h2, if_pos h3]
    · rw [if_neg h1, if_neg h2, if_neg h3]
      exact decide_eq_true (by omega)
  sc_imp (mControl_sc G K b s m i g t X a c x hX) fun v H' ⟨a1, k1, h1, h2⟩ => ⟨a1, k1, by rw [h1, h], h2⟩
theorem ctl_f (G : Ctx) (K : List Ent) (b : Nat) (s m : Int) (i g t : ByteArray) (X : List Ac) (a : Option Addr) (c : Nat) (x : Int) (hx : ¬ (x < 32 ∨ (127 ≤ x ∧ x ≤ 159))) (hX : X.length ≤ 10000000) : SC Tryz.prog G 114 [.pointer (some ⟨b, 0, none⟩), .int .i64 x] (mcH b (s, m, i, g, t) X a c K) (fun v H' => ∃ a' c', v = .bool false ∧ H' = mcH b (s, m, i, g, t) X a' c' K) :=
  have h : ctlU (s, m, i, g, t) x = (false, (s, m, i, g, t), []) := by
    unfold ctlU
    dsimp only
    rw [if_neg (by omega), if_neg (by omega), if_neg (by omega), decide_eq_false (by omega)]
  sc_imp (mControl_sc G K b s m i g t X a c x hX) fun v H' ⟨a1, k1, h1, h2⟩ => ⟨a1, k1, by rw [h1, h], by rw [h2, h]; dsimp only; rw [List.append_nil]⟩
theorem take_rest (G : Ctx) (K : List Ent) (M : Int) (hM : ∀ H w, Holds G H w → w.cell? ⟨2, 0, none⟩ = some (.int .i64 M)) (b : Nat) (s m : Int) (i g t : ByteArray) (X : List Ac) (a : Option Addr) (c : Nat) (x : Int) (hs : 0 ≤ s ∧ s ≤ 6) (hx : 0 ≤ x ∧ x ≤ 1114111) (hX : X.length ≤ 10000000) (hg : g.size ≤ 200) : SC Tryz.prog G 71 [.pointer (some ⟨b, 0, none⟩), .int .i64 x] (mcH b (s, m, i, g, t) X a c K) (TakeR G K b (takeU (s, m, i, g, t) x) X g) := by
  have hF : ∀ Z : Ps × List Ac, (∀ r, restU (s, m, i, g, t) x r = Z) → takeU (s, m, i, g, t) x = fun _ => Z := fun Z h => funext fun r => by
    unfold takeU
    dsimp only
    rw [if_neg (by omega), if_neg (by omega), if_neg (by omega), h]
  have hG : (∀ r, restU (s, m, i, g, t) x r = csiU (s, m, i, g, t) x r) → takeU (s, m, i, g, t) x = csiU (s, m, i, g, t) x := fun h => funext fun r => by
    unfold takeU
    dsimp only
    rw [if_neg (by omega), if_neg (by omega), if_neg (by omega), h]
  unfold restU at hF hG
  dsimp only at hF hG
  by_cases hc : x < 32 ∨ (127 ≤ x ∧ x ≤ 159)
  · have c5 := fun K => ctl_t G K b s m i g t X a c x hc hX
    rw [hF _ fun r => if_pos hc]
    have hno : ∀ y ∈ (ctlU (s, m, i, g, t) x).2.2, Sl ints G [] y.2.2.2.2.1 := fun y h => by
      have : y.2.2.2.2.1 = nA := by
        unfold ctlU at h
        dsimp only at h
        repeat' split at h
        all_goals (first | (rw [List.mem_singleton] at h; subst h; rfl) | cases h)
      rw [this]
      exact Sl.nil rfl
    clear hF hG
    unfold TakeR
    dsimp only
    unfold mcH at *
    dsimp only at *
    refine sc_enter2 Tryz.func71 rfl rfl rfl rfl rfl ?_
    repeat' ((first | (apply g_sl; (first | (apply ks_nil; refine sl_nil ?_) | (apply ks_move; refine s_move rfl rfl ?_) | (apply ks_bin; refine s_bin rfl rfl rfl ?_; (((refine bb_of rfl ?_)))) | (apply ks_load; ((refine s_load rfl rfl ?_; (refine ld_cell rfl ?_)))) | (apply ks_asgn; refine s_asgn rfl rfl ?_) | (apply ks_pick; refine s_pick rfl rfl ?_; ((apply kp_f; refine pk_f rfl ?_))) | (apply ks_field; (refine s_field (c_field0 rfl rfl) rfl ?_)) | (apply ks_nilc; refine s_nilc (y_nilCheck rfl rfl) rfl ?_) | (apply ks_fn; (((refine c_call rfl rfl rfl (c5 _) rfl rfl ?_; rintro _ _ ⟨a1, k1, rfl, rfl⟩)))) | (apply ks_guard; ((refine sl_gd rfl rfl rfl rfl ?_; (first | (apply gd_t) | (apply gd_dec_f <;> intro hq <;> (try (exfalso; omega))))))))) | (apply sw_seq) | (apply sw_skip) | (apply sw_block) | (apply sw_region) | (refine sw_cd rfl ?_; (first | (apply gd_t) | (apply gd_dec_t <;> intro hq <;> (try (exfalso; omega))))) | (apply at_thn) | (apply at_inb)))
    all_goals (exact e_scf _ (by (exact .inl rfl)) rfl (fun _ hw => hw) ⟨none, 0, [], _, _, rfl, rfl, hno⟩)
  · have c5 := fun K => ctl_f G K b s m i g t X a c x hc hX
    by_cases h0 : s = 0
    · have c1 := fun K a c => mEmit_sc G K b s m i g t X a c 1 x 0 e0 nA e0 hX
      rw [hF ((s, m, i, g, t), [(1, x, 0, e0, nA, e0)]) fun r => by (repeat ((first | rw [if_pos (by (assumption))] | rw [if_neg (by (assumption))])))]
      clear hF hG
      subst h0
      unfold TakeR
      dsimp only
      unfold mcH at *
      dsimp only at *
      refine sc_enter2 Tryz.func71 rfl rfl rfl rfl rfl ?_
      repeat' ((first | (apply g_sl; (first | (apply ks_nil; refine sl_nil ?_) | (apply ks_move; refine s_move rfl rfl ?_) | (apply ks_bin; refine s_bin rfl rfl rfl ?_; (((refine bb_of rfl ?_)))) | (apply ks_load; ((refine s_load rfl rfl ?_; (refine ld_cell rfl ?_)))) | (apply ks_asgn; refine s_asgn rfl rfl ?_) | (apply ks_pick; refine s_pick rfl rfl ?_; ((apply kp_f; refine pk_f rfl ?_))) | (apply ks_field; (refine s_field (c_field0 rfl rfl) rfl ?_)) | (apply ks_build; (refine s_build (c_build rfl rfl rfl) rfl ?_)) | (apply ks_nilc; refine s_nilc (y_nilCheck rfl rfl) rfl ?_) | (apply ks_fn; ((first | (refine c_call rfl rfl rfl (c5 _) rfl rfl ?_; rintro _ _ ⟨a1, k1, rfl, rfl⟩) | (refine c_call rfl rfl rfl (c1 _ _ _) rfl rfl ?_; rintro _ _ ⟨a1, k1, rfl, rfl⟩)))) | (apply ks_guard; ((refine sl_gd rfl rfl rfl rfl ?_; (first | (apply gd_t) | (apply gd_dec_f <;> intro hq <;> (try (exfalso; omega))))))))) | (apply sw_seq) | (apply sw_skip) | (apply sw_block) | (apply sw_region) | (refine sw_cd rfl ?_; (first | (apply gd_t) | (apply gd_ft) | (apply gd_dec_t <;> intro hq <;> (try (exfalso; omega))))) | (apply at_thn) | (apply at_inb)))
      all_goals (exact e_scf _ (by (exact .inl rfl)) rfl (fun _ hw => hw) ⟨none, 0, [], _, _, rfl, rfl, slP⟩)
    by_cases h160 : 160 ≤ x
    · have c1 := fun K a c => mDrop_sc G K b s m i g t X a c 0 hX
      rw [hF (sP 0, [dA]) fun r => by (repeat ((first | rw [if_pos (by (assumption))] | rw [if_neg (by (assumption))])))]
      clear hF hG
      unfold TakeR
      dsimp only
      unfold mcH at *
      dsimp only at *
      refine sc_enter2 Tryz.func71 rfl rfl rfl rfl rfl ?_
      repeat' ((first | (apply g_sl; (first | (apply ks_nil; refine sl_nil ?_) | (apply ks_move; refine s_move rfl rfl ?_) | (apply ks_bin; refine s_bin rfl rfl rfl ?_; (((refine bb_of rfl ?_)))) | (apply ks_load; ((refine s_load rfl rfl ?_; (refine ld_cell rfl ?_)))) | (apply ks_asgn; refine s_asgn rfl rfl ?_) | (apply ks_pick; refine s_pick rfl rfl ?_; ((apply kp_f; refine pk_f rfl ?_))) | (apply ks_field; (refine s_field (c_field0 rfl rfl) rfl ?_)) | (apply ks_nilc; refine s_nilc (y_nilCheck rfl rfl) rfl ?_) | (apply ks_fn; ((first | (refine c_call rfl rfl rfl (c5 _) rfl rfl ?_; rintro _ _ ⟨a1, k1, rfl, rfl⟩) | (refine c_call rfl rfl rfl (c1 _ _ _) rfl rfl ?_; rintro _ _ ⟨a1, k1, rfl, rfl⟩)))) | (apply ks_guard; ((refine sl_gd rfl rfl rfl rfl ?_; (first | (apply gd_t) | (apply gd_dec_f <;> intro hq <;> (try (exfalso; omega))))))))) | (apply sw_seq) | (apply sw_skip) | (apply sw_block) | (apply sw_region) | (refine sw_cd rfl ?_; (first | (apply gd_ft) | (apply gd_dec_t <;> intro hq <;> (try (exfalso; omega))))) | (apply at_thn) | (apply at_inb)))
      all_goals (exact e_scf _ (by (exact .inl rfl)) rfl (fun _ hw => hw) ⟨none, 0, [], _, _, rfl, rfl, slD⟩)
    by_cases h2 : s ≤ 2
    · have c1 := fun K a c => mEsc_sc G K b s m i g t X a c x (by omega) hX
      rw [hF (escU (s, m, i, g, t) x) fun r => by (repeat ((first | rw [if_pos (by (assumption))] | rw [if_neg (by (assumption))])))]
      have hno : ∀ y ∈ (escU (s, m, i, g, t) x).2, Sl ints G [] y.2.2.2.2.1 := fun y h => by
        have : y.2.2.2.2.1 = nA := by
          unfold escU finA at h
          dsimp only at h
          repeat' split at h
          all_goals (first | (rw [List.mem_singleton] at h; subst h; rfl) | cases h)
        rw [this]
        exact Sl.nil rfl
      clear hF hG
      unfold TakeR
      dsimp only
      unfold mcH at *
      dsimp only at *
      refine sc_enter2 Tryz.func71 rfl rfl rfl rfl rfl ?_
      repeat' ((first | (apply g_sl; (first | (apply ks_nil; refine sl_nil ?_) | (apply ks_move; refine s_move rfl rfl ?_) | (apply ks_bin; refine s_bin rfl rfl rfl ?_; (((refine bb_of rfl ?_)))) | (apply ks_load; ((refine s_load rfl rfl ?_; (refine ld_cell rfl ?_)))) | (apply ks_asgn; refine s_asgn rfl rfl ?_) | (apply ks_pick; refine s_pick rfl rfl ?_; ((apply kp_f; refine pk_f rfl ?_))) | (apply ks_field; (refine s_field (c_field0 rfl rfl) rfl ?_)) | (apply ks_nilc; refine s_nilc (y_nilCheck rfl rfl) rfl ?_) | (apply ks_fn; ((first | (refine c_call rfl rfl rfl (c5 _) rfl rfl ?_; rintro _ _ ⟨a1, k1, rfl, rfl⟩) | (refine c_call rfl rfl rfl (c1 _ _ _) rfl rfl ?_; rintro _ _ ⟨a1, k1, rfl, rfl⟩)))) | (apply ks_guard; ((refine sl_gd rfl rfl rfl rfl ?_; (first | (apply gd_t) | (apply gd_dec_f <;> intro hq <;> (try (exfalso; omega))))))))) | (apply sw_seq) | (apply sw_skip) | (apply sw_block) | (apply sw_region) | (refine sw_cd rfl ?_; (first | (apply gd_ft) | (apply gd_dec_t <;> intro hq <;> (try (exfalso; omega))))) | (apply at_thn) | (apply at_inb)))
      all_goals (exact e_scf _ (by (exact .inl rfl)) rfl (fun _ hw => hw) ⟨none, 0, [], _, _, rfl, rfl, hno⟩)
    · have c1 := fun K a c => mCsi_sc G K M hM b s m i g t X a c x (by omega) hX hg
      rw [hG fun r => by (repeat ((rw [if_neg (by (assumption))])))]
      clear hF hG
      unfold TakeR
      unfold mcH at *
      dsimp only at *
      refine sc_enter2 Tryz.func71 rfl rfl rfl rfl rfl ?_
      repeat' ((first | (apply g_sl; (first | (apply ks_nil; refine sl_nil ?_) | (apply ks_move; refine s_move rfl rfl ?_) | (apply ks_bin; refine s_bin rfl rfl rfl ?_; (((refine bb_of rfl ?_)))) | (apply ks_load; ((refine s_load rfl rfl ?_; (refine ld_cell rfl ?_)))) | (apply ks_asgn; refine s_asgn rfl rfl ?_) | (apply ks_pick; refine s_pick rfl rfl ?_; ((apply kp_f; refine pk_f rfl ?_))) | (apply ks_field; (refine s_field (c_field0 rfl rfl) rfl ?_)) | (apply ks_nilc; refine s_nilc (y_nilCheck rfl rfl) rfl ?_) | (apply ks_fn; ((first | (refine c_call rfl rfl rfl (c5 _) rfl rfl ?_; rintro _ _ ⟨a1, k1, rfl, rfl⟩) | (refine c_call rfl rfl rfl (c1 _ _ _) rfl rfl ?_; rintro _ _ ⟨a2, k2, F, a1, k1, rfl, rfl, hno⟩)))) | (apply ks_guard; ((refine sl_gd rfl rfl rfl rfl ?_; (first | (apply gd_t) | (apply gd_dec_f <;> intro hq <;> (try (exfalso; omega))))))))) | (apply sw_seq) | (apply sw_skip) | (apply sw_block) | (apply sw_region) | (refine sw_cd rfl ?_; (first | (apply gd_ft) | (apply gd_dec_t <;> intro hq <;> (try (exfalso; omega))))) | (apply at_thn) | (apply at_inb)))
      all_goals (exact e_scf _ (by (exact .inl rfl)) rfl (fun _ hw => hw) ⟨a2, k2, F, _, _, rfl, rfl, hno⟩)
theorem take_out (G : Ctx) (K : List Ent) (b : Nat) (s m : Int) (i g t : ByteArray) (X : List Ac) (a : Option Addr) (c : Nat) (x : Int) (hx : x < 0 ∨ 1114111 < x) : SC Tryz.prog G 71 [.pointer (some ⟨b, 0, none⟩), .int .i64 x] (mcH b (s, m, i, g, t) X a c K) (TakeR G K b (takeU (s, m, i, g, t) x) X g) := by
  rw [show takeU (s, m, i, g, t) x = fun _ => ((s, m, i, g, t), []) from funext fun r => by unfold takeU; rw [if_pos hx]]
  unfold TakeR
  dsimp only
  rw [List.append_nil]
  refine sc_enter2 Tryz.func71 rfl rfl rfl rfl rfl ?_
  repeat' ((first | (apply g_sl; (first | (apply ks_nil; refine sl_nil ?_) | (apply ks_move; refine s_move rfl rfl ?_) | (apply ks_bin; refine s_bin rfl rfl rfl ?_; (((refine bb_of rfl ?_)))) | (apply ks_pick; refine s_pick rfl rfl ?_; (first | (apply kp_t; refine pk_t rfl ?_) | (apply kp_f; refine pk_f rfl ?_))) | (apply ks_guard; ((refine sl_gd rfl rfl rfl rfl ?_; (first | (apply gd_t) | (apply gd_tf) | (apply gd_dec_f <;> intro hq <;> (try (exfalso; omega))))))))) | (apply sw_seq) | (apply sw_ret) | (apply sw_region) | (refine sw_cd rfl ?_; (first | (apply gd_t) | (apply gd_dec_t <;> intro hq <;> (try (exfalso; omega))))) | (apply at_thn) | (apply at_thn_ret)))
  all_goals (exact e_scf _ (by (exact .inr rfl)) rfl (fun _ hw => hw) ⟨none, 0, [], a, c, rfl, rfl, fun _ h => nomatch h⟩)
theorem take_text (G : Ctx) (K : List Ent) (b : Nat) (s m : Int) (i g t : ByteArray) (X : List Ac) (a : Option Addr) (c : Nat) (x : Int) (hs : s = 7 ∨ s = 9) (hx : 0 ≤ x ∧ x ≤ 1114111) (ht : t.size ≤ 256) (hX : X.length ≤ 10000000) : SC Tryz.prog G 71 [.pointer (some ⟨b, 0, none⟩), .int .i64 x] (mcH b (s, m, i, g, t) X a c K) (TakeR G K b (takeU (s, m, i, g, t) x) X g) := by
  rw [show takeU (s, m, i, g, t) x = fun _ => textU (s, m, i, g, t) x from funext fun r => by unfold takeU; dsimp only; rw [if_neg (by omega), if_pos hs]]
  have c1 := fun K a c => mText_sc G K b s m i g t X a c x (by omega) ht hX
  have hno : ∀ y ∈ (textU (s, m, i, g, t) x).2, Sl ints G [] y.2.2.2.2.1 := fun y h => by
    have : y.2.2.2.2.1 = nA := by
      unfold textU at h
      dsimp only at h
      repeat' split at h
      all_goals (first | (rw [List.mem_singleton] at h; subst h; rfl) | cases h)
    rw [this]
    exact Sl.nil rfl
  unfold TakeR
  dsimp only
  unfold mcH at *
  dsimp only at *
  refine sc_enter2 Tryz.func71 rfl rfl rfl rfl rfl ?_
  repeat' ((first | (apply g_sl; (first | (apply ks_nil; refine sl_nil ?_) | (apply ks_move; refine s_move rfl rfl ?_) | (apply ks_bin; refine s_bin rfl rfl rfl ?_; (((refine bb_of rfl ?_)))) | (apply ks_load; ((refine s_load rfl rfl ?_; (refine ld_cell rfl ?_)))) | (apply ks_asgn; refine s_asgn rfl rfl ?_) | (apply ks_pick; refine s_pick rfl rfl ?_; ((apply kp_f; refine pk_f rfl ?_))) | (apply ks_field; (refine s_field (c_field0 rfl rfl) rfl ?_)) | (apply ks_nilc; refine s_nilc (y_nilCheck rfl rfl) rfl ?_) | (apply ks_fn; (((refine c_call rfl rfl rfl (c1 _ _ _) rfl rfl ?_; rintro _ _ ⟨a1, k1, rfl, rfl⟩)))) | (apply ks_guard; ((refine sl_gd rfl rfl rfl rfl ?_; (first | (apply gd_t) | (apply gd_dec_f <;> intro hq <;> (try (exfalso; omega))))))))) | (apply sw_seq) | (apply sw_skip) | (apply sw_ret) | (apply sw_block) | (apply sw_region) | (refine sw_cd rfl ?_; ((apply gd_dec_t <;> intro hq <;> (try (exfalso; omega))))) | (apply at_thn) | (apply at_thn_ret) | (apply at_inb_ret)))
  all_goals (exact e_scf _ (by (exact .inr rfl)) rfl (fun _ hw => hw) ⟨none, 0, [], _, _, rfl, rfl, hno⟩)
theorem take_end (G : Ctx) (K : List Ent) (b : Nat) (s m : Int) (i g t : ByteArray) (X : List Ac) (a : Option Addr) (c : Nat) (x : Int) (hs : s = 8 ∨ s = 10) (hx : x = 92) (hX : X.length ≤ 10000000) : SC Tryz.prog G 71 [.pointer (some ⟨b, 0, none⟩), .int .i64 x] (mcH b (s, m, i, g, t) X a c K) (TakeR G K b (takeU (s, m, i, g, t) x) X g) := by
  rw [show takeU (s, m, i, g, t) x = fun _ => (sP 0, [if s = 8 then (5, 0, 0, e0, nA, t) else dA]) from funext fun r => by unfold takeU; dsimp only; rw [if_neg (by omega), if_neg (by omega), if_pos hs, if_pos hx]]
  have c1 := fun K a c => mEmit_sc G K b s m i g t X a c 5 0 0 e0 nA t hX
  have c2 := fun K a c => mEmit_sc G K b s m i g t X a c 6 0 0 e0 nA e0 hX
  have c3 := fun K X a c => mEnter_sc G K b s m i g t X a c 0
  unfold TakeR
  dsimp only
  unfold mcH at *
  dsimp only at *
  subst hx
  rcases hs with rfl | rfl
  · rw [if_pos rfl]
    refine sc_enter2 Tryz.func71 rfl rfl rfl rfl rfl ?_
    repeat' ((first | (apply g_sl; (first | (apply ks_nil; refine sl_nil ?_) | (apply ks_move; refine s_move rfl rfl ?_) | (apply ks_bin; refine s_bin rfl rfl rfl ?_; ((((refine bb_of rfl ?_))))) | (apply ks_load; ((refine s_load rfl rfl ?_; (first | refine ld_cell rfl ?_ | refine ld_whole rfl ?_)))) | (apply ks_asgn; refine s_asgn rfl rfl ?_) | (apply ks_pick; refine s_pick rfl rfl ?_; ((apply kp_f; refine pk_f rfl ?_))) | (apply ks_field; (refine s_field (c_field0 rfl rfl) rfl ?_)) | (apply ks_build; (refine s_build (c_build rfl rfl rfl) rfl ?_)) | (apply ks_nilc; refine s_nilc (y_nilCheck rfl rfl) rfl ?_) | (apply ks_fn; ((first | (refine sl_heap (fun _ hw => hw.drop) ?_; ((refine c_call rfl rfl rfl (c1 _ _ _) rfl rfl ?_; rintro _ _ ⟨a1, k1, rfl, rfl⟩))) | (refine c_call rfl rfl rfl (c3 _ _ _ _) rfl rfl ?_; rintro _ _ ⟨rfl, rfl⟩)))) | (apply ks_store; ((refine c_storew rfl rfl rfl rfl rfl rfl rfl rfl ?_))) | (apply ks_alloc; refine c_alloc rfl rfl rfl rfl (fun _ => ?_)) | (apply ks_guard; ((refine sl_gd rfl rfl rfl rfl ?_; ((apply gd_t))))))) | (apply sw_seq) | (apply sw_skip) | (apply sw_ret) | (apply sw_block) | (apply sw_region) | (refine sw_cd rfl ?_; (first | (apply gd_t) | (apply gd_ft))) | (apply at_thn) | (apply at_thn_ret) | (apply at_inb_ret)))
    all_goals (exact e_scf _ (by (exact .inr rfl)) rfl (fun _ hw => hw) ⟨none, 0, [], _, _, rfl, rfl, slP⟩)
  · rw [if_neg (by omega)]
    refine sc_enter2 Tryz.func71 rfl rfl rfl rfl rfl ?_
    repeat' ((first | (apply g_sl; (first | (apply ks_nil; refine sl_nil ?_) | (apply ks_move; refine s_move rfl rfl ?_) | (apply ks_bin; refine s_bin rfl rfl rfl ?_; ((((refine bb_of rfl ?_))))) | (apply ks_load; ((refine s_load rfl rfl ?_; (first | refine ld_cell rfl ?_ | refine ld_whole rfl ?_)))) | (apply ks_asgn; refine s_asgn rfl rfl ?_) | (apply ks_pick; refine s_pick rfl rfl ?_; ((apply kp_f; refine pk_f rfl ?_))) | (apply ks_field; (refine s_field (c_field0 rfl rfl) rfl ?_)) | (apply ks_build; (refine s_build (c_build rfl rfl rfl) rfl ?_)) | (apply ks_nilc; refine s_nilc (y_nilCheck rfl rfl) rfl ?_) | (apply ks_fn; ((first | (refine sl_heap (fun _ hw => hw.drop) ?_; ((refine c_call rfl rfl rfl (c2 _ _ _) rfl rfl ?_; rintro _ _ ⟨a1, k1, rfl, rfl⟩))) | (refine c_call rfl rfl rfl (c3 _ _ _ _) rfl rfl ?_; rintro _ _ ⟨rfl, rfl⟩)))) | (apply ks_store; ((refine c_storew rfl rfl rfl rfl rfl rfl rfl rfl ?_))) | (apply ks_alloc; refine c_alloc rfl rfl rfl rfl (fun _ => ?_)) | (apply ks_guard; ((refine sl_gd rfl rfl rfl rfl ?_; ((apply gd_t))))))) | (apply sw_seq) | (apply sw_skip) | (apply sw_ret) | (apply sw_block) | (apply sw_region) | (refine sw_cd rfl ?_; (first | (apply gd_t) | (apply gd_ft))) | (apply at_thn) | (apply at_thn_ret) | (apply at_inb_ret)))
    all_goals (exact e_scf _ (by (exact .inr rfl)) rfl (fun _ hw => hw) ⟨none, 0, [], _, _, rfl, rfl, slD⟩)
theorem noRows {G : Ctx} {H : List Ent} {L : List Ac} (h : ∀ y ∈ L, y.2.2.2.2.1 = nA) : ∀ y ∈ dA :: L, Sl ints G H y.2.2.2.2.1 := fun y hy => by
  rcases List.mem_cons.1 hy with rfl | hy
  · exact Sl.nil rfl
  · rw [h y hy]
    exact Sl.nil rfl
theorem take_esc (G : Ctx) (K : List Ent) (b : Nat) (s m : Int) (i g t : ByteArray) (X : List Ac) (a : Option Addr) (c : Nat) (x : Int) (hs : s = 8 ∨ s = 10) (hx : 0 ≤ x ∧ x ≤ 1114111) (hx2 : ¬ x = 92) (hX : X.length ≤ 9000000) : SC Tryz.prog G 71 [.pointer (some ⟨b, 0, none⟩), .int .i64 x] (mcH b (s, m, i, g, t) X a c K) (TakeR G K b (takeU (s, m, i, g, t) x) X g) := by
  have hF : ∀ Z : Ps × List Ac, (∀ r, restU (sP 1) x r = Z) → takeU (s, m, i, g, t) x = fun _ => (Z.1, dA :: Z.2) := fun Z h => funext fun r => by
    unfold takeU
    dsimp only
    rw [if_neg (by omega), if_neg (by omega), if_pos hs, if_neg hx2, h]
  unfold restU at hF
  dsimp only at hF
  have hXl : (X ++ [dA]).length ≤ 10000000 := by rw [List.length_append]; simp; omega
  have hap : ∀ L, X ++ dA :: L = (X ++ [dA]) ++ L := fun L => by simp
  have c1 := fun K a c => mDrop_sc G K b s m i g t X a c 1 (by omega)
  generalize hY : X ++ [dA] = Y at *
  by_cases hc : x < 32 ∨ (127 ≤ x ∧ x ≤ 159)
  · have c5 := fun K a c => ctl_t G K b 1 0 e0 e0 e0 Y a c x hc hXl
    rw [hF _ fun r => if_pos hc]
    have hno : ∀ y ∈ (ctlU (1, 0, e0, e0, e0) x).2.2, y.2.2.2.2.1 = nA := fun y h => by
      unfold ctlU at h
      dsimp only at h
      repeat' split at h
      all_goals (first | (rw [List.mem_singleton] at h; subst h; rfl) | cases h)
    have hno := noRows (G := G) (H := []) hno
    clear hF
    unfold TakeR
    dsimp only
    rw [hap]
    unfold mcH at *
    dsimp only at *
    rcases hs with rfl | rfl
    all_goals
      refine sc_enter2 Tryz.func71 rfl rfl rfl rfl rfl ?_
      repeat' ((first | (apply g_sl; (first | (apply ks_nil; refine sl_nil ?_) | (apply ks_move; refine s_move rfl rfl ?_) | (apply ks_bin; refine s_bin rfl rfl rfl ?_; (((refine bb_of rfl ?_)))) | (apply ks_load; ((refine s_load rfl rfl ?_; (refine ld_cell rfl ?_)))) | (apply ks_asgn; refine s_asgn rfl rfl ?_) | (apply ks_pick; refine s_pick rfl rfl ?_; ((apply kp_f; refine pk_f rfl ?_))) | (apply ks_field; (refine s_field (c_field0 rfl rfl) rfl ?_)) | (apply ks_nilc; refine s_nilc (y_nilCheck rfl rfl) rfl ?_) | (apply ks_fn; ((first | (refine c_call rfl rfl rfl (c1 _ _ _) rfl rfl ?_; rintro _ _ ⟨a1, k1, rfl, rfl⟩) | (refine c_call rfl rfl rfl (c5 _ _ _) rfl rfl ?_; rintro _ _ ⟨a2, k2, rfl, rfl⟩)))) | (apply ks_guard; ((refine sl_gd rfl rfl rfl rfl ?_; (first | (apply gd_t) | (apply gd_dec_f <;> intro hq <;> (try (exfalso; omega))))))))) | (apply sw_seq) | (apply sw_skip) | (apply sw_block) | (apply sw_region) | (refine sw_cd rfl ?_; (first | (apply gd_t) | (apply gd_ft) | (apply gd_dec_t <;> intro hq <;> (try (exfalso; omega))))) | (apply at_thn) | (apply at_inb)))
      all_goals (exact e_scf _ (by (exact .inl rfl)) rfl (fun _ hw => hw) ⟨none, 0, [], _, _, rfl, rfl, hno⟩)
  · have c5 := fun K a c => ctl_f G K b 1 0 e0 e0 e0 Y a c x hc hXl
    by_cases h160 : 160 ≤ x
    · have c2 := fun K a c => mDrop_sc G K b 1 0 e0 e0 e0 Y a c 0 hXl
      rw [hF (sP 0, [dA]) fun r => by rw [if_neg hc, if_neg (by omega), if_pos h160]]
      clear hF
      unfold TakeR
      dsimp only
      rw [hap]
      unfold mcH at *
      dsimp only at *
      have hno : ∀ y ∈ [dA, dA], Sl ints G [] y.2.2.2.2.1 := noRows (fun y h => by rw [List.mem_singleton] at h; subst h; rfl)
      rcases hs with rfl | rfl
      all_goals
        refine sc_enter2 Tryz.func71 rfl rfl rfl rfl rfl ?_
        repeat' ((first | (apply g_sl; (first | (apply ks_nil; refine sl_nil ?_) | (apply ks_move; refine s_move rfl rfl ?_) | (apply ks_bin; refine s_bin rfl rfl rfl ?_; (((refine bb_of rfl ?_)))) | (apply ks_load; ((refine s_load rfl rfl ?_; (refine ld_cell rfl ?_)))) | (apply ks_asgn; refine s_asgn rfl rfl ?_) | (apply ks_pick; refine s_pick rfl rfl ?_; ((apply kp_f; refine pk_f rfl ?_))) | (apply ks_field; (refine s_field (c_field0 rfl rfl) rfl ?_)) | (apply ks_nilc; refine s_nilc (y_nilCheck rfl rfl) rfl ?_) | (apply ks_fn; ((first | (refine c_call rfl rfl rfl (c1 _ _ _) rfl rfl ?_; rintro _ _ ⟨a1, k1, rfl, rfl⟩) | (refine c_call rfl rfl rfl (c5 _ _ _) rfl rfl ?_; rintro _ _ ⟨a2, k2, rfl, rfl⟩) | (refine c_call rfl rfl rfl (c2 _ _ _) rfl rfl ?_; rintro _ _ ⟨a3, k3, rfl, rfl⟩)))) | (apply ks_guard; ((refine sl_gd rfl rfl rfl rfl ?_; (first | (apply gd_t) | (apply gd_dec_f <;> intro hq <;> (try (exfalso; omega))))))))) | (apply sw_seq) | (apply sw_skip) | (apply sw_block) | (apply sw_region) | (refine sw_cd rfl ?_; (first | (apply gd_t) | (apply gd_ft) | (apply gd_dec_t <;> intro hq <;> (try (exfalso; omega))))) | (apply at_thn) | (apply at_inb)))
        all_goals (exact e_scf _ (by (exact .inl rfl)) rfl (fun _ hw => hw) ⟨none, 0, [], _, _, rfl, rfl, hno⟩)
    · have c2 := fun K a c => mEsc_sc G K b 1 0 e0 e0 e0 Y a c x (by omega) hXl
      rw [hF (escU (1, 0, e0, e0, e0) x) fun r => by rw [if_neg hc, if_neg (by omega), if_neg h160, if_pos (by omega)]]
      have hno : ∀ y ∈ (escU (1, 0, e0, e0, e0) x).2, y.2.2.2.2.1 = nA := fun y h => by
        unfold escU finA at h
        dsimp only at h
        repeat' split at h
        all_goals (first | (rw [List.mem_singleton] at h; subst h; rfl) | cases h)
      have hno := noRows (G := G) (H := []) hno
      clear hF
      unfold TakeR
      dsimp only
      rw [hap]
      unfold mcH at *
      dsimp only at *
      rcases hs with rfl | rfl
      all_goals
        refine sc_enter2 Tryz.func71 rfl rfl rfl rfl rfl ?_
        repeat' ((first | (apply g_sl; (first | (apply ks_nil; refine sl_nil ?_) | (apply ks_move; refine s_move rfl rfl ?_) | (apply ks_bin; refine s_bin rfl rfl rfl ?_; (((refine bb_of rfl ?_)))) | (apply ks_load; ((refine s_load rfl rfl ?_; (refine ld_cell rfl ?_)))) | (apply ks_asgn; refine s_asgn rfl rfl ?_) | (apply ks_pick; refine s_pick rfl rfl ?_; ((apply kp_f; refine pk_f rfl ?_))) | (apply ks_field; (refine s_field (c_field0 rfl rfl) rfl ?_)) | (apply ks_nilc; refine s_nilc (y_nilCheck rfl rfl) rfl ?_) | (apply ks_fn; ((first | (refine c_call rfl rfl rfl (c1 _ _ _) rfl rfl ?_; rintro _ _ ⟨a1, k1, rfl, rfl⟩) | (refine c_call rfl rfl rfl (c5 _ _ _) rfl rfl ?_; rintro _ _ ⟨a2, k2, rfl, rfl⟩) | (refine c_call rfl rfl rfl (c2 _ _ _) rfl rfl ?_; rintro _ _ ⟨a3, k3, rfl, rfl⟩)))) | (apply ks_guard; ((refine sl_gd rfl rfl rfl rfl ?_; (first | (apply gd_t) | (apply gd_dec_f <;> intro hq <;> (try (exfalso; omega))))))))) | (apply sw_seq) | (apply sw_skip) | (apply sw_block) | (apply sw_region) | (refine sw_cd rfl ?_; (first | (apply gd_t) | (apply gd_ft) | (apply gd_dec_t <;> intro hq <;> (try (exfalso; omega))))) | (apply at_thn) | (apply at_inb)))
        all_goals (exact e_scf _ (by (exact .inl rfl)) rfl (fun _ hw => hw) ⟨none, 0, [], _, _, rfl, rfl, hno⟩)
theorem mTake_sc (G : Ctx) (K : List Ent) (M : Int) (hM : ∀ H w, Holds G H w → w.cell? ⟨2, 0, none⟩ = some (.int .i64 M)) (b : Nat) (s m : Int) (i g t : ByteArray) (X : List Ac) (a : Option Addr) (c : Nat) (x : Int) (hs : 0 ≤ s ∧ s ≤ 10) (ht : t.size ≤ 256) (hg : g.size ≤ 200) (hX : X.length ≤ 9000000) : SC Tryz.prog G 71 [.pointer (some ⟨b, 0, none⟩), .int .i64 x] (mcH b (s, m, i, g, t) X a c K) (TakeR G K b (takeU (s, m, i, g, t) x) X g) := by
  by_cases hx : x < 0 ∨ 1114111 < x
  · exact take_out G K b s m i g t X a c x hx
  by_cases h1 : s ≤ 6
  · exact take_rest G K M hM b s m i g t X a c x ⟨hs.1, h1⟩ (by omega) (by omega) hg
  by_cases h2 : s = 7 ∨ s = 9
  · exact take_text G K b s m i g t X a c x h2 (by omega) ht (by omega)
  by_cases h3 : x = 92
  · exact take_end G K b s m i g t X a c x (by omega) h3 (by omega)
  · exact take_esc G K b s m i g t X a c x (by omega) (by omega) h3 hX
end Go.Proofs.YtmbfechiallppaaGreatDoor
end
section
namespace Go.Proofs.YtmbfechiallppaaGreatDoor
open Go Go.RowKit Go.Fw Go.Sx
set_option maxRecDepth 100000
set_option maxHeartbeats 1000000
theorem nums_e0 {b : ByteArray} : b = e0 ↔ b.size = 0 := ⟨fun h => by subst h; rfl, fun h => by
  have h1 := nums_length b
  have h2 := strOf_nums b
  rw [List.eq_nil_of_length_eq_zero (l := nums b) (by omega)] at h2
  exact h2.symm⟩
theorem bb_seqZ {P : Program} {K : Value → Prop} {x y : Operand} {t : TypeId} {b : ByteArray} (hk : K (.bool (decide (b.size = 0)))) : BB P .eql t x y (.string b) (.string ⟨#[]⟩) K := bb_seq (by
  rw [show decide (b = ⟨#[]⟩) = decide (b.size = 0) from decide_eq_decide.2 nums_e0]
  exact hk)
theorem bb_sneZ {P : Program} {K : Value → Prop} {x y : Operand} {t : TypeId} {b : ByteArray} (hk : K (.bool (decide (0 < b.size)))) : BB P .neq t x y (.string b) (.string ⟨#[]⟩) K := bb_sne (by
  rw [show (!decide (b = ⟨#[]⟩)) = decide (0 < b.size) from by
    by_cases h : b.size = 0
    · rw [decide_eq_true (nums_e0.2 h), decide_eq_false (by omega)]; rfl
    · rw [decide_eq_false (fun e => h (nums_e0.1 e)), decide_eq_true (by omega)]; rfl]
  exact hk)
theorem dbeq (p : Prop) [Decidable p] (a b : Int) : (decide p = (a == b)) ↔ (p ↔ a = b) := by
  rw [Bool.eq_iff_iff, decide_eq_true_eq, beq_iff_eq]
def inB (x : Int) : Bool := decide (32 ≤ x ∧ x ≤ 47)
/-- 1, if all bytes are from 32 to 47 and there are not more than n. -/
def inI (i : ByteArray) (n : Int) : Int := if (nums i).all inB = true ∧ i.size ≤ n then 1 else 0
def okI (g : ByteArray) : Int := if (nums g).all okA = true then 1 else 0
def parOk (s m : Int) (i g t : ByteArray) : Prop :=
  (0 ≤ s ∧ s ≤ 10) ∧ (m = 0 ∨ ((60 ≤ m ∧ m ≤ 63) ∧ (s = 4 ∨ s = 5))) ∧ inI i 3 = 1 ∧ (0 < i.size ↔ (s = 2 ∨ s = 5)) ∧ okI g = 1 ∧ g.size ≤ 100 ∧ (g.size = 0 ∨ s = 4 ∨ s = 5) ∧ t.size ≤ 256 ∧ (t.size = 0 ∨ s = 7 ∨ s = 8)
open Classical in
noncomputable def parE (s m : Int) (i g t : ByteArray) : Int := if parOk s m i g t then 0 else 4
abbrev psV (s m : Int) (i g t : ByteArray) : Value := .agg #[.int .i64 s, .int .i64 m, .string i, .string g, .string t]
theorem readA_e (g : ByteArray) : (readA g).2 = 0 ↔ okI g = 1 := by
  unfold readA okI
  split
  · exact ⟨fun _ => rfl, fun _ => rfl⟩
  · exact ⟨fun h => absurd h (by decide), fun h => absurd h (by decide)⟩
attribute [local irreducible] SW SL SQ AtQ SV SC BB LD PK Yields SO SOT SOA SY SP SPT SPA
theorem inters_sv (G : Ctx) (H : List Ent) (i : ByteArray) (n : Int) (hi : i.size ≤ 100000000) : SV Tryz.prog G 95 [.string i, .int .i64 n] H (.bool (decide (inI i n = 1))) := by
  have hlen := nums_length i
  have hbd := nums_bound i
  refine sv_enter2 Tryz.func95 rfl rfl rfl rfl rfl ?_
  repeat' ((first | (apply g_sl; (first | (apply ks_nil; refine sl_nil ?_) | (apply ks_move; refine s_move rfl rfl ?_) | (apply ks_asgn; refine s_asgn rfl rfl ?_) | (apply ks_bi; (refine s_call (c_len_str rfl rfl) rfl ?_)))) | (apply sw_seq) | (apply sw_block) | (apply sw_region) | (apply at_thn)))
  refine sw_loopg (α := Nat) (fun k => [(0, .string i), (1, .int .i64 n), (7, .int .i64 i.size), (8, .int .i64 k)]) (fun _ => H) (fun k => k ≤ i.size ∧ ∀ x ∈ (nums i).take k, inB x = true) (fun k => i.size - k) 0 ⟨Nat.zero_le _, fun _ h => nomatch h⟩ (by repeat ((first | exact Le.nil _ | refine Le.cons (by (rfl)) ?_))) (fun _ hw => hw.subs (by repeat ((exact Subs.sub (by repeat ((exact List.Sublist.refl _))))))) ?_
  rintro k ⟨hk, hal⟩
  have Hal := Lib.hid hal
  clear hal
  by_cases hlt : k < i.size
  · obtain ⟨x, hx⟩ := get_of (X := nums i) (k := k) (by omega)
    have hv : (nums i).getD (k : Int).toNat 0 = x := by rw [List.getD_eq_getElem?_getD, show (k : Int).toNat = k from rfl, hx]; rfl
    have hxb := hbd x (List.mem_of_getElem? hx)
    have c1 := fun H => pWithin_sv G H x 32 47
    have Hx := Lib.hid hx
    clear hx hbd
    repeat' ((first | (apply g_sl; (first | (apply ks_nil; refine sl_nil ?_) | (apply ks_move; refine s_move rfl rfl ?_) | (apply ks_bin; refine s_bin rfl rfl rfl ?_; ((((first | (apply kb_add; (refine bb_add ⟨by omega, by omega⟩ ?_)) | refine bb_of rfl ?_))))) | (apply ks_asgn; refine s_asgn rfl rfl ?_) | (apply ks_un; refine s_un (y_un rfl rfl rfl) rfl ?_) | (apply ks_conv; ((refine s_conv (c_conv (k := .i64) rfl rfl ⟨by omega, by omega⟩) rfl ?_))) | (apply ks_index; (((refine s_index (c_indexNumV hv rfl rfl rfl (by omega) (by omega)) rfl ?_)))) | (apply ks_fn; (refine c_callv rfl rfl rfl (c1 _) rfl rfl ?_)))) | (apply sw_seq) | (apply sw_skip) | (apply sw_ret) | (apply sw_block) | (apply sw_region) | (refine sw_cd rfl ?_; (first | (apply gd_dec_t <;> intro hq <;> (try (exfalso; omega))) | (apply gd_not_t <;> intro hq))) | (apply at_thn) | (apply at_thn_ret) | (apply at_inb) | (apply at_inb_ret)))
    all_goals simp only [decide_eq_true_eq, decide_eq_false_iff_not] at *
    all_goals (skip)
    · refine e_sv (by (exact .inr rfl)) rfl (by repeat ((exact List.Sublist.refl _))) ?_
      unfold inI
      rw [if_neg (fun h => by
        have := List.all_eq_true.1 h.1 x (List.mem_of_getElem? Hx.out)
        unfold inB at this
        rw [decide_eq_true_eq] at this
        omega)]
      rfl
    · refine at_meet (k + 1) ⟨⟨by omega, fun y hy => ?_⟩, by omega⟩ (by repeat ((first | exact Le.nil _ | refine Le.cons (by (rfl)) ?_))) (fun _ hw => hw.subs (by repeat ((exact Subs.sub (by repeat ((exact List.Sublist.refl _)))))))
      obtain ⟨h1, h2⟩ := List.getElem?_eq_some_iff.1 Hx.out
      rw [List.take_succ_eq_append_getElem h1, List.mem_append, List.mem_singleton, h2] at hy
      rcases hy with hy | rfl
      · exact Hal.out y hy
      · exact decide_eq_true (by omega)
  · obtain rfl : i.size = k := by omega
    repeat' ((first | (apply g_sl; (first | (apply ks_nil; refine sl_nil ?_) | (apply ks_move; refine s_move rfl rfl ?_) | (apply ks_bin; refine s_bin rfl rfl rfl ?_; (((refine bb_of rfl ?_)))) | (apply ks_asgn; refine s_asgn rfl rfl ?_) | (apply ks_bi; (refine s_call (c_len_str rfl rfl) rfl ?_)))) | (apply sw_seq) | (apply sw_ret) | (apply sw_exit) | (apply sw_region) | (refine sw_cd rfl ?_; ((apply gd_dec_t <;> intro hq <;> (try (exfalso; omega))))) | (apply at_thn) | (apply at_thn_exit) | (apply at_inb_exit)))
    all_goals (skip)
    refine e_sv (by (exact .inr rfl)) rfl (by repeat ((exact List.Sublist.refl _))) ?_
    have hall : (nums i).all inB = true := List.all_eq_true.2 fun x hx => Hal.out x (by rw [List.take_of_length_le (by omega)]; exact hx)
    unfold inI
    refine congrArg Value.bool (decide_eq_decide.2 ?_)
    by_cases h : (i.size : Int) ≤ n
    · rw [if_pos ⟨hall, h⟩]; exact ⟨fun _ => rfl, fun _ => h⟩
    · rw [if_neg (fun e => h e.2)]; exact ⟨fun e => absurd e h, fun e => absurd e (by decide)⟩
theorem pCheck_sv (G : Ctx) (H : List Ent) (M : Int) (hM : ∀ H w, Holds G H w → w.cell? ⟨2, 0, none⟩ = some (.int .i64 M)) (s m : Int) (i g t : ByteArray) (hi : i.size ≤ 2000000) (hg : g.size ≤ 2000000) : SV Tryz.prog G 52 [psV s m i g t] H (.int .i64 (parE s m i g t)) := by
  have c1 := fun H => argsRead_sc G H M hM g hg
  have c2 := fun H n l h => pWithin_sv G H n l h
  have c3 := fun H => inters_sv G H i 3 (by omega)
  have hre := readA_e g
  have h0 : ¬ parOk s m i g t → parE s m i g t = 4 := fun h => if_neg h
  have h1 : parOk s m i g t → parE s m i g t = 0 := fun h => if_pos h
  unfold parOk at h0 h1
  generalize (readA g).2 = e at *
  generalize inI i 3 = ii at *
  generalize okI g = oi at *
  generalize parE s m i g t = E at *
  have H0 := Lib.hid h0
  have H1 := Lib.hid h1
  have HR := Lib.hid hre
  clear h0 h1 hre
  refine sv_enter1 Tryz.func52 rfl rfl rfl rfl rfl ?_
  repeat' ((first | (apply g_sl; (first | (apply ks_nil; refine sl_nil ?_) | (apply ks_move; refine s_move rfl rfl ?_) | (apply ks_bin; refine s_bin rfl rfl rfl ?_; ((first | (refine bb_seqZ ?_) | (refine bb_sneZ ?_) | ((refine bb_of rfl ?_))))) | (apply ks_load; ((refine s_load rfl rfl ?_; (refine ld_cell rfl ?_)))) | (apply ks_asgn; refine s_asgn rfl rfl ?_) | (apply ks_pick; refine s_pick rfl rfl ?_; (first | (apply kp_t; refine pk_t rfl ?_) | (apply kp_f; refine pk_f rfl ?_))) | (apply ks_field; (refine s_field (c_field0 rfl rfl) rfl ?_)) | (apply ks_un; refine s_un (y_un rfl rfl rfl) rfl ?_) | (apply ks_extr; refine s_extr (y_extract rfl rfl rfl) rfl ?_) | (apply ks_fn; ((first | (refine c_call rfl rfl rfl (c1 _) rfl rfl ?_; rintro _ _ ⟨a2, k2, rfl, rfl⟩) | refine c_callv rfl rfl rfl (c2 _ _ _ _) rfl rfl ?_ | refine c_callv rfl rfl rfl (c3 _) rfl rfl ?_))) | (apply ks_bi; ((refine s_call (c_len_str rfl rfl) rfl ?_))) | (apply ks_box; refine c_box rfl rfl rfl rfl rfl rfl (fun _ => ?_)) | (apply ks_guard; (first | (refine sl_gd rfl rfl rfl rfl ?_; (first | (apply gd_t) | (apply gd_ft) | (apply gd_tf) | (apply gd_dec_t <;> intro hq <;> (try (exfalso; omega))) | (apply gd_dec_f <;> intro hq <;> (try (exfalso; omega))))) | refine sl_skip_u rfl rfl rfl rfl rfl rfl ?_)))) | (apply sw_seq) | (apply sw_skip) | (apply sw_ret) | (apply sw_region) | (refine sw_cd rfl ?_; (first | (apply gd_t) | (apply gd_ft) | (apply gd_bne_t <;> intro hq <;> (try (exfalso; omega))))) | (apply at_thn) | (apply at_thn_ret)))
  all_goals
    clear c1 c2 c3 hM
    have h0 := H0.out
    have h1 := H1.out
    have hre := HR.out
    clear H0 H1 HR
    refine e_sv (by (exact .inr rfl)) rfl (by repeat ((first | exact List.Sublist.refl _ | refine List.Sublist.cons _ ?_))) ?_
    try simp only [dbeq, decide_eq_true_eq, decide_eq_false_iff_not] at *
    (first | rw [h1 (by omega)]; rfl | rw [h0 (by omega)]; rfl)
def pr1 (s m : Int) : Prop := (0 ≤ s ∧ s ≤ 10) ∧ (m = 0 ∨ ((60 ≤ m ∧ m ≤ 63) ∧ (4 ≤ s ∧ s ≤ 5)))
def pr2 (s m : Int) (i : ByteArray) : Prop := pr1 s m ∧ i.size ≤ 3 ∧ (0 < i.size ↔ (s = 2 ∨ s = 5))
def pr3 (s m : Int) (i g : ByteArray) : Prop := pr2 s m i ∧ g.size ≤ 100 ∧ (g.size = 0 ∨ (4 ≤ s ∧ s ≤ 5))
def pr4 (s m : Int) (i g t : ByteArray) : Prop := pr3 s m i g ∧ t.size ≤ 256 ∧ (t.size = 0 ∨ (7 ≤ s ∧ s ≤ 8))
theorem take_allI {p : Int → Bool} {L : List Int} {k : Nat} {x : Int} (hx : L[k]? = some x) : (∀ y ∈ L.take (k + 1), p y = true) ↔ ((∀ y ∈ L.take k, p y = true) ∧ p x = true) := by
  obtain ⟨h1, h2⟩ := List.getElem?_eq_some_iff.1 hx
  rw [List.take_succ_eq_append_getElem h1, h2]
  refine ⟨fun h => ⟨fun y hy => h y (List.mem_append_left _ hy), h x (List.mem_append_right _ List.mem_cons_self)⟩, fun h y hy => ?_⟩
  rcases List.mem_append.1 hy with hy | hy
  · exact h.1 y hy
  · rw [List.mem_singleton.1 hy]
    exact h.2
theorem parOk_iff (s m : Int) (i g t : ByteArray) : parOk s m i g t ↔ ((pr4 s m i g t ∧ ∀ x ∈ nums i, inB x = true) ∧ ∀ x ∈ nums g, okA x = true) := by
  have h1 : inI i 3 = 1 ↔ ((∀ x ∈ nums i, inB x = true) ∧ i.size ≤ 3) := by
    unfold inI
    rw [← List.all_eq_true]
    by_cases h : (nums i).all inB = true ∧ (i.size : Int) ≤ 3
    · rw [if_pos h]; exact ⟨fun _ => ⟨h.1, by omega⟩, fun _ => rfl⟩
    · rw [if_neg h]; exact ⟨fun e => absurd e (by decide), fun e => absurd ⟨e.1, by omega⟩ h⟩
  have h2 : okI g = 1 ↔ (∀ x ∈ nums g, okA x = true) := by
    unfold okI
    rw [← List.all_eq_true]
    by_cases h : (nums g).all okA = true
    · rw [if_pos h]; exact ⟨fun _ => h, fun _ => rfl⟩
    · rw [if_neg h]; exact ⟨fun e => absurd e (by decide), fun e => absurd e h⟩
  unfold parOk pr4 pr3 pr2 pr1
  rw [h1, h2]
  generalize (∀ x ∈ nums i, inB x = true) = p
  generalize (∀ x ∈ nums g, okA x = true) = q
  by_cases p <;> by_cases q <;> simp only [*, true_and, and_true, false_and, and_false] <;> omega
end Go.Proofs.YtmbfechiallppaaGreatDoor
end
section
namespace Go.Proofs.YtmbfechiallppaaGreatDoor
open Go Go.RowKit Go.Fw Go.Sx
set_option maxRecDepth 100000
set_option maxHeartbeats 1000000
/-- An act without its place: kind, code, mark, inter, args, text. -/
abbrev Pa := Int × Int × Int × ByteArray × List Int × ByteArray
def plA (y : Ac) : Pa := (y.1, y.2.1, y.2.2.1, y.2.2.2.1, y.2.2.2.2.1.2.2, y.2.2.2.2.2)
abbrev dP : Pa := (6, 0, 0, e0, [], e0)
def clsN (x : Int) : Nat :=
  if x = 24 ∨ x = 26 then 0 else if x = 27 then 1 else if x = 7 then 2 else if 0 ≤ x ∧ x ≤ 31 then 3 else if 32 ≤ x ∧ x ≤ 47 then 4
  else if x = 58 then 5 else if 48 ≤ x ∧ x ≤ 59 then 6 else if 60 ≤ x ∧ x ≤ 63 then 7 else if x = 91 then 8 else if x = 93 then 9 else if x = 92 then 10
  else if x = 80 ∨ x = 88 ∨ x = 94 ∨ x = 95 then 11 else if 64 ≤ x ∧ x ≤ 126 then 12 else if 160 ≤ x ∧ x ≤ 1114111 then 14 else 13
def tabL (s : Int) : List Int :=
  if s = 0 then [88, 69, 67, 67, 80, 80, 80, 80, 80, 80, 80, 80, 80, 46, 80]
  else if s = 1 then [88, 69, 67, 67, 73, 70, 70, 70, 83, 79, 70, 84, 70, 46, 68]
  else if s = 2 then [88, 69, 67, 67, 74, 70, 70, 70, 70, 70, 70, 70, 70, 46, 68]
  else if s = 3 then [88, 69, 67, 67, 73, 71, 65, 77, 70, 70, 70, 70, 70, 46, 68]
  else if s = 4 then [88, 69, 67, 67, 73, 71, 65, 71, 70, 70, 70, 70, 70, 46, 68]
  else if s = 5 then [88, 69, 67, 67, 74, 71, 71, 71, 70, 70, 70, 70, 70, 46, 68]
  else if s = 6 then [88, 69, 67, 67, 46, 46, 46, 46, 68, 68, 68, 68, 68, 46, 68]
  else if s = 7 then [68, 90, 89, 46, 87, 87, 87, 87, 87, 87, 87, 87, 87, 46, 87]
  else if s = 9 then [68, 90, 46, 46, 46, 46, 46, 46, 46, 46, 46, 46, 46, 46, 46]
  else [82, 82, 82, 82, 82, 82, 82, 82, 82, 82, 89, 82, 82, 82, 82]
def whatP (s x : Int) : Int := (tabL s).getD (clsN x) 0
def whatQ (s x : Int) : Int := if s = 0 ∧ whatP s x = 88 then 46 else whatP s x
def signB (x : Int) : ByteArray := if x < 128 then strOfNums [x] else e0
def finP (p : Ps) (x : Int) : Pa := if p.2.2.1.size = 3 then dP else if p.1 < 3 then (3, x, 0, p.2.2.1, [], e0) else (4, x, p.2.1, p.2.2.1, (readA p.2.2.2.1).1, e0)
def rtB (x : Int) : ByteArray := strOfNums (runeL (fixR x))
def stepW (p : Ps) (x w : Int) (R : Ps × List Pa) : Ps × List Pa :=
  if w = 88 ∨ w = 68 then (sP 0, [dP])
  else if w = 69 then (sP 1, if p.1 = 0 then [] else [dP])
  else if w = 67 then (p, [(2, x, 0, e0, [], e0)])
  else if w = 80 then (p, [(1, x, 0, e0, [], e0)])
  else if w = 73 then ((if p.1 = 1 then 2 else 5, p.2.1, signB x, p.2.2.2.1, p.2.2.2.2), [])
  else if w = 74 then ((p.1, p.2.1, if p.2.2.1.size < 3 then p.2.2.1 ++ signB x else p.2.2.1, p.2.2.2.1, p.2.2.2.2), [])
  else if w = 65 then ((4, p.2.1, p.2.2.1, if p.2.2.2.1.size < 100 then p.2.2.2.1 ++ signB x else p.2.2.2.1, p.2.2.2.2), [])
  else if w = 77 then ((4, x, e0, e0, e0), [])
  else if w = 71 then (sP 6, [])
  else if w = 83 then (sP 3, [])
  else if w = 79 then (sP 7, [])
  else if w = 84 then (sP 9, [])
  else if w = 90 then ((p.1 + 1, p.2), [])
  else if w = 87 then ((p.1, p.2.1, p.2.2.1, p.2.2.2.1, if p.2.2.2.2.size + (rtB x).size ≤ 256 then p.2.2.2.2 ++ rtB x else p.2.2.2.2), [])
  else if w = 89 then (sP 0, [if 8 < p.1 then dP else (5, 0, 0, e0, [], p.2.2.2.2)])
  else if w = 70 then (sP 0, [finP p x])
  else if w = 82 then (R.1, dP :: R.2)
  else (p, [])
def step1 (x : Int) : Ps × List Pa := stepW (sP 1) x (whatQ 1 x) (sP 1, [])
/-- farref.ParseStep. -/
def stepP (p : Ps) (x : Int) : Ps × List Pa := if x < 0 ∨ 1114111 < x then (p, []) else stepW p x (whatQ p.1 x) (step1 x)
end Go.Proofs.YtmbfechiallppaaGreatDoor
end
section
namespace Go.Proofs.YtmbfechiallppaaGreatDoor
open Go Go.RowKit Go.Fw Go.Sx
set_option maxRecDepth 100000
set_option maxHeartbeats 1000000
attribute [local irreducible] SW SL SQ AtQ SV SC BB LD PK Yields SO SOT SOA SY SP SPT SPA
theorem ite_lt {c : Prop} [Decidable c] {a b n : Nat} (ha : a < n) (hb : b < n) : (if c then a else b) < n := by split <;> assumption
theorem clsN_lt (x : Int) : clsN x < 15 := by
  unfold clsN
  repeat' ((first | apply ite_lt | decide))
end Go.Proofs.YtmbfechiallppaaGreatDoor
end
section
namespace Go.Proofs.YtmbfechiallppaaGreatDoor
open Go Go.RowKit Go.Fw Go.Sx
set_option maxRecDepth 100000
set_option maxHeartbeats 4000000
theorem ite_len {c : Prop} [Decidable c] {a b : Ps × List Pa} (ha : a.2.length ≤ 1) (hb : b.2.length ≤ 1) : (if c then a else b).2.length ≤ 1 := by split <;> assumption
theorem step1_len (x : Int) : (step1 x).2.length ≤ 1 := by
  unfold step1 stepW
  repeat' ((first | exact Nat.le_refl _ | exact Nat.zero_le _ | apply ite_len))
attribute [local irreducible] SW SL SQ AtQ SV SC BB LD PK Yields SO SOT SOA SY SP SPT SPA
end Go.Proofs.YtmbfechiallppaaGreatDoor
end
section
namespace Go.Proofs.YtmbfechiallppaaGreatDoor
open Go Go.RowKit Go.Fw Go.Sx
set_option maxRecDepth 100000
set_option maxHeartbeats 4000000
def takeP (p : Ps) (x : Int) : Ps × List Pa := ((takeU p x (none, 0, (readA p.2.2.2.1).1)).1, (takeU p x (none, 0, (readA p.2.2.2.1).1)).2.map plA)
theorem cls_cases (x : Int) (hx : 0 ≤ x ∧ x ≤ 1114111) :
    ((x = 24 ∨ x = 26) ∧ clsN x = 0) ∨ (x = 27 ∧ clsN x = 1) ∨ (x = 7 ∧ clsN x = 2) ∨ (((0 ≤ x ∧ x ≤ 31) ∧ x ≠ 24 ∧ x ≠ 26 ∧ x ≠ 27 ∧ x ≠ 7) ∧ clsN x = 3) ∨ ((32 ≤ x ∧ x ≤ 47) ∧ clsN x = 4) ∨ (x = 58 ∧ clsN x = 5)
    ∨ (((48 ≤ x ∧ x ≤ 59) ∧ x ≠ 58) ∧ clsN x = 6) ∨ ((60 ≤ x ∧ x ≤ 63) ∧ clsN x = 7) ∨ (x = 91 ∧ clsN x = 8) ∨ (x = 93 ∧ clsN x = 9) ∨ (x = 92 ∧ clsN x = 10) ∨ ((x = 80 ∨ x = 88 ∨ x = 94 ∨ x = 95) ∧ clsN x = 11)
    ∨ (((64 ≤ x ∧ x ≤ 126) ∧ x ≠ 91 ∧ x ≠ 92 ∧ x ≠ 93 ∧ ¬ (x = 80 ∨ x = 88 ∨ x = 94 ∨ x = 95)) ∧ clsN x = 12) ∨ ((127 ≤ x ∧ x ≤ 159) ∧ clsN x = 13) ∨ ((160 ≤ x ∧ x ≤ 1114111) ∧ clsN x = 14) := by
  obtain ⟨n, hn⟩ : ∃ n, clsN x = n := ⟨_, rfl⟩
  rw [hn]
  unfold clsN at hn
  by_cases h0 : x = 24 ∨ x = 26
  · rw [if_pos h0] at hn
    exact .inl ⟨by omega, hn.symm⟩
  rw [if_neg h0] at hn
  by_cases h1 : x = 27
  · rw [if_pos h1] at hn
    exact .inr (.inl ⟨by omega, hn.symm⟩)
  rw [if_neg h1] at hn
  by_cases h2 : x = 7
  · rw [if_pos h2] at hn
    exact .inr (.inr (.inl ⟨by omega, hn.symm⟩))
  rw [if_neg h2] at hn
  by_cases h3 : 0 ≤ x ∧ x ≤ 31
  · rw [if_pos h3] at hn
    exact .inr (.inr (.inr (.inl ⟨by omega, hn.symm⟩)))
  rw [if_neg h3] at hn
  by_cases h4 : 32 ≤ x ∧ x ≤ 47
  · rw [if_pos h4] at hn
    exact .inr (.inr (.inr (.inr (.inl ⟨by omega, hn.symm⟩))))
  rw [if_neg h4] at hn
  by_cases h5 : x = 58
  · rw [if_pos h5] at hn
    exact .inr (.inr (.inr (.inr (.inr (.inl ⟨by omega, hn.symm⟩)))))
  rw [if_neg h5] at hn
  by_cases h6 : 48 ≤ x ∧ x ≤ 59
  · rw [if_pos h6] at hn
    exact .inr (.inr (.inr (.inr (.inr (.inr (.inl ⟨by omega, hn.symm⟩))))))
  rw [if_neg h6] at hn
  by_cases h7 : 60 ≤ x ∧ x ≤ 63
  · rw [if_pos h7] at hn
    exact .inr (.inr (.inr (.inr (.inr (.inr (.inr (.inl ⟨by omega, hn.symm⟩)))))))
  rw [if_neg h7] at hn
  by_cases h8 : x = 91
  · rw [if_pos h8] at hn
    exact .inr (.inr (.inr (.inr (.inr (.inr (.inr (.inr (.inl ⟨by omega, hn.symm⟩))))))))
  rw [if_neg h8] at hn
  by_cases h9 : x = 93
  · rw [if_pos h9] at hn
    exact .inr (.inr (.inr (.inr (.inr (.inr (.inr (.inr (.inr (.inl ⟨by omega, hn.symm⟩)))))))))
  rw [if_neg h9] at hn
  by_cases h10 : x = 92
  · rw [if_pos h10] at hn
    exact .inr (.inr (.inr (.inr (.inr (.inr (.inr (.inr (.inr (.inr (.inl ⟨by omega, hn.symm⟩))))))))))
  rw [if_neg h10] at hn
  by_cases h11 : x = 80 ∨ x = 88 ∨ x = 94 ∨ x = 95
  · rw [if_pos h11] at hn
    exact .inr (.inr (.inr (.inr (.inr (.inr (.inr (.inr (.inr (.inr (.inr (.inl ⟨by omega, hn.symm⟩)))))))))))
  rw [if_neg h11] at hn
  by_cases h12 : 64 ≤ x ∧ x ≤ 126
  · rw [if_pos h12] at hn
    exact .inr (.inr (.inr (.inr (.inr (.inr (.inr (.inr (.inr (.inr (.inr (.inr (.inl ⟨by omega, hn.symm⟩))))))))))))
  rw [if_neg h12] at hn
  by_cases h13 : 160 ≤ x ∧ x ≤ 1114111
  · rw [if_pos h13] at hn
    exact .inr (.inr (.inr (.inr (.inr (.inr (.inr (.inr (.inr (.inr (.inr (.inr (.inr (.inr (⟨by omega, hn.symm⟩))))))))))))))
  rw [if_neg h13] at hn
  exact .inr (.inr (.inr (.inr (.inr (.inr (.inr (.inr (.inr (.inr (.inr (.inr (.inr (.inl ⟨by omega, hn.symm⟩)))))))))))))
theorem step_s0 (x : Int) (hx : 0 ≤ x ∧ x ≤ 1114111) : takeP (sP 0) x = stepP (sP 0) x := by
  have hc := cls_cases x hx
  rcases hc with h | h | h | h | h | h | h | h | h | h | h | h | h | h | h
  all_goals
    obtain ⟨h, hN⟩ := h
    unfold stepP takeP takeU restU ctlU escU csiU textU
    rw [show whatQ (sP 0).1 x = _ from by unfold whatQ whatP; rw [hN]]
    unfold stepW
    dsimp only
    (repeat ((first | rw [if_pos (by (first | assumption | omega))] | rw [if_neg (by (omega))])))
    (rfl)
theorem e0_app (s : ByteArray) : e0 ++ s = s := by apply ByteArray.ext; simp
theorem more_e0 (x : Int) : moreU e0 x = strOfNums [x] := by unfold moreU; rw [if_pos (by decide), e0_app]
theorem arg_e0 (x : Int) : argU e0 x = strOfNums [x] := by unfold argU; rw [if_pos (by decide), e0_app]
theorem sign_s (x : Int) (h : x < 128) : signB x = strOfNums [x] := if_pos h
theorem fin2 (i : ByteArray) (x : Int) : plA (finA i (3, x, 0, i, nA, e0)) = finP (2, 0, i, e0, e0) x := by
  unfold finA finP
  dsimp only
  by_cases h : i.size = 3
  · rw [if_pos h, if_pos h]; rfl
  · rw [if_neg h, if_neg h, if_pos (by omega)]; rfl
theorem fin5 (m x : Int) (i g : ByteArray) : plA (finA i (4, x, m, i, (none, 0, (readA g).1), e0)) = finP (5, m, i, g, e0) x := by
  unfold finA finP
  dsimp only
  by_cases h : i.size = 3
  · rw [if_pos h, if_pos h]; rfl
  · rw [if_neg h, if_neg h, if_neg (by omega)]; rfl
theorem put7 (t : ByteArray) (x : Int) : putT t x = if t.size + (rtB x).size ≤ 256 then t ++ rtB x else t := by
  have h : strOfNums (encL [x]) = rtB x := by unfold rtB encL; simp
  unfold putT
  rw [h, ByteArray.size_append]
theorem step_s1 (x : Int) (hx : 0 ≤ x ∧ x ≤ 1114111) : takeP (sP 1) x = stepP (sP 1) x := by
  have hc := cls_cases x hx
  rcases hc with h | h | h | h | h | h | h | h | h | h | h | h | h | h | h
  all_goals
    obtain ⟨h, hN⟩ := h
    unfold stepP takeP takeU restU ctlU escU csiU textU
    (rw [show whatQ (sP 1).1 x = _ from by unfold whatQ whatP; rw [hN]])
    (skip)
    unfold stepW
    dsimp only
    (repeat ((first | rw [if_pos (by (first | assumption | omega))] | rw [if_neg (by (omega))])))
    (first | rfl | (rw [more_e0, sign_s x (by omega)]; rfl))
theorem step_s3 (x : Int) (hx : 0 ≤ x ∧ x ≤ 1114111) : takeP (sP 3) x = stepP (sP 3) x := by
  have hc := cls_cases x hx
  rcases hc with h | h | h | h | h | h | h | h | h | h | h | h | h | h | h
  all_goals
    obtain ⟨h, hN⟩ := h
    unfold stepP takeP takeU restU ctlU escU csiU textU
    (rw [show whatQ (sP 3).1 x = _ from by unfold whatQ whatP; rw [hN]])
    (skip)
    unfold stepW
    dsimp only
    (repeat ((first | rw [if_pos (by (first | assumption | omega))] | rw [if_neg (by (omega))])))
    (first | rfl | (rw [more_e0, sign_s x (by omega)]; rfl) | (rw [arg_e0, sign_s x (by omega)]; rfl))
theorem step_s6 (x : Int) (hx : 0 ≤ x ∧ x ≤ 1114111) : takeP (sP 6) x = stepP (sP 6) x := by
  have hc := cls_cases x hx
  rcases hc with h | h | h | h | h | h | h | h | h | h | h | h | h | h | h
  all_goals
    obtain ⟨h, hN⟩ := h
    unfold stepP takeP takeU restU ctlU escU csiU textU
    (rw [show whatQ (sP 6).1 x = _ from by unfold whatQ whatP; rw [hN]])
    (skip)
    unfold stepW
    dsimp only
    (repeat ((first | rw [if_pos (by (first | assumption | omega))] | rw [if_neg (by (omega))])))
    (rfl)
theorem step_s9 (x : Int) (hx : 0 ≤ x ∧ x ≤ 1114111) : takeP (sP 9) x = stepP (sP 9) x := by
  have hc := cls_cases x hx
  rcases hc with h | h | h | h | h | h | h | h | h | h | h | h | h | h | h
  all_goals
    obtain ⟨h, hN⟩ := h
    unfold stepP takeP takeU restU ctlU escU csiU textU
    (rw [show whatQ (sP 9).1 x = _ from by unfold whatQ whatP; rw [hN]])
    (skip)
    unfold stepW
    dsimp only
    (repeat ((first | rw [if_pos (by (first | assumption | omega))] | rw [if_neg (by (omega))])))
    (rfl)
theorem step_s10 (x : Int) (hx : 0 ≤ x ∧ x ≤ 1114111) : takeP (sP 10) x = stepP (sP 10) x := by
  have hc := cls_cases x hx
  rcases hc with h | h | h | h | h | h | h | h | h | h | h | h | h | h | h
  all_goals
    obtain ⟨h, hN⟩ := h
    unfold stepP takeP takeU restU ctlU escU csiU textU
    (first | rw [show whatQ (sP 10).1 x = 82 from by unfold whatQ whatP; rw [hN]; rfl] | rw [show whatQ (sP 10).1 x = 89 from by unfold whatQ whatP; rw [hN]; rfl])
    (first | rw [show step1 x = stepW (sP 1) x 82 (sP 1, []) from by unfold step1 whatQ whatP; rw [hN]; rfl] | rw [show step1 x = stepW (sP 1) x 88 (sP 1, []) from by unfold step1 whatQ whatP; rw [hN]; rfl] | rw [show step1 x = stepW (sP 1) x 67 (sP 1, []) from by unfold step1 whatQ whatP; rw [hN]; rfl] | rw [show step1 x = stepW (sP 1) x 73 (sP 1, []) from by unfold step1 whatQ whatP; rw [hN]; rfl] | rw [show step1 x = stepW (sP 1) x 70 (sP 1, []) from by unfold step1 whatQ whatP; rw [hN]; rfl] | rw [show step1 x = stepW (sP 1) x 83 (sP 1, []) from by unfold step1 whatQ whatP; rw [hN]; rfl] | rw [show step1 x = stepW (sP 1) x 79 (sP 1, []) from by unfold step1 whatQ whatP; rw [hN]; rfl] | rw [show step1 x = stepW (sP 1) x 84 (sP 1, []) from by unfold step1 whatQ whatP; rw [hN]; rfl] | rw [show step1 x = stepW (sP 1) x 46 (sP 1, []) from by unfold step1 whatQ whatP; rw [hN]; rfl])
    unfold stepW
    dsimp only
    (repeat ((first | rw [if_pos (by (first | assumption | omega))] | rw [if_neg (by (omega))])))
    (first | rfl | (rw [more_e0, sign_s x (by omega)]; rfl))
theorem step_s2 (i : ByteArray) (x : Int) (hx : 0 ≤ x ∧ x ≤ 1114111) : takeP (((2, 0, i, e0, e0) : Ps)) x = stepP (((2, 0, i, e0, e0) : Ps)) x := by
  have hc := cls_cases x hx
  rcases hc with h | h | h | h | h | h | h | h | h | h | h | h | h | h | h
  all_goals
    obtain ⟨h, hN⟩ := h
    unfold stepP takeP takeU restU ctlU escU csiU textU
    (first | rw [show whatQ (((2, 0, i, e0, e0) : Ps)).1 x = 88 from by unfold whatQ whatP; rw [hN]; rfl] | rw [show whatQ (((2, 0, i, e0, e0) : Ps)).1 x = 69 from by unfold whatQ whatP; rw [hN]; rfl] | rw [show whatQ (((2, 0, i, e0, e0) : Ps)).1 x = 67 from by unfold whatQ whatP; rw [hN]; rfl] | rw [show whatQ (((2, 0, i, e0, e0) : Ps)).1 x = 70 from by unfold whatQ whatP; rw [hN]; rfl] | rw [show whatQ (((2, 0, i, e0, e0) : Ps)).1 x = 46 from by unfold whatQ whatP; rw [hN]; rfl] | rw [show whatQ (((2, 0, i, e0, e0) : Ps)).1 x = 68 from by unfold whatQ whatP; rw [hN]; rfl] | rw [show whatQ (((2, 0, i, e0, e0) : Ps)).1 x = 74 from by unfold whatQ whatP; rw [hN]; rfl])
    (skip)
    unfold stepW
    dsimp only
    (repeat ((first | rw [if_pos (by (first | assumption | omega))] | rw [if_neg (by (omega))])))
    (first | rfl | (rw [List.map_cons, fin2]; rfl) | (rw [sign_s x (by omega)]; rfl))
theorem step_s4 (m : Int) (g : ByteArray) (x : Int) (hx : 0 ≤ x ∧ x ≤ 1114111) : takeP (((4, m, e0, g, e0) : Ps)) x = stepP (((4, m, e0, g, e0) : Ps)) x := by
  have hc := cls_cases x hx
  rcases hc with h | h | h | h | h | h | h | h | h | h | h | h | h | h | h
  all_goals
    obtain ⟨h, hN⟩ := h
    unfold stepP takeP takeU restU ctlU escU csiU textU
    (rw [show whatQ (((4, m, e0, g, e0) : Ps)).1 x = _ from by unfold whatQ whatP; rw [hN]])
    (skip)
    unfold stepW
    dsimp only
    (repeat ((first | rw [if_pos (by (first | assumption | omega))] | rw [if_neg (by (omega))])))
    (first | rfl | (rw [more_e0, sign_s x (by omega)]; rfl) | (rw [sign_s x (by omega)]; rfl))
theorem step_s5 (m : Int) (i g : ByteArray) (x : Int) (hx : 0 ≤ x ∧ x ≤ 1114111) : takeP (((5, m, i, g, e0) : Ps)) x = stepP (((5, m, i, g, e0) : Ps)) x := by
  have hc := cls_cases x hx
  rcases hc with h | h | h | h | h | h | h | h | h | h | h | h | h | h | h
  all_goals
    obtain ⟨h, hN⟩ := h
    unfold stepP takeP takeU restU ctlU escU csiU textU
    (first | rw [show whatQ (((5, m, i, g, e0) : Ps)).1 x = 88 from by unfold whatQ whatP; rw [hN]; rfl] | rw [show whatQ (((5, m, i, g, e0) : Ps)).1 x = 69 from by unfold whatQ whatP; rw [hN]; rfl] | rw [show whatQ (((5, m, i, g, e0) : Ps)).1 x = 67 from by unfold whatQ whatP; rw [hN]; rfl] | rw [show whatQ (((5, m, i, g, e0) : Ps)).1 x = 70 from by unfold whatQ whatP; rw [hN]; rfl] | rw [show whatQ (((5, m, i, g, e0) : Ps)).1 x = 46 from by unfold whatQ whatP; rw [hN]; rfl] | rw [show whatQ (((5, m, i, g, e0) : Ps)).1 x = 68 from by unfold whatQ whatP; rw [hN]; rfl] | rw [show whatQ (((5, m, i, g, e0) : Ps)).1 x = 74 from by unfold whatQ whatP; rw [hN]; rfl] | rw [show whatQ (((5, m, i, g, e0) : Ps)).1 x = 71 from by unfold whatQ whatP; rw [hN]; rfl])
    (skip)
    unfold stepW
    dsimp only
    (repeat ((first | rw [if_pos (by (first | assumption | omega))] | rw [if_neg (by (omega))])))
    (first | rfl | (rw [List.map_cons, fin5]; rfl) | (rw [sign_s x (by omega)]; rfl))
theorem step_s7 (t : ByteArray) (x : Int) (hx : 0 ≤ x ∧ x ≤ 1114111) : takeP (((7, 0, e0, e0, t) : Ps)) x = stepP (((7, 0, e0, e0, t) : Ps)) x := by
  have hc := cls_cases x hx
  rcases hc with h | h | h | h | h | h | h | h | h | h | h | h | h | h | h
  all_goals
    obtain ⟨h, hN⟩ := h
    unfold stepP takeP takeU restU ctlU escU csiU textU
    (first | rw [show whatQ (((7, 0, e0, e0, t) : Ps)).1 x = 46 from by unfold whatQ whatP; rw [hN]; rfl] | rw [show whatQ (((7, 0, e0, e0, t) : Ps)).1 x = 68 from by unfold whatQ whatP; rw [hN]; rfl] | rw [show whatQ (((7, 0, e0, e0, t) : Ps)).1 x = 90 from by unfold whatQ whatP; rw [hN]; rfl] | rw [show whatQ (((7, 0, e0, e0, t) : Ps)).1 x = 89 from by unfold whatQ whatP; rw [hN]; rfl] | rw [show whatQ (((7, 0, e0, e0, t) : Ps)).1 x = 87 from by unfold whatQ whatP; rw [hN]; rfl])
    (skip)
    unfold stepW
    dsimp only
    (repeat ((first | rw [if_pos (by (first | assumption | omega))] | rw [if_neg (by (omega))])))
    (first | rfl | (rw [put7]; rfl))
theorem step_s8 (t : ByteArray) (x : Int) (hx : 0 ≤ x ∧ x ≤ 1114111) : takeP (((8, 0, e0, e0, t) : Ps)) x = stepP (((8, 0, e0, e0, t) : Ps)) x := by
  have hc := cls_cases x hx
  rcases hc with h | h | h | h | h | h | h | h | h | h | h | h | h | h | h
  all_goals
    obtain ⟨h, hN⟩ := h
    unfold stepP takeP takeU restU ctlU escU csiU textU
    (first | rw [show whatQ (((8, 0, e0, e0, t) : Ps)).1 x = 82 from by unfold whatQ whatP; rw [hN]; rfl] | rw [show whatQ (((8, 0, e0, e0, t) : Ps)).1 x = 89 from by unfold whatQ whatP; rw [hN]; rfl])
    (first | rw [show step1 x = stepW (sP 1) x 82 (sP 1, []) from by unfold step1 whatQ whatP; rw [hN]; rfl] | rw [show step1 x = stepW (sP 1) x 88 (sP 1, []) from by unfold step1 whatQ whatP; rw [hN]; rfl] | rw [show step1 x = stepW (sP 1) x 67 (sP 1, []) from by unfold step1 whatQ whatP; rw [hN]; rfl] | rw [show step1 x = stepW (sP 1) x 73 (sP 1, []) from by unfold step1 whatQ whatP; rw [hN]; rfl] | rw [show step1 x = stepW (sP 1) x 70 (sP 1, []) from by unfold step1 whatQ whatP; rw [hN]; rfl] | rw [show step1 x = stepW (sP 1) x 83 (sP 1, []) from by unfold step1 whatQ whatP; rw [hN]; rfl] | rw [show step1 x = stepW (sP 1) x 79 (sP 1, []) from by unfold step1 whatQ whatP; rw [hN]; rfl] | rw [show step1 x = stepW (sP 1) x 84 (sP 1, []) from by unfold step1 whatQ whatP; rw [hN]; rfl] | rw [show step1 x = stepW (sP 1) x 46 (sP 1, []) from by unfold step1 whatQ whatP; rw [hN]; rfl])
    unfold stepW
    dsimp only
    (repeat ((first | rw [if_pos (by (first | assumption | omega))] | rw [if_neg (by (omega))])))
    (first | rfl | (rw [more_e0, sign_s x (by omega)]; rfl))
end Go.Proofs.YtmbfechiallppaaGreatDoor
end
section
namespace Go.Proofs.YtmbfechiallppaaGreatDoor
open Go Go.RowKit Go.Fw Go.Sx
set_option maxRecDepth 100000
set_option maxHeartbeats 4000000
def okP (p : Ps) : Prop := parOk p.1 p.2.1 p.2.2.1 p.2.2.2.1 p.2.2.2.2
theorem take_step (p : Ps) (x : Int) (hp : okP p) : takeP p x = stepP p x := by
  obtain ⟨s, m, i, g, t⟩ := p
  unfold okP parOk at hp
  dsimp only at hp
  obtain ⟨h1, h2, -, h4, -, -, h7, -, h9⟩ := hp
  by_cases hx : x < 0 ∨ 1114111 < x
  · unfold takeP takeU stepP
    rw [if_pos hx, if_pos hx]
    rfl
  have hx : 0 ≤ x ∧ x ≤ 1114111 := by omega
  have hi : ¬ (s = 2 ∨ s = 5) → i = e0 := fun h => nums_e0.2 (by have := mt h4.1 h; omega)
  have hg : ¬ (s = 4 ∨ s = 5) → g = e0 := fun h => nums_e0.2 (h7.resolve_right h)
  have hm : ¬ (s = 4 ∨ s = 5) → m = 0 := fun h => h2.resolve_right fun e => h e.2
  have ht : ¬ (s = 7 ∨ s = 8) → t = e0 := fun h => nums_e0.2 (h9.resolve_right h)
  clear h2 h4 h7 h9
  have hs : s = 0 ∨ s = 1 ∨ s = 2 ∨ s = 3 ∨ s = 4 ∨ s = 5 ∨ s = 6 ∨ s = 7 ∨ s = 8 ∨ s = 9 ∨ s = 10 := by omega
  clear h1
  rcases hs with rfl | rfl | rfl | rfl | rfl | rfl | rfl | rfl | rfl | rfl | rfl
  · obtain rfl := hi (by decide); obtain rfl := hg (by decide); obtain rfl := hm (by decide); obtain rfl := ht (by decide); exact step_s0 x hx
  · obtain rfl := hi (by decide); obtain rfl := hg (by decide); obtain rfl := hm (by decide); obtain rfl := ht (by decide); exact step_s1 x hx
  · obtain rfl := hg (by decide); obtain rfl := hm (by decide); obtain rfl := ht (by decide); exact step_s2 i x hx
  · obtain rfl := hi (by decide); obtain rfl := hg (by decide); obtain rfl := hm (by decide); obtain rfl := ht (by decide); exact step_s3 x hx
  · obtain rfl := hi (by decide); obtain rfl := ht (by decide); exact step_s4 m g x hx
  · obtain rfl := ht (by decide); exact step_s5 m i g x hx
  · obtain rfl := hi (by decide); obtain rfl := hg (by decide); obtain rfl := hm (by decide); obtain rfl := ht (by decide); exact step_s6 x hx
  · obtain rfl := hi (by decide); obtain rfl := hg (by decide); obtain rfl := hm (by decide); exact step_s7 t x hx
  · obtain rfl := hi (by decide); obtain rfl := hg (by decide); obtain rfl := hm (by decide); exact step_s8 t x hx
  · obtain rfl := hi (by decide); obtain rfl := hg (by decide); obtain rfl := hm (by decide); obtain rfl := ht (by decide); exact step_s9 x hx
  · obtain rfl := hi (by decide); obtain rfl := hg (by decide); obtain rfl := hm (by decide); obtain rfl := ht (by decide); exact step_s10 x hx
theorem csi_pl (p : Ps) (x : Int) (a : Option Addr) (c : Nat) (L : List Int) : (csiU p x (a, c, L)).1 = (csiU p x (none, 0, L)).1 ∧ (csiU p x (a, c, L)).2.map plA = (csiU p x (none, 0, L)).2.map plA := by
  have h : plA (finA p.2.2.1 (4, x, p.2.1, p.2.2.1, (a, c, L), e0)) = plA (finA p.2.2.1 (4, x, p.2.1, p.2.2.1, (none, 0, L), e0)) := by
    unfold finA
    split <;> rfl
  unfold csiU
  by_cases h1 : p.1 = 6
  · rw [if_pos h1, if_pos h1]; exact ⟨rfl, rfl⟩
  rw [if_neg h1, if_neg h1]
  by_cases h2 : x < 48
  · rw [if_pos h2, if_pos h2]; exact ⟨rfl, rfl⟩
  rw [if_neg h2, if_neg h2]
  by_cases h3 : 64 ≤ x
  · rw [if_pos h3, if_pos h3]; exact ⟨rfl, congrArg (fun z => [z]) h⟩
  rw [if_neg h3, if_neg h3]
  exact ⟨rfl, rfl⟩
theorem rest_pl (p : Ps) (x : Int) (a : Option Addr) (c : Nat) (L : List Int) : (restU p x (a, c, L)).1 = (restU p x (none, 0, L)).1 ∧ (restU p x (a, c, L)).2.map plA = (restU p x (none, 0, L)).2.map plA := by
  unfold restU
  by_cases h1 : x < 32 ∨ (127 ≤ x ∧ x ≤ 159)
  · rw [if_pos h1, if_pos h1]; exact ⟨rfl, rfl⟩
  rw [if_neg h1, if_neg h1]
  by_cases h2 : p.1 = 0
  · rw [if_pos h2, if_pos h2]; exact ⟨rfl, rfl⟩
  rw [if_neg h2, if_neg h2]
  by_cases h3 : 160 ≤ x
  · rw [if_pos h3, if_pos h3]; exact ⟨rfl, rfl⟩
  rw [if_neg h3, if_neg h3]
  by_cases h4 : p.1 ≤ 2
  · rw [if_pos h4, if_pos h4]; exact ⟨rfl, rfl⟩
  rw [if_neg h4, if_neg h4]
  exact csi_pl p x a c L
/-- take, whatever the row's place. -/
theorem take_pl (p : Ps) (x : Int) (a : Option Addr) (c : Nat) : (takeU p x (a, c, (readA p.2.2.2.1).1)).1 = (takeP p x).1 ∧ (takeU p x (a, c, (readA p.2.2.2.1).1)).2.map plA = (takeP p x).2 := by
  unfold takeP takeU
  dsimp only
  by_cases h1 : x < 0 ∨ 1114111 < x
  · rw [if_pos h1, if_pos h1]; exact ⟨rfl, rfl⟩
  rw [if_neg h1, if_neg h1]
  by_cases h2 : p.1 = 7 ∨ p.1 = 9
  · rw [if_pos h2, if_pos h2]; exact ⟨rfl, rfl⟩
  rw [if_neg h2, if_neg h2]
  by_cases h3 : p.1 = 8 ∨ p.1 = 10
  · rw [if_pos h3, if_pos h3]
    by_cases h4 : x = 92
    · rw [if_pos h4, if_pos h4]; exact ⟨rfl, rfl⟩
    rw [if_neg h4, if_neg h4]
    have h := rest_pl (sP 1) x a c (readA p.2.2.2.1).1
    refine ⟨h.1, ?_⟩
    rw [List.map_cons, List.map_cons, h.2]
  rw [if_neg h3, if_neg h3]
  exact rest_pl p x a c _
end Go.Proofs.YtmbfechiallppaaGreatDoor
end
section
namespace Go.Proofs.YtmbfechiallppaaGreatDoor
open Go Go.RowKit Go.Fw Go.Sx
set_option maxRecDepth 100000
set_option maxHeartbeats 1000000
theorem inI_iff (i : ByteArray) : inI i 3 = 1 ↔ ((∀ x ∈ nums i, inB x = true) ∧ i.size ≤ 3) := by
  unfold inI
  rw [← List.all_eq_true]
  by_cases h : (nums i).all inB = true ∧ (i.size : Int) ≤ 3
  · rw [if_pos h]; exact ⟨fun _ => ⟨h.1, by omega⟩, fun _ => rfl⟩
  · rw [if_neg h]; exact ⟨fun e => absurd e (by decide), fun e => absurd ⟨e.1, by omega⟩ h⟩
theorem okI_iff (g : ByteArray) : okI g = 1 ↔ (∀ x ∈ nums g, okA x = true) := by
  unfold okI
  rw [← List.all_eq_true]
  by_cases h : (nums g).all okA = true
  · rw [if_pos h]; exact ⟨fun _ => h, fun _ => rfl⟩
  · rw [if_neg h]; exact ⟨fun e => absurd e (by decide), fun e => absurd e h⟩
theorem ok_mk (s m : Int) (i g t : ByteArray) : okP (s, m, i, g, t) ↔ ((0 ≤ s ∧ s ≤ 10) ∧ (m = 0 ∨ ((60 ≤ m ∧ m ≤ 63) ∧ (s = 4 ∨ s = 5))) ∧ ((∀ x ∈ nums i, inB x = true) ∧ i.size ≤ 3) ∧ (0 < i.size ↔ (s = 2 ∨ s = 5)) ∧ (∀ x ∈ nums g, okA x = true) ∧ g.size ≤ 100 ∧ (g.size = 0 ∨ s = 4 ∨ s = 5) ∧ t.size ≤ 256 ∧ (t.size = 0 ∨ s = 7 ∨ s = 8)) := by
  rw [← inI_iff, ← okI_iff]
  exact Iff.rfl
theorem ok_sP (k : Int) (h : 0 ≤ k ∧ k ≤ 10) (h2 : k ≠ 2) (h5 : k ≠ 5) : okP (sP k) := by
  refine (ok_mk k 0 e0 e0 e0).2 ⟨h, .inl rfl, ⟨fun _ h => (nomatch h), Nat.zero_le _⟩, ⟨fun h => absurd h (by decide), fun h => by omega⟩, fun _ h => (nomatch h), Nat.zero_le _, .inl rfl, Nat.zero_le _, .inl rfl⟩
theorem ite_ne {c : Prop} [Decidable c] {a b k : Nat} (ha : a ≠ k) (hb : b ≠ k) : (if c then a else b) ≠ k := by split <;> assumption
theorem cls4 {x : Int} (h : clsN x = 4) : 32 ≤ x ∧ x ≤ 47 := by
  refine Classical.byContradiction fun hn => absurd h ?_
  unfold clsN
  rw [if_neg hn]
  repeat' ((first | decide | apply ite_ne))
theorem cls6 {x : Int} (h : clsN x = 6) : 48 ≤ x ∧ x ≤ 59 ∧ x ≠ 58 := by
  refine Classical.byContradiction fun hn => absurd h ?_
  unfold clsN
  by_cases h8 : x = 58
  · rw [if_pos h8]
    repeat' ((first | decide | apply ite_ne))
  · rw [if_neg (show ¬ (48 ≤ x ∧ x ≤ 59) from fun e => hn ⟨e.1, e.2, h8⟩)]
    repeat' ((first | decide | apply ite_ne))
theorem cls7 {x : Int} (h : clsN x = 7) : 60 ≤ x ∧ x ≤ 63 := by
  refine Classical.byContradiction fun hn => absurd h ?_
  unfold clsN
  rw [if_neg hn]
  repeat' ((first | decide | apply ite_ne))
def tabOk (k n : Nat) : Bool :=
  ((tabL k).getD n 0 != 73 || (n == 4 && (k == 1 || k == 3 || k == 4))) && ((tabL k).getD n 0 != 74 || (n == 4 && (k == 2 || k == 5))) && ((tabL k).getD n 0 != 65 || (n == 6 && (k == 3 || k == 4))) &&
  ((tabL k).getD n 0 != 77 || (n == 7 && k == 3)) && ((tabL k).getD n 0 != 90 || (k == 7 || k == 9)) && ((tabL k).getD n 0 != 87 || k == 7)
theorem tab_all : (List.range 11).all (fun k => (List.range 15).all (tabOk k)) = true := by decide +kernel
theorem tab_fact (w : Int) (s : Int) (n : Nat) (hs : 0 ≤ s ∧ s ≤ 10) (hn : n < 15) (h : (tabL s).getD n 0 = w) :
    (w = 73 → n = 4 ∧ (s = 1 ∨ s = 3 ∨ s = 4)) ∧ (w = 74 → n = 4 ∧ (s = 2 ∨ s = 5)) ∧ (w = 65 → n = 6 ∧ (s = 3 ∨ s = 4)) ∧ (w = 77 → n = 7 ∧ s = 3) ∧ (w = 90 → s = 7 ∨ s = 9) ∧ (w = 87 → s = 7) := by
  obtain ⟨k, rfl⟩ : ∃ k : Nat, s = k := ⟨s.toNat, by omega⟩
  have h1 := List.all_eq_true.1 (List.all_eq_true.1 tab_all k (List.mem_range.2 (by omega))) n (List.mem_range.2 hn)
  unfold tabOk at h1
  rw [h] at h1
  simp only [Bool.and_eq_true, Bool.or_eq_true, bne_iff_ne, ne_eq, beq_iff_eq] at h1
  obtain ⟨⟨⟨⟨⟨a1, a2⟩, a3⟩, a4⟩, a5⟩, a6⟩ := h1
  clear h
  refine ⟨fun e => ?_, fun e => ?_, fun e => ?_, fun e => ?_, fun e => ?_, fun e => ?_⟩
  · have := a1.resolve_left (fun x => x e); omega
  · have := a2.resolve_left (fun x => x e); omega
  · have := a3.resolve_left (fun x => x e); omega
  · have := a4.resolve_left (fun x => x e); omega
  · have := a5.resolve_left (fun x => x e); omega
  · have := a6.resolve_left (fun x => x e); omega
theorem size_sign {x : Int} (h : 0 ≤ x ∧ x < 128) : (signB x).size = 1 ∧ nums (signB x) = [x] := by
  unfold signB
  rw [if_pos h.2]
  exact ⟨by rw [strOfNums_size]; rfl, nums_strOf fun y hy => by rw [List.mem_singleton] at hy; omega⟩
theorem size_cat (a b : ByteArray) : (a ++ b).size = a.size + b.size := by
  rw [← nums_length, nums_append, List.length_append, nums_length, nums_length]
theorem stepW_ok (p : Ps) (x w : Int) (R : Ps × List Pa) (hp : okP p) (hw : whatQ p.1 x = w) (hR : okP R.1) : okP (stepW p x w R).1 := by
  obtain ⟨s, m, i, g, t⟩ := p
  have hp0 := hp
  rw [ok_mk] at hp
  obtain ⟨h1, h2, h3, h4, h5, h6, h7, h8, h9⟩ := hp
  have hw2 : w = 46 ∨ whatP s x = w := by
    dsimp only at hw
    unfold whatQ at hw
    split at hw
    · exact .inl hw.symm
    · exact .inr hw
  have hf : w = 46 ∨ ((w = 73 → clsN x = 4 ∧ (s = 1 ∨ s = 3 ∨ s = 4)) ∧ (w = 74 → clsN x = 4 ∧ (s = 2 ∨ s = 5)) ∧ (w = 65 → clsN x = 6 ∧ (s = 3 ∨ s = 4)) ∧ (w = 77 → clsN x = 7 ∧ s = 3) ∧ (w = 90 → s = 7 ∨ s = 9) ∧ (w = 87 → s = 7)) :=
    hw2.imp id fun h => tab_fact w s _ h1 (clsN_lt x) h
  clear hw hw2
  unfold stepW
  dsimp only
  by_cases a1 : w = 88 ∨ w = 68
  · rw [if_pos a1]; exact ok_sP 0 (by omega) (by omega) (by omega)
  rw [if_neg a1]
  by_cases a2 : w = 69
  · rw [if_pos a2]; exact ok_sP 1 (by omega) (by omega) (by omega)
  rw [if_neg a2]
  by_cases a3 : w = 67
  · rw [if_pos a3]; exact hp0
  rw [if_neg a3]
  by_cases a4 : w = 80
  · rw [if_pos a4]; exact hp0
  rw [if_neg a4]
  by_cases a5 : w = 73
  · rw [if_pos a5]
    have hc := (hf.resolve_left (by omega)).1 a5
    have hx := cls4 hc.1
    obtain ⟨z1, z2⟩ := size_sign (x := x) (by omega)
    refine (ok_mk _ _ _ _ _).2 ⟨by split <;> omega, ?_, ⟨fun y hy => ?_, by omega⟩, ⟨fun _ => by split <;> omega, fun _ => by omega⟩, h5, h6, ?_, h8, ?_⟩
    · rcases h2 with h | h
      · exact .inl h
      · exact .inr ⟨h.1, by rw [if_neg (by omega)]; omega⟩
    · rw [z2, List.mem_singleton] at hy
      subst hy
      exact decide_eq_true hx
    · rcases h7 with h | h
      · exact .inl h
      · exact .inr (by rw [if_neg (by omega)]; omega)
    · rcases h9 with h | h
      · exact .inl h
      · omega
  rw [if_neg a5]
  by_cases a6 : w = 74
  · rw [if_pos a6]
    have hc := (hf.resolve_left (by omega)).2.1 a6
    have hx := cls4 hc.1
    obtain ⟨z1, z2⟩ := size_sign (x := x) (by omega)
    by_cases hi : i.size < 3
    · rw [if_pos hi]
      have hz := size_cat i (signB x)
      refine (ok_mk _ _ _ _ _).2 ⟨h1, h2, ⟨fun y hy => ?_, by omega⟩, ⟨fun _ => hc.2, fun _ => by omega⟩, h5, h6, h7, h8, h9⟩
      rw [nums_append, List.mem_append] at hy
      rcases hy with hy | hy
      · exact h3.1 y hy
      · rw [z2, List.mem_singleton] at hy
        subst hy
        exact decide_eq_true hx
    · rw [if_neg hi]; exact hp0
  rw [if_neg a6]
  by_cases a7 : w = 65
  · rw [if_pos a7]
    have hc := (hf.resolve_left (by omega)).2.2.1 a7
    have hx := cls6 hc.1
    obtain ⟨z1, z2⟩ := size_sign (x := x) (by omega)
    have hm : m = 0 ∨ ((60 ≤ m ∧ m ≤ 63) ∧ ((4 : Int) = 4 ∨ (4 : Int) = 5)) := h2.imp id fun h => ⟨h.1, .inl rfl⟩
    have hi4 : 0 < i.size ↔ ((4 : Int) = 2 ∨ (4 : Int) = 5) := ⟨fun h => by have := h4.1 h; omega, fun h => by omega⟩
    have ht4 : t.size = 0 ∨ (4 : Int) = 7 ∨ (4 : Int) = 8 := .inl (h9.resolve_right (by omega))
    by_cases hi : g.size < 100
    · rw [if_pos hi]
      have hz := size_cat g (signB x)
      refine (ok_mk _ _ _ _ _).2 ⟨by omega, hm, h3, hi4, fun y hy => ?_, by omega, by omega, h8, ht4⟩
      rw [nums_append, List.mem_append] at hy
      rcases hy with hy | hy
      · exact h5 y hy
      · rw [z2, List.mem_singleton] at hy
        subst hy
        unfold okA
        rw [decide_eq_true_eq]
        omega
    · rw [if_neg hi]
      exact (ok_mk _ _ _ _ _).2 ⟨by omega, hm, h3, hi4, h5, h6, by omega, h8, ht4⟩
  rw [if_neg a7]
  by_cases a8 : w = 77
  · rw [if_pos a8]
    have hc := (hf.resolve_left (by omega)).2.2.2.1 a8
    have hx := cls7 hc.1
    exact (ok_mk _ _ _ _ _).2 ⟨by omega, .inr ⟨hx, .inl rfl⟩, ⟨fun _ h => (nomatch h), Nat.zero_le _⟩, ⟨fun h => absurd h (by decide), fun h => by omega⟩, fun _ h => (nomatch h), Nat.zero_le _, .inl rfl, Nat.zero_le _, .inl rfl⟩
  rw [if_neg a8]
  by_cases a9 : w = 71
  · rw [if_pos a9]; exact ok_sP 6 (by omega) (by omega) (by omega)
  rw [if_neg a9]
  by_cases a10 : w = 83
  · rw [if_pos a10]; exact ok_sP 3 (by omega) (by omega) (by omega)
  rw [if_neg a10]
  by_cases a11 : w = 79
  · rw [if_pos a11]; exact ok_sP 7 (by omega) (by omega) (by omega)
  rw [if_neg a11]
  by_cases a12 : w = 84
  · rw [if_pos a12]; exact ok_sP 9 (by omega) (by omega) (by omega)
  rw [if_neg a12]
  by_cases a13 : w = 90
  · rw [if_pos a13]
    have hc := (hf.resolve_left (by omega)).2.2.2.2.1 a13
    exact (ok_mk _ _ _ _ _).2 ⟨by omega, by omega, h3, ⟨fun h => by have := h4.1 h; omega, fun h => by omega⟩, h5, h6, by omega, h8, by omega⟩
  rw [if_neg a13]
  by_cases a14 : w = 87
  · rw [if_pos a14]
    have hc := (hf.resolve_left (by omega)).2.2.2.2.2 a14
    by_cases hz : t.size + (rtB x).size ≤ 256
    · rw [if_pos hz]
      have hzz := size_cat t (rtB x)
      exact (ok_mk _ _ _ _ _).2 ⟨h1, h2, h3, h4, h5, h6, h7, by omega, .inr (.inl hc)⟩
    · rw [if_neg hz]; exact hp0
  rw [if_neg a14]
  by_cases a15 : w = 89
  · rw [if_pos a15]; exact ok_sP 0 (by omega) (by omega) (by omega)
  rw [if_neg a15]
  by_cases a16 : w = 70
  · rw [if_pos a16]; exact ok_sP 0 (by omega) (by omega) (by omega)
  rw [if_neg a16]
  by_cases a17 : w = 82
  · rw [if_pos a17]; exact hR
  rw [if_neg a17]
  exact hp0
theorem step1_ok (x : Int) : okP (step1 x).1 := stepW_ok (sP 1) x _ _ (ok_sP 1 (by omega) (by omega) (by omega)) rfl (ok_sP 1 (by omega) (by omega) (by omega))
/-- A right parser's step leaves a right parser. -/
theorem stepP_ok (p : Ps) (x : Int) (hp : okP p) : okP (stepP p x).1 := by
  unfold stepP
  split
  · exact hp
  · exact stepW_ok p x _ _ hp rfl (step1_ok x)
/-- All runes. -/
def runP (p : Ps) (L : List Int) : Ps × List Pa := L.foldl (fun z x => ((stepP z.1 x).1, z.2 ++ (stepP z.1 x).2)) (p, [])
theorem runP_snoc (p : Ps) (L : List Int) (x : Int) : runP p (L ++ [x]) = ((stepP (runP p L).1 x).1, (runP p L).2 ++ (stepP (runP p L).1 x).2) := by
  unfold runP
  rw [List.foldl_append]
  rfl
theorem runP_take {p : Ps} {L : List Int} {k : Nat} {x : Int} (h : L[k]? = some x) : runP p (L.take (k + 1)) = ((stepP (runP p (L.take k)).1 x).1, (runP p (L.take k)).2 ++ (stepP (runP p (L.take k)).1 x).2) := by
  rw [← runP_snoc, List.take_add_one, h]
  rfl
theorem ite_len2 {c : Prop} [Decidable c] {a b : Ps × List Pa} (ha : a.2.length ≤ 2) (hb : b.2.length ≤ 2) : (if c then a else b).2.length ≤ 2 := by split <;> assumption
theorem ite_l1 {c : Prop} [Decidable c] : (if c then ([] : List Pa) else [dP]).length ≤ 2 := by
  split
  · exact Nat.zero_le _
  · exact Nat.le_succ 1
theorem stepP_len (p : Ps) (x : Int) : (stepP p x).2.length ≤ 2 := by
  unfold stepP
  refine ite_len2 (Nat.zero_le _) ?_
  have h1 := step1_len x
  unfold stepW
  repeat' ((first | exact Nat.zero_le _ | exact Nat.le_succ 1 | exact Nat.succ_le_succ h1 | exact ite_l1 | apply ite_len2))
end Go.Proofs.YtmbfechiallppaaGreatDoor
end
section
namespace Go.Proofs.YtmbfechiallppaaGreatDoor
open Go Go.RowKit Go.Fw Go.Sx
set_option maxRecDepth 100000
set_option maxHeartbeats 2000000
theorem parE_iff (s m : Int) (i g t : ByteArray) : parE s m i g t = 0 ↔ okP (s, m, i, g, t) := by
  unfold parE okP
  dsimp only
  constructor
  · intro h
    split at h
    · assumption
    · cases h
  · intro h
    exact if_pos h
/-- What the runes make of a parser. -/
def RunR (G : Ctx) (H : List Ent) (Z : Ps × List Pa) (W : Value → Value) (H' : List Ent) (v : Value) : Prop :=
  ∃ (F : List Ent) (X : List Ac) (a : Option Addr) (c : Nat), v = W (.slice a X.length c) ∧ X.length ≤ 9000000 ∧ X.map plA = Z.2 ∧ (∀ y ∈ X, Sl ints G F y.2.2.2.2.1) ∧ Sl acs G F (a, c, X) ∧ H' = F ++ H
theorem sl_left {f : List Int → List Value} {G : Ctx} {F E : List Ent} {x : Rx Int} (h : Sl f G F x) : Sl f G (F ++ E) x := h.mono fun _ hw => hw.sub (List.sublist_append_left F E)
attribute [local irreducible] SW SL SQ AtQ SV SC BB LD PK Yields SO SOT SOA SY SP SPT SPA
theorem pFeed_sc (G : Ctx) (H : List Ent) (M : Int) (hM : ∀ H w, Holds G H w → w.cell? ⟨2, 0, none⟩ = some (.int .i64 M)) (s m : Int) (i g t : ByteArray) (hp : okP (s, m, i, g, t)) (L : List Int) (ao : Option Addr) (n co : Nat) [h1 : RdC G H ao (ints L)] (hn : n = L.length) (hmn : n ≤ 4000000) : SC Tryz.prog G 34 [psV s m i g t, .slice ao n co] H (fun v H' => RunR G H (runP (s, m, i, g, t) L) (fun r => .tuple #[psV (runP (s, m, i, g, t) L).1.1 (runP (s, m, i, g, t) L).1.2.1 (runP (s, m, i, g, t) L).1.2.2.1 (runP (s, m, i, g, t) L).1.2.2.2.1 (runP (s, m, i, g, t) L).1.2.2.2.2, r, .int .i64 0]) H' v) := by
  have hp2 := (ok_mk s m i g t).1 hp
  have c1 := fun H => pCheck_sv G H M hM s m i g t (by omega) (by omega)
  rw [(parE_iff s m i g t).2 hp] at c1
  clear hp2
  have hlx : (ints L).length = n * 1 := by rw [hn]; simp [ints]
  have hel : ∀ (k : Nat) x, L[k]? = some x → (ints L)[(k : Int).toNat * 1]? = some (.int .i64 x) := fun k x hx => by simp [ints, hx]
  have Hn := Lib.hid hn
  have Hel := Lib.hid hel
  have Hp := Lib.hid hp
  clear hel hn hp
  refine sc_enter2 Tryz.func34 rfl rfl rfl rfl rfl ?_
  repeat' ((first | (apply g_sl; (first | (apply ks_nil; refine sl_nil ?_) | (apply ks_move; refine s_move rfl rfl ?_) | (apply ks_bin; refine s_bin rfl rfl rfl ?_; (((refine bb_of rfl ?_)))) | (apply ks_load; ((refine s_load rfl rfl ?_; (refine ld_whole rfl ?_)))) | (apply ks_asgn; refine s_asgn rfl rfl ?_) | (apply ks_build; (refine s_build (c_build rfl rfl rfl) rfl ?_)) | (apply ks_fn; (refine c_callv rfl rfl rfl (c1 _) rfl rfl ?_)) | (apply ks_bi; (refine s_call (c_len rfl rfl) rfl ?_)) | (apply ks_box; refine c_box rfl rfl rfl rfl rfl rfl (fun _ => ?_)) | (apply ks_alloc; refine c_alloc rfl rfl rfl rfl (fun _ => ?_)))) | (apply sw_seq) | (apply sw_skip) | (apply sw_block) | (apply sw_region) | (refine sw_cd rfl ?_; ((apply gd_ft))) | (apply at_thn)))
  all_goals (skip)
  rename_i b2 b4 b8
  refine sw_loopg (α := Nat × Ps × List Ac × List Ent × Option Addr × Nat) (fun z => [(2, .pointer (some ⟨b2, 0, none⟩)), (4, .pointer (some ⟨b4, 0, none⟩)), (8, .pointer (some ⟨b8, 0, none⟩)), (20, .slice ao n co), (21, .int .i64 n), (22, .int .i64 z.1)])
    (fun z => mcH b8 z.2.1 z.2.2.1 z.2.2.2.2.1 z.2.2.2.2.2 (z.2.2.2.1 ++ (.blk b4 25 [.int .i64 0, .int .i64 0, .string e0, .string e0, .string e0] :: H)))
    (fun z => z.1 ≤ n ∧ z.2.2.1.length ≤ 2 * z.1 ∧ okP z.2.1 ∧ z.2.1 = (runP (s, m, i, g, t) (L.take z.1)).1 ∧ z.2.2.1.map plA = (runP (s, m, i, g, t) (L.take z.1)).2 ∧ ∀ y ∈ z.2.2.1, Sl ints G z.2.2.2.1 y.2.2.2.2.1) (fun z => n - z.1) (0, (s, m, i, g, t), [], [], none, 0)
    ⟨Nat.zero_le _, Nat.zero_le _, Hp.out, rfl, rfl, fun _ h => nomatch h⟩ (by repeat ((first | exact Le.nil _ | refine Le.cons (by (rfl)) ?_))) (fun _ hw => by unfold mcH; exact (hw.nilrow 174 6).subs (by repeat ((first | refine Subs.cons (by repeat constructor) ?_ | exact Subs.sub (by repeat ((first | exact List.Sublist.refl _ | refine List.Sublist.cons _ ?_))))))) ?_
  rintro ⟨k, p, X, E, a, c⟩ ⟨hk, hX, hp, hz1, hz2, hz3⟩
  dsimp only at hk hX hp hz1 hz2 hz3 ⊢
  obtain ⟨s', m', i', g', t'⟩ := p
  have Hz1 := Lib.hid hz1
  have Hz2 := Lib.hid hz2
  have Hp2 := Lib.hid hp
  have hp3 := (ok_mk _ _ _ _ _).1 hp
  have hs' := hp3.1
  have hg' : g'.size ≤ 200 := by omega
  have ht' : t'.size ≤ 256 := by omega
  clear hz1 hz2 hp hp3
  by_cases hlt : (k : Int) < n
  · obtain ⟨x, hx⟩ := get_of (X := L) (k := k) (by rw [← Hn.out]; omega)
    have hxi := Hel.out k x hx
    have c2 := fun K => mTake_sc G K M hM b8 s' m' i' g' t' X a c x hs' ht' hg' (by omega)
    have hst : ∀ a2 c2, (takeU (s', m', i', g', t') x (a2, c2, (readA g').1)).1 = (stepP (s', m', i', g', t') x).1 ∧ (takeU (s', m', i', g', t') x (a2, c2, (readA g').1)).2.map plA = (stepP (s', m', i', g', t') x).2 := fun a2 c2 => by
      rw [← take_step _ x Hp2.out]
      exact take_pl (s', m', i', g', t') x a2 c2
    have hrun := runP_take (p := (s, m, i, g, t)) hx
    have Hrun := Lib.hid hrun
    have Hst := Lib.hid hst
    clear hrun hst hx
    unfold TakeR at c2
    unfold mcH at c2 ⊢
    dsimp only at c2 ⊢
    generalize hU : takeU (s', m', i', g', t') x = U at *
    repeat' ((first | (apply g_sl; (first | (apply ks_nil; refine sl_nil ?_) | (apply ks_move; refine s_move rfl rfl ?_) | (apply ks_bin; refine s_bin rfl rfl rfl ?_; ((((first | (apply kb_add; (refine bb_add ⟨by omega, by omega⟩ ?_)) | refine bb_of rfl ?_))))) | (apply ks_load; (((refine s_load rfl rfl ?_; refine ld_elem hxi ?_)))) | (apply ks_asgn; refine s_asgn rfl rfl ?_) | (apply ks_indexA; (((refine s_indexA (c_indexAddr rfl rfl rfl hlx (by omega) (by omega)) rfl ?_)))) | (apply ks_fn; ((refine c_call rfl rfl rfl (c2 _) rfl rfl ?_; rintro _ _ ⟨a2, k2, F, a5, k5, rfl, rfl, hno⟩))))) | (apply sw_seq) | (apply sw_skip) | (apply sw_block) | (apply sw_region) | (refine sw_cd rfl ?_; ((apply gd_dec_t <;> intro hq <;> (try (exfalso; omega))))) | (apply at_thn) | (apply at_inb)))
    clear c2
    obtain ⟨u1, u2⟩ := Hst.out a2 k2
    have hul := stepP_len (s', m', i', g', t') x
    rw [← u2, List.length_map] at hul
    have hrz := Hrun.out
    rw [← Hz1.out, ← Hz2.out] at hrz
    refine at_meet (k + 1, (U (a2, k2, (readA g').1)).1, X ++ (U (a2, k2, (readA g').1)).2, F ++ E, a5, k5) ⟨⟨by dsimp only; omega, ?_, ?_, ?_, ?_, ?_⟩, by dsimp only; omega⟩ (by repeat ((first | exact Le.nil _ | refine Le.cons (by (rfl)) ?_))) ?_
    · dsimp only; rw [List.length_append]; omega
    · dsimp only; rw [u1]; exact stepP_ok _ _ Hp2.out
    · dsimp only; rw [u1, hrz]
    · dsimp only; rw [List.map_append, u2, hrz]
    · dsimp only
      intro y hy
      rcases List.mem_append.1 hy with hy | hy
      · exact (hz3 y hy).app
      · exact sl_left (hno y hy)
    · intro w hw
      dsimp only
      rw [List.append_assoc]
      exact hw
  · obtain rfl : n = k := by omega
    have hz1 := Hz1.out
    have hz2 := Hz2.out
    rw [Hn.out, List.take_length] at hz1 hz2
    have Hy1 := Lib.hid hz1
    have Hy2 := Lib.hid hz2
    clear hz1 hz2 Hz1 Hz2
    unfold mcH
    dsimp only
    repeat' ((first | (apply g_sl; (first | (apply ks_nil; refine sl_nil ?_) | (apply ks_bin; refine s_bin rfl rfl rfl ?_; (((refine bb_of rfl ?_)))))) | (apply sw_seq) | (apply sw_exit) | ((fail_if_success (refine g_reg (id := 10) ?_)); apply sw_region) | (refine sw_cd rfl ?_; ((apply gd_dec_t <;> intro hq <;> (try (exfalso; omega))))) | (apply at_thn) | (apply at_thn_exit) | (apply at_inb_exit)))
    refine sw_held (.blk b4 25 [.int .i64 0, .int .i64 0, .string e0, .string e0, .string e0] :: .blk b8 167 [.int .i64 s', .int .i64 m', .string i', .string g', .string t', .slice a X.length c] :: .own 174 6 a X.length c (acs X) :: (E ++ H)) (fun w hw => hw.perm ?_) ?_
    · exact ((List.perm_middle.cons _).cons _).trans (((List.Perm.swap _ _ _).cons _).trans (List.Perm.swap _ _ _))
    refine c_drawno (.blk b8 167 [.int .i64 s', .int .i64 m', .string i', .string g', .string t', .slice a X.length c] :: .own 174 6 a X.length c (acs X) :: (E ++ H)) (fun _ hw => hw.subs (by repeat ((first | refine Subs.cons (by repeat constructor) ?_ | exact Subs.sub (by repeat ((first | exact List.Sublist.refl _ | refine List.Sublist.cons _ ?_))))))) ?_
    repeat' ((first | (apply g_sl; (first | (apply ks_nil; refine sl_nil ?_) | (apply ks_store; ((refine c_storew rfl rfl rfl rfl rfl rfl rfl rfl ?_))))) | (apply g_atso; refine so_back (k := 0) (fun _ hw => hw.subs (by repeat ((first | refine Subs.cons (by repeat constructor) ?_ | exact Subs.sub (by repeat ((first | exact List.Sublist.refl _ | refine List.Sublist.cons _ ?_))))))) ?_) | (apply g_sot; (first | (refine sot_skip rfl ?_) | (refine sot_take rfl rfl rfl rfl (by kernel_rfl) (by decide +kernel) (by decide +kernel) ?_; ((first | (apply ky_move; refine sy_val (y_move rfl rfl) ?_) | (apply ky_load; ((refine sy_load rfl ?_; (first | refine ld_cell rfl ?_ | refine ld_part rfl rfl ?_)))) | (apply ky_asgn; refine sy_val (y_assign rfl rfl) ?_) | (apply ky_field; (refine sy_val (c_field0 rfl rfl) ?_)) | (apply ky_nilc; refine sy_val (y_nilCheck rfl rfl) ?_)))) | (refine sot_next rfl ?_) | (refine so_done (by decide +kernel) ?_) | (refine sot_all (by kernel_rfl) ?_))) | (apply g_soa; (first | (refine soa_end rfl) | (refine soa_no (by decide +kernel) ?_) | (refine soa_yes rfl ?_ ?_))) | (apply sw_ret) | (apply at_thn)))
    refine e_scc (.own 174 6 a X.length c (acs X) :: (E ++ H)) (by (exact .inr rfl)) rfl rfl rfl (fun _ hw => hw.subs (by repeat ((first | refine Subs.cons (by repeat constructor) ?_ | exact Subs.sub (by repeat ((first | exact List.Sublist.refl _ | refine List.Sublist.cons _ ?_))))))) ?_
    refine ⟨.own 174 6 a X.length c (acs X) :: E, X, a, c, ?_, by omega, Hy2.out, fun y hy => (hz3 y hy).cons, Sl.own List.mem_cons_self rfl rfl, rfl⟩
    rw [← Hy1.out]
    rfl
end Go.Proofs.YtmbfechiallppaaGreatDoor
end
section
namespace Go.Proofs.YtmbfechiallppaaGreatDoor
open Go Go.RowKit Go.Fw Go.Sx
set_option maxRecDepth 100000
set_option maxHeartbeats 2000000
attribute [local irreducible] SW SL SQ AtQ SV SC BB LD PK Yields SO SOT SOA SY
abbrev p00 : Ps := (0, 0, e0, e0, e0)
theorem ScRd.mono {G : Ctx} {H H' : List Ent} {s : Scr} {ga : Option Addr} {gn gc : Nat} {oa : Option Addr} {on oc : Nat} {pa : Option Addr} {pn pc : Nat} {X : List (Rx Qd)} (h : ScRd G H s ga gn gc oa on oc pa pn pc X) (hh : ∀ w, Holds G H' w → Holds G H w) : ScRd G H' s ga gn gc oa on oc pa pn pc X :=
  ⟨⟨fun w hw => h.g.here w (hh w hw)⟩, ⟨fun w hw => h.o.here w (hh w hw)⟩, ⟨fun w hw => h.p.here w (hh w hw)⟩, h.r.mono hh, h.x, h.gn', h.on', h.pn', h.gc', h.oc'⟩
/-- What a list of acts makes of a screen, where they are what a typed line shows. -/
def acts (s : Scr) (A : List Pa) (s' : Scr) : Prop :=
  (∃ k c, A = [(k, c, 0, e0, [], e0)] ∧ ((k = 1 ∧ (0 ≤ c ∧ c ≤ 127) ∧ refWidth c = 1) ∨ (k = 2 ∧ (c = 13 ∨ c = 10))) ∧ s' = actS s k c) ∨
  (A = [(2, 13, 0, e0, [], e0), (2, 10, 0, e0, [], e0)] ∧ s' = indexS (homeS s))
theorem plA_inv {x : Ac} {k c m : Int} {i t : ByteArray} (h : plA x = (k, c, m, i, [], t)) : ∃ ra rc, x = (k, c, m, i, (ra, rc, []), t) := by
  obtain ⟨a1, a2, a3, a4, ⟨ra, rc, L⟩, a6⟩ := x
  unfold plA at h
  dsimp only at h
  simp only [Prod.mk.injEq] at h
  obtain ⟨rfl, rfl, rfl, rfl, rfl, rfl⟩ := h
  exact ⟨ra, rc, rfl⟩
theorem run_sc (G : Ctx) (H : List Ent) (s s' : Scr) (f : Fre s) (X : List (Rx Qd)) (ga : Option Addr) (gn gc : Nat) (oa : Option Addr) (on oc : Nat) (pa : Option Addr) (pn pc : Nat) (hS : ScRd G H s ga gn gc oa on oc pa pn pc X) (A : List Ac) (ha : acts s (A.map plA) s') (aa : Option Addr) (ac : Nat) [h4 : RdC G H aa (acs A)] :
    SC Tryz.prog G 35 [.agg (scnC s ga gn gc oa on oc pa pn pc).toArray, .slice aa A.length ac] H (RunP G H s') := by
  rcases ha with ⟨k, c, hA, hk, rfl⟩ | ⟨hA, rfl⟩
  · cases A with
    | nil => exact absurd hA (by simp)
    | cons x A =>
      obtain ⟨h5, h6⟩ := List.cons.inj hA
      obtain ⟨ra, rc, rfl⟩ := plA_inv h5
      cases A with
      | cons y A => exact absurd h6 (by simp)
      | nil => exact run_a G H s f X ga gn gc oa on oc pa pn pc hS k c 0 e0 ra rc aa ac hk
  · cases A with
    | nil => exact absurd hA (by simp)
    | cons x A =>
      obtain ⟨h5, h6⟩ := List.cons.inj hA
      obtain ⟨ra, rc, rfl⟩ := plA_inv h5
      cases A with
      | nil => exact absurd h6 (by simp)
      | cons y A =>
        obtain ⟨h7, h8⟩ := List.cons.inj h6
        obtain ⟨ra2, rc2, rfl⟩ := plA_inv h7
        cases A with
        | cons z A => exact absurd h8 (by simp)
        | nil => exact run_b G H s f X ga gn gc oa on oc pa pn pc hS 0 0 e0 e0 ra ra2 rc rc2 aa ac
theorem show_sc (G : Ctx) (H : List Ent) (M : Int) (hM : ∀ H w, Holds G H w → w.cell? ⟨2, 0, none⟩ = some (.int .i64 M)) (s s' : Scr) (f : Fre s) (X : List (Rx Qd)) (ga : Option Addr) (gn gc : Nat) (oa : Option Addr) (on oc : Nat) (pa : Option Addr) (pn pc : Nat) (hS : ScRd G H s ga gn gc oa on oc pa pn pc X) (L : List Int) (ha : acts s (runP p00 L).2 s') (hp : okP p00) (ao : Option Addr) (n co : Nat) [h4 : RdC G H ao (ints L)] (hn : n = L.length) (hmn : n ≤ 4000000) :
    SC Tryz.prog G 16 [.agg (scnC s ga gn gc oa on oc pa pn pc).toArray, .slice ao n co] H (RunP G H s') := by
  have cF := fun (H : List Ent) [RdC G H ao (ints L)] => pFeed_sc G H M hM 0 0 e0 e0 e0 hp L ao n co hn hmn
  generalize hZ : runP p00 L = Z at *
  obtain ⟨⟨z1, z2, z3, z4, z5⟩, Z2⟩ := Z
  dsimp only at cF ha
  unfold RunR at cF
  have cR := fun (H' : List Ent) (hh : ∀ w, Holds G H' w → Holds G H w) (A : List Ac) (aa : Option Addr) (ac : Nat) (hA : A.map plA = Z2) (h4 : RdC G H' aa (acs A)) => run_sc G H' s s' f X ga gn gc oa on oc pa pn pc (hS.mono hh) A (by rw [hA]; exact ha) aa ac
  clear hM hp hn hmn ha
  refine sc_enter2 Tryz.func16 rfl rfl rfl rfl rfl ?_
  repeat' ((first | (apply g_sl; (first | (apply ks_nil; refine sl_nil ?_) | (apply ks_move; refine s_move rfl rfl ?_) | (apply ks_asgn; refine s_asgn rfl rfl ?_) | (apply ks_extr; refine s_extr (y_extract rfl rfl rfl) rfl ?_) | (apply ks_build; (refine s_build (c_build rfl rfl rfl) rfl ?_)) | (apply ks_fn; ((refine c_call rfl rfl rfl (cF _) rfl rfl ?_; rintro _ _ ⟨F, A, a, c, rfl, hl, hA, hsl, hs2, rfl⟩))) | (apply ks_store; ((refine c_storew rfl rfl rfl rfl rfl rfl rfl rfl ?_))) | (apply ks_box; refine c_box rfl rfl rfl rfl rfl rfl (fun _ => ?_)) | (apply ks_alloc; refine c_alloc rfl rfl rfl rfl (fun _ => ?_)))) | (apply sw_seq) | ((fail_if_success (refine g_reg (id := 2) ?_)); apply sw_region) | (apply at_thn)))
  rename_i b2 b4 bP
  dsimp only at hA
  have hi : RdC G (.blk bP 25 [.int .i64 z1, .int .i64 z2, .string z3, .string z4, .string z5] :: (F ++ .blk b4 40 scnZ :: .blk b2 40 (scnC s ga gn gc oa on oc pa pn pc) :: H)) a (acs A) := ⟨fun w hw => hs2.rd.here w (hw.sub (List.Sublist.cons _ (List.sublist_append_left F _)))⟩
  repeat' ((first | (apply g_sl; (first | (apply ks_nil; refine sl_nil ?_) | (apply ks_move; refine s_move rfl rfl ?_) | (apply ks_load; ((refine s_load rfl rfl ?_; (refine ld_whole rfl ?_)))) | (apply ks_asgn; refine s_asgn rfl rfl ?_) | (apply ks_extr; refine s_extr (y_extract rfl rfl rfl) rfl ?_) | (apply ks_fn; ((refine c_call rfl rfl rfl (cR _ (fun w hw => hw.sub (List.Sublist.cons _ (.trans (.cons _ (.cons _ (.refl H))) (List.sublist_append_right F _)))) A a c hA hi) rfl rfl ?_; rintro _ _ ⟨ga2, gn2, gc2, oa2, on2, oc2, pa2, pn2, pc2, X2, E, rfl, rfl, hS2⟩))) | (apply ks_store; ((refine c_storew rfl rfl rfl rfl rfl rfl rfl rfl ?_))))) | (apply sw_ret) | (apply sw_region) | (apply at_thn)))
  refine e_scc ((E ++ (.blk bP 25 [.int .i64 z1, .int .i64 z2, .string z3, .string z4, .string z5] :: (F ++ [.blk b2 40 (scnC s ga gn gc oa on oc pa pn pc)]))) ++ H) (.inr rfl) rfl rfl rfl (fun w hw => hw.sub (by
    rw [List.append_assoc, List.cons_append, List.append_assoc]
    exact List.Sublist.cons _ (List.Sublist.refl _))) ?_
  exact ⟨ga2, gn2, gc2, oa2, on2, oc2, pa2, pn2, pc2, X2, _, rfl, rfl, hS2.mono (fun w hw => hw.sub (List.sublist_append_left E _))⟩
end Go.Proofs.YtmbfechiallppaaGreatDoor
end
section
namespace Go.Proofs.YtmbfechiallppaaGreatDoor
open Go Go.RowKit Go.Fw Go.Sx
set_option maxRecDepth 100000
set_option maxHeartbeats 1000000
attribute [local irreducible] SW SL SQ AtQ SV SC BB LD PK Yields SO SOT SOA SY
theorem cloneS_sc (G : Ctx) (H : List Ent) {vs : List Value} (a : Option Addr) (n c : Nat) [h1 : RdC G H a vs] (hlx : vs.length = n * 1) (hone : vs.all (·.oneCell') = true) (hm : n ≤ 100000000) : SC Tryz.prog G 47 [.slice a n c] H fun v H' => ∃ a' c', v = .slice a' n c' ∧ H' = .own 9 1 a' n c' vs :: H := by
  refine sc_here (callee_of Tryz.func47 rfl rfl) fun w0 hw0 => ?_
  cases a with
  | none =>
    have h0 := At.none_nil (h1.here w0 hw0)
    subst h0
    obtain rfl : n = 0 := by rw [List.length_nil] at hlx; omega
    clear hlx hone
    refine sc_enter1 Tryz.func47 rfl rfl rfl rfl rfl ?_
    repeat' ((first | (apply g_sl; (first | (apply ks_nil; refine sl_nil ?_) | (apply ks_move; refine s_move rfl rfl ?_) | (apply ks_bin; refine s_bin rfl rfl rfl ?_; ((refine bb_enil ?_))) | (apply ks_asgn; refine s_asgn rfl rfl ?_))) | (apply sw_seq) | (apply sw_ret) | (apply sw_region) | (refine sw_cd rfl ?_; ((apply gd_t))) | (apply at_thn) | (apply at_thn_ret)))
    · exact e_scf (.own 9 1 none 0 0 [] :: H) (.inr rfl) rfl (fun _ hw => hw.nilrow _ _) ⟨_, _, rfl, rfl⟩
  | some a =>
    refine sc_enter1 Tryz.func47 rfl rfl rfl rfl rfl ?_
    repeat' ((first | (apply g_sl; (first | (apply ks_nil; refine sl_nil ?_) | (apply ks_move; refine s_move rfl rfl ?_) | (apply ks_bin; refine s_bin rfl rfl rfl ?_; ((refine bb_enil ?_))) | (apply ks_asgn; refine s_asgn rfl rfl ?_) | (apply ks_bi; (((refine c_append rfl rfl rfl rfl hlx hone (by omega) rfl rfl (fun _ _ => ?_))))) | (apply ks_bs; (((refine c_bsl0 rfl rfl rfl rfl (fun _ => ?_))))))) | (apply sw_seq) | (apply sw_skip) | (apply sw_ret) | (apply sw_region) | (refine sw_cd rfl ?_; ((apply gd_ft))) | (apply at_thn)))
    refine e_sc _ (.inr rfl) rfl (List.Sublist.refl _) ?_
    simp only [Nat.zero_add, List.nil_append]
    exact ⟨_, _, rfl, rfl⟩
theorem cloneV_sc (G : Ctx) (H : List Ent) {vs : List Value} (a : Option Addr) (n c : Nat) [h1 : RdC G H a vs] (hlx : vs.length = n * 4) (hone : vs.all (·.oneCell') = true) (hm : n ≤ 100000000) : SC Tryz.prog G 48 [.slice a n c] H fun v H' => ∃ a' c', v = .slice a' n c' ∧ H' = .own 143 4 a' n c' vs :: H := by
  refine sc_here (callee_of Tryz.func48 rfl rfl) fun w0 hw0 => ?_
  cases a with
  | none =>
    have h0 := At.none_nil (h1.here w0 hw0)
    subst h0
    obtain rfl : n = 0 := by rw [List.length_nil] at hlx; omega
    clear hlx hone
    refine sc_enter1 Tryz.func48 rfl rfl rfl rfl rfl ?_
    repeat' ((first | (apply g_sl; (first | (apply ks_nil; refine sl_nil ?_) | (apply ks_move; refine s_move rfl rfl ?_) | (apply ks_bin; refine s_bin rfl rfl rfl ?_; ((refine bb_enil ?_))) | (apply ks_asgn; refine s_asgn rfl rfl ?_))) | (apply sw_seq) | (apply sw_ret) | (apply sw_region) | (refine sw_cd rfl ?_; ((apply gd_t))) | (apply at_thn) | (apply at_thn_ret)))
    · exact e_scf (.own 143 4 none 0 0 [] :: H) (.inr rfl) rfl (fun _ hw => hw.nilrow _ _) ⟨_, _, rfl, rfl⟩
  | some a =>
    refine sc_enter1 Tryz.func48 rfl rfl rfl rfl rfl ?_
    repeat' ((first | (apply g_sl; (first | (apply ks_nil; refine sl_nil ?_) | (apply ks_move; refine s_move rfl rfl ?_) | (apply ks_bin; refine s_bin rfl rfl rfl ?_; ((refine bb_enil ?_))) | (apply ks_asgn; refine s_asgn rfl rfl ?_) | (apply ks_bi; (((refine c_append rfl rfl rfl rfl hlx hone (by omega) rfl rfl (fun _ _ => ?_))))) | (apply ks_bs; (((refine c_bsl0 rfl rfl rfl rfl (fun _ => ?_))))))) | (apply sw_seq) | (apply sw_skip) | (apply sw_ret) | (apply sw_region) | (refine sw_cd rfl ?_; ((apply gd_ft))) | (apply at_thn)))
    refine e_sc _ (.inr rfl) rfl (List.Sublist.refl _) ?_
    simp only [Nat.zero_add, List.nil_append]
    exact ⟨_, _, rfl, rfl⟩
end Go.Proofs.YtmbfechiallppaaGreatDoor
end
section
namespace Go.Fw
/-- What is heard in a state: the next state, the answer, whether it was wrong. -/
def hearN (s : Int) (on agree : Bool) : Int × Int × Bool :=
  if on then
    (if s = 0 then (if agree then (1, 1, false) else (0, 2, false)) else if s = 1 then (1, 0, false) else if s = 2 then (0, 0, true) else if s = 3 then (1, 0, true)
     else if s = 4 then (1, 0, false) else (2, 2, false))
  else
    (if s = 0 then (0, 0, false) else if s = 1 then (0, 2, false) else if s = 2 then (0, 0, false) else if s = 3 then (4, 1, false)
     else if s = 4 then (0, 0, false) else (0, 0, false))
theorem six {s : Int} (h : 0 ≤ s ∧ s ≤ 5) : s = 0 ∨ s = 1 ∨ s = 2 ∨ s = 3 ∨ s = 4 ∨ s = 5 := by omega
theorem hearN_bd (s : Int) (on agree : Bool) : 0 ≤ (hearN s on agree).1 ∧ (hearN s on agree).1 ≤ 5 ∧ 0 ≤ (hearN s on agree).2.1 ∧ (hearN s on agree).2.1 ≤ 2 := by
  unfold hearN
  repeat' split
  all_goals exact ⟨by decide, by decide, by decide, by decide⟩
end Go.Fw
namespace Go.Proofs.YtmbfechiallppaaGreatDoor
open Go Go.RowKit Go.Fw Go.Sx
set_option maxRecDepth 100000
set_option maxHeartbeats 1000000
attribute [local irreducible] SW SL SQ AtQ SV SC BB LD PK Yields SO SOT SOA SY
abbrev hearV (r : Int × Int × Bool) : Value := .tuple #[.int .i64 r.1, .int .i64 r.2.1, .bool r.2.2]
theorem knownN_sv (G : Ctx) (H : List Ent) (s : Int) (b : Bool) (hb : b = decide (0 ≤ s ∧ s ≤ 5)) : SV Tryz.prog G 96 [.int .i64 s] H (.bool b) := by
  subst hb
  refine sv_enter1 Tryz.func96 rfl rfl rfl rfl rfl ?_
  repeat' ((first | (apply g_sl; (first | (apply ks_nil; refine sl_nil ?_) | (apply ks_move; refine s_move rfl rfl ?_) | (apply ks_bin; refine s_bin rfl rfl rfl ?_; (((refine bb_of rfl ?_)))) | (apply ks_asgn; refine s_asgn rfl rfl ?_) | (apply ks_pick; refine s_pick rfl rfl ?_; (first | (apply kp_t; refine pk_t rfl ?_) | (apply kp_f; refine pk_f rfl ?_))) | (apply ks_guard; ((refine sl_gd rfl rfl rfl rfl ?_; (first | (apply gd_t) | (apply gd_ft) | (apply gd_dec_t <;> intro hq <;> (try (exfalso; omega))))))))) | (apply sw_seq) | (apply sw_ret) | (apply sw_region) | (apply at_thn)))
  all_goals (refine e_sv (by (exact .inr rfl)) rfl (by repeat ((exact List.Sublist.refl _))) ?_; (first | exact rb_f (by omega) | exact rb_d (by omega)))
theorem hearN_sv (G : Ctx) (H : List Ent) (s : Int) (on ag : Bool) (h : 0 ≤ s ∧ s ≤ 5) : SV Tryz.prog G 149 [.int .i64 s, .bool on, .bool ag] H (hearV (hearN s on ag)) := by
  rcases six h with rfl | rfl | rfl | rfl | rfl | rfl <;> cases on <;> cases ag
  all_goals
    refine sv_enter3 Tryz.func149 rfl rfl rfl rfl rfl ?_
    repeat' ((first | (apply g_sl; (first | (apply ks_nil; refine sl_nil ?_) | (apply ks_move; refine s_move rfl rfl ?_) | (apply ks_bin; refine s_bin rfl rfl rfl ?_; (((refine bb_of rfl ?_)))) | (apply ks_asgn; refine s_asgn rfl rfl ?_))) | (apply sw_seq) | (apply sw_skip) | (apply sw_ret) | (apply sw_block) | (apply sw_region) | (refine sw_cd rfl ?_; (first | (apply gd_t) | (apply gd_ft))) | (apply at_thn) | (apply at_thn_ret) | (apply at_inb_ret)))
    refine e_sv (by (exact .inr rfl)) rfl (by repeat ((exact List.Sublist.refl _))) ?_
    rfl
end Go.Proofs.YtmbfechiallppaaGreatDoor
end
section
namespace Go.Sx
open Go Go.RowKit Go.Fw
theorem set?_some : ∀ (l : List Value) (k : Nat) (v : Value), k < l.length → set? l k v = some (l.set k v)
  | [], k, v, h => by simp at h
  | x :: l, 0, v, _ => rfl
  | x :: l, k + 1, v, h => by
    unfold set?
    rw [set?_some l k v (by simpa using h)]
    rfl
theorem putL?_some : ∀ (vs l : List Value) (k : Nat), k + vs.length ≤ l.length → putL? l k vs = some (l.take k ++ vs ++ l.drop (k + vs.length))
  | [], l, k, _ => by simp [putL?]
  | v :: vs, l, k, h => by
    have hk : k < l.length := by simp at h; omega
    unfold putL?
    rw [set?_some l k v hk]
    simp only
    rw [putL?_some vs (l.set k v) (k + 1) (by simp at h ⊢; omega)]
    congr 1
    rw [List.take_set, List.drop_set_of_lt (by omega), List.take_succ_eq_append_getElem hk, List.set_append_right _ _ (by simp; omega)]
    simp [Nat.min_eq_left (Nat.le_of_lt hk), Nat.add_assoc, Nat.add_comm 1]
theorem fill2 {offs : List (Nat × Nat)} {z a b : List Value} {m : Nat} (h0 : offs[0]? = some (0, m)) (h1 : offs[1]? = some (m, m)) (hm : 0 < m) (hz : z.length = m + m) (ha : a.length = m) (hb : b.length = m) : fillL? offs z [(0, a), (1, b)] = some (a ++ b) := by
  have e1 : (Nat.beq a.length m && Nat.blt 0 m) = true := by simp [ha, hm, Nat.blt_eq]
  have e2 : (Nat.beq b.length m && Nat.blt 0 m) = true := by simp [hb, hm, Nat.blt_eq]
  unfold fillL?
  simp only [h0, e1, cond_true]
  rw [putL?_some a z 0 (by omega)]
  simp only
  unfold fillL?
  simp only [h1, e2, cond_true]
  rw [putL?_some b _ m (by simp; omega)]
  simp only
  unfold fillL?
  congr 1
  rw [List.take_zero, List.nil_append, Nat.zero_add, ha, List.take_append_of_le_length (by omega), List.take_of_length_le (by omega), List.drop_eq_nil_of_le (by simp; omega), List.append_nil]
end Go.Sx
namespace Go.Proofs.YtmbfechiallppaaGreatDoor
open Go Go.RowKit Go.Fw Go.Sx
set_option maxRecDepth 100000
set_option maxHeartbeats 2000000
attribute [local irreducible] SW SL SQ AtQ SV SC BB LD PK Yields SO SOT SOA SY
/-- The same, part by part. -/
def takeL (L : List Int) (d : ByteArray) : List Int := if ¬ keysE L = 0 then L else if ¬ d.size % 3 = 0 then L else if 300 < d.size then L else (runS L (nums d) (d.size / 3)).1
def takeS (L : List Int) (d : ByteArray) : ByteArray := if ¬ keysE L = 0 then ⟨#[]⟩ else if ¬ d.size % 3 = 0 then ⟨#[]⟩ else if 300 < d.size then ⟨#[]⟩ else strOfNums (runS L (nums d) (d.size / 3)).2
/-- Two sides that answer each other: the keys of both, and what is said last. -/
def meetS (A B : List Int) (s : ByteArray) : Nat → List Int × List Int × ByteArray
  | 0 => (A, B, s)
  | n + 1 => if n % 2 = 1 then (takeL (meetS A B s n).1 (meetS A B s n).2.2, (meetS A B s n).2.1, takeS (meetS A B s n).1 (meetS A B s n).2.2) else ((meetS A B s n).1, takeL (meetS A B s n).2.1 (meetS A B s n).2.2, takeS (meetS A B s n).2.1 (meetS A B s n).2.2)
/-- Where they stop. -/
def Stop (A B : List Int) (s : ByteArray) (N : Nat) : Prop := N ≤ 10 ∧ (N = 10 ∨ (meetS A B s N).2.2 = ⟨#[]⟩) ∧ ∀ k, k < N → ¬ (meetS A B s k).2.2 = ⟨#[]⟩
theorem Stop.at {A B : List Int} {s : ByteArray} {N n : Nat} (h : Stop A B s N) (hn : n ≤ N) (hs : n = 10 ∨ (meetS A B s n).2.2 = ⟨#[]⟩) : n = N := by
  rcases Nat.eq_or_lt_of_le hn with h1 | h1
  · exact h1
  · rcases hs with h2 | h2
    · have := h.1; omega
    · exact absurd h2 (h.2.2 n h1)
theorem Stop.on {A B : List Int} {s : ByteArray} {N n : Nat} (h : Stop A B s N) (hn : n ≤ N) (h1 : n < 10) (h2 : ¬ (meetS A B s n).2.2 = ⟨#[]⟩) : n < N := by
  rcases Nat.eq_or_lt_of_le hn with rfl | h3
  · rcases h.2.1 with h4 | h4
    · omega
    · exact absurd h4 h2
  · exact h3
end Go.Proofs.YtmbfechiallppaaGreatDoor
end
section
namespace Go.Fw
open Go Go.RowKit Go.Sx
def wds (X : List Int) : List Value := X.map (Value.int .u64)
/-- 512 states, and what may be on: 8 words. -/
def negC (W X : List Int) : List Value := octs W ++ wds X
abbrev negV (W X : List Int) : Value := .agg (negC W X).toArray
theorem negC_len {W X : List Int} (hW : W.length = 512) (hX : X.length = 8) : (negC W X).length = 520 := by simp [negC, octs, wds, hW, hX]
theorem neg_b {W X : List Int} (hW : W.length = 512) (hX : X.length = 8) : Nat.beq (negC W X).length 520 = true := by rw [negC_len hW hX]; rfl
theorem neg_at {W : List Int} (X : List Int) (hW : W.length = 512) (f : Nat) (hf : f < 512) : (negC W X)[f]? = some (.int .u8 (W.getD f 0)) := by
  unfold negC
  rw [List.getElem?_append_left (by rw [octs_len]; omega)]
  exact octs_at W f (by omega)
theorem neg_set {W : List Int} (X : List Int) (hW : W.length = 512) (f : Nat) (hf : f < 512) (v : Int) : (negC W X).set f (.int .u8 v) = negC (W.set f v) X := by
  unfold negC
  rw [List.set_append_left _ _ (by rw [octs_len]; omega), octs_set]
def negOk (W : List Int) : Bool := (List.range 512).all fun j => decide (0 ≤ W.getD j 0 ∧ W.getD j 0 ≤ 5)
def negE (W : List Int) : Int := if negOk W = true then 0 else 4
theorem negE_bad {W : List Int} (j : Nat) (hj : j < 512) (h : ¬ (0 ≤ W.getD j 0 ∧ W.getD j 0 ≤ 5)) : negE W = 4 := by
  unfold negE
  rw [if_neg]
  intro e
  have := List.all_eq_true.1 e j (List.mem_range.2 hj)
  exact h (of_decide_eq_true this)
theorem negE_ok {W : List Int} (h : ∀ j, j < 512 → 0 ≤ W.getD j 0 ∧ W.getD j 0 ≤ 5) : negE W = 0 := by
  unfold negE
  rw [if_pos]
  exact List.all_eq_true.2 fun j hj => decide_eq_true (h j (List.mem_range.1 hj))
theorem negE_at {W : List Int} (h : negE W = 0) (j : Nat) (hj : j < 512) : 0 ≤ W.getD j 0 ∧ W.getD j 0 ≤ 5 := by
  rcases Classical.em (0 ≤ W.getD j 0 ∧ W.getD j 0 ≤ 5) with h1 | h1
  · exact h1
  · rw [negE_bad j hj h1] at h
    cases h
/-- The bytes that are said. -/
def spokeL (us : Bool) (m opt : Int) : List Int := if m = 0 then [] else [255, (if us then 250 else 252) + m, opt]
attribute [irreducible] negE
end Go.Fw
namespace Go.Proofs.YtmbfechiallppaaGreatDoor
open Go Go.RowKit Go.Fw Go.Sx
set_option maxRecDepth 100000
set_option maxHeartbeats 1000000
attribute [local irreducible] SW SL SQ AtQ SV SC BB LD PK Yields SO SOT SOA SY
theorem neg_part {W : List Int} (X : List Int) (hW : W.length = 512) (k : Nat) (hk : k + 256 ≤ 512) : take? ((negC W X).drop k) 256 = some (octs ((W.drop k).take 256)) := by
  unfold negC
  rw [take?_take _ _ (by simp [octs, wds]; omega), List.drop_append_of_le_length (by rw [octs_len]; omega), List.take_append_of_le_length (by simp [octs]; omega)]
  simp [octs, List.map_take, List.map_drop]
attribute [local irreducible] negC
theorem negBytes_sv (G : Ctx) (H : List Ent) (us : Bool) (m opt : Int) (hm : 0 ≤ m ∧ m ≤ 2) (ho : 0 ≤ opt ∧ opt ≤ 255) : SV Tryz.prog G 108 [.bool us, .int .i64 m, .int .i64 opt] H (.string (strOfNums (spokeL us m opt))) := by
  rcases (show m = 0 ∨ m = 1 ∨ m = 2 by omega) with rfl | rfl | rfl <;> cases us
  all_goals
    refine sv_enter3 Tryz.func108 rfl rfl rfl rfl rfl ?_
    repeat' ((first | (apply g_sl; (first | (apply ks_nil; refine sl_nil ?_) | (apply ks_move; refine s_move rfl rfl ?_) | (apply ks_bin; refine s_bin rfl rfl rfl ?_; ((((first | (apply kb_add; (refine bb_add ⟨by omega, by omega⟩ ?_)) | (apply kb_sub; (refine bb_sub ⟨by omega, by omega⟩ ?_)) | refine bb_of rfl ?_))))) | (apply ks_asgn; refine s_asgn rfl rfl ?_) | (apply ks_conv; ((first | refine s_conv (c_convBs (xs := spokeL _ _ opt) rfl rfl (show _ = octs (spokeL true 1 opt) from rfl) rfl) rfl ?_ | refine s_conv (c_convBs rfl rfl (show _ = octs (spokeL true 2 opt) from rfl) rfl) rfl ?_ | refine s_conv (c_convBs rfl rfl (show _ = octs (spokeL false 1 opt) from rfl) rfl) rfl ?_ | refine s_conv (c_convBs rfl rfl (show _ = octs (spokeL false 2 opt) from rfl) rfl) rfl ?_ | refine s_conv (c_conv (k := .u8) rfl rfl ⟨by omega, by omega⟩) rfl ?_))) | (apply ks_bs; (refine c_buildSlice rfl rfl rfl rfl rfl rfl rfl rfl rfl rfl (fun _ => ?_))))) | (apply sw_seq) | (apply sw_skip) | (apply sw_ret) | (apply sw_region) | (refine sw_cd rfl ?_; (first | (apply gd_t) | (apply gd_ft))) | (apply at_thn) | (apply at_thn_ret)))
  all_goals (refine e_sv (by (exact .inr rfl)) rfl (by repeat ((first | exact List.Sublist.refl _ | refine List.Sublist.cons _ ?_))) ?_; rfl)
end Go.Proofs.YtmbfechiallppaaGreatDoor
end
section
namespace Go.Proofs.YtmbfechiallppaaGreatDoor
open Go Go.RowKit Go.Fw Go.Sx
set_option maxRecDepth 100000
set_option maxHeartbeats 1000000
theorem over_app {p q S : List Value} (h : q.length = S.length) : over (p ++ q) p.length S = p ++ S := by
  unfold over
  rw [List.take_left, List.drop_eq_nil_of_le (by simp; omega), List.append_nil]
theorem over_preV {a N c vs : List Value} {off : Nat} (h : off + vs.length ≤ a.length) : over (big a N c) off vs = big (over a off vs) N c := by
  unfold over big
  rw [List.take_append_of_le_length (by omega), List.drop_append_of_le_length (by omega)]
  simp only [List.append_assoc]
theorem over_postV {a N c vs : List Value} {m off : Nat} [hN : Len N m] (h2 : Nat.ble (a.length + m) off = true) : over (big a N c) off vs = big a N (over c (off - (a.length + m)) vs) := by
  have h2 := Nat.le_of_ble_eq_true h2
  have hN := hN.here
  have e3 : (a ++ N).length = a.length + m := by rw [List.length_append, hN]
  unfold over big
  rw [← List.append_assoc, List.take_append, List.take_of_length_le (by omega), List.drop_append, show (a ++ N).drop (off + vs.length) = [] from List.drop_eq_nil_of_le (by omega), e3, List.nil_append]
  simp only [List.append_assoc]
  congr 5
  omega
theorem fill_o {offs : List (Nat × Nat)} {l cs l' : List Value} {i off sz : Nat} {r : List (Nat × List Value)} (h1 : offs[i]? = some (off, sz)) (h2 : cs.length = sz) (h3 : 0 < sz) (h4 : off + sz ≤ l.length) (h5 : over l off cs = l') : fillL? offs l ((i, cs) :: r) = fillL? offs l' r := by
  rw [fill_c h1 h2 h3 h4, ← h5]
  unfold over
  rw [h2, List.append_assoc]
/-- Five, one, one, five cells: nothing under way. -/
def cli0 : List Value := .int .i64 0 :: .int .i64 0 :: .int .i64 0 :: .string .empty :: .bool false :: .bool false :: .string .empty :: .int .i64 0 :: .int .i64 0 :: .string .empty :: .string .empty :: .string .empty :: []
def negZ : List Value := List.replicate 512 (Value.int .u8 0) ++ List.replicate 8 (Value.int .u64 0)
def keyZ : List Value := List.replicate 38 (Value.int .u8 0)
def cliE : List Value := [.int .u64 0, .int .u64 0, .int .u64 0, .int .u64 0, .string .empty, .bool false, .bool false]
def cliZ : List Value := big (cli0 ++ scnZ) negZ (big [.slice none 0 0, .int .i64 0, .slice none 0 0] keyZ cliE)
def cliOffs : List (Nat × Nat) := [(0, 5), (5, 1), (6, 1), (7, 5), (12, 33), (45, 520), (565, 2), (567, 1), (568, 38), (606, 4), (610, 2), (612, 1)]
instance lenNegZ : Len negZ 520 := ⟨by simp [negZ]⟩
instance lenKeyZ : Len keyZ 38 := ⟨by simp [keyZ]⟩
theorem cliOff : OffsT Tryz.prog 55 cliOffs cliZ := ⟨(cliOffs.toArray[·]?), fun _ => by kernel_rfl, fun i p h => by simpa using h⟩
instance cliZero : ZeroT Tryz.prog 55 cliZ := ⟨_, show still Tryz.prog (zeroValue 55) = some (.agg cliZ.toArray) by kernel_rfl, .agg _⟩
theorem negOff : OffsT Tryz.prog 43 [(0, 256), (256, 256), (512, 4), (516, 4)] negZ := ⟨(([(0, 256), (256, 256), (512, 4), (516, 4)] : List (Nat × Nat)).toArray[·]?), fun _ => by kernel_rfl, fun i p h => by simpa using h⟩
def cliP (na : Option Addr) (nn nc : Nat) (at' : Int) (va : Option Addr) (vn vc : Nat) : List Value := [.slice na nn nc, .int .i64 at', .slice va vn vc]
theorem cliFill (S N : List Value) (hS : S.length = 33) (hN : N.length = 520) (na : Option Addr) (nn nc : Nat) (va : Option Addr) (vn vc : Nat) :
    fillL? cliOffs cliZ [(4, S), (6, [.slice na nn nc, .int .i64 0]), (7, [.slice va vn vc]), (5, N)] = some (big (cli0 ++ S) N (big (cliP na nn nc 0 va vn vc) keyZ cliE)) := by
  have hc : cliZ.length = 613 := by unfold cliZ; exact big_len (m := 520) (by rw [show (big [Value.slice none 0 0, .int .i64 0, .slice none 0 0] keyZ cliE).length = 48 from big_len (m := 38) rfl]; rfl)
  have h1 : over cliZ 12 S = big (cli0 ++ S) negZ (big [.slice none 0 0, .int .i64 0, .slice none 0 0] keyZ cliE) := by
    unfold cliZ
    rw [over_preV (by rw [hS]; exact Nat.le_of_ble_eq_true rfl)]
    rw [show (12 : Nat) = cli0.length from rfl, over_app (by rw [hS]; rfl)]
  have hA : (cli0 ++ S).length = 45 := by rw [List.length_append, hS]; rfl
  have h2 : over (big (cli0 ++ S) negZ (big [.slice none 0 0, .int .i64 0, .slice none 0 0] keyZ cliE)) 565 [.slice na nn nc, .int .i64 0] = big (cli0 ++ S) negZ (big [.slice na nn nc, .int .i64 0, .slice none 0 0] keyZ cliE) := by
    rw [over_postV (m := 520) (by rw [hA]; rfl), hA, show 565 - (45 + 520) = 0 from rfl, over_preV (Nat.le_of_ble_eq_true rfl)]
    rfl
  have h3 : over (big (cli0 ++ S) negZ (big [.slice na nn nc, .int .i64 0, .slice none 0 0] keyZ cliE)) 567 [.slice va vn vc] = big (cli0 ++ S) negZ (big (cliP na nn nc 0 va vn vc) keyZ cliE) := by
    rw [over_postV (m := 520) (by rw [hA]; rfl), hA, show 567 - (45 + 520) = 2 from rfl, over_preV (Nat.le_of_ble_eq_true rfl)]
    rfl
  have h4 : over (big (cli0 ++ S) negZ (big (cliP na nn nc 0 va vn vc) keyZ cliE)) 45 N = big (cli0 ++ S) N (big (cliP na nn nc 0 va vn vc) keyZ cliE) := over_mid (m := 520) hA hN
  have hb : ∀ (P : List Value), P.length = 3 → (big (cli0 ++ S) negZ (big P keyZ cliE)).length = 613 := fun P hP => by
    rw [big_len (m := 520) (k := 613) (by rw [show (big P keyZ cliE).length = 48 from big_len (m := 38) (by rw [hP]; rfl), hA]; rfl)]
  rw [fill_o (off := 12) (sz := 33) rfl hS (by decide) (by rw [hc]; decide) h1, fill_o (off := 565) (sz := 2) rfl rfl (by decide) (by rw [hb _ rfl]; decide) h2, fill_o (off := 567) (sz := 1) rfl rfl (by decide) (by rw [hb _ rfl]; decide) h3, fill_o (off := 45) (sz := 520) rfl hN (by decide) (by rw [hb _ rfl]; decide) h4]
  rfl
theorem negFill (x : List Value) (y : List Value) (hx : x.length = 4) (hy : y.length = 4) : fillL? [(0, 256), (256, 256), (512, 4), (516, 4)] negZ [(2, x), (3, y)] = some (List.replicate 512 (Value.int .u8 0) ++ (x ++ y)) := by
  have hz : negZ.length = 520 := by simp [negZ]
  have h1 : over negZ 512 x = List.replicate 512 (Value.int .u8 0) ++ (x ++ List.replicate 4 (.int .u64 0)) := by
    unfold over negZ
    rw [hx, List.take_append_of_le_length (by simp), List.take_of_length_le (by simp), List.drop_append, List.drop_eq_nil_of_le (by simp)]
    simp
  have h2 : over (List.replicate 512 (Value.int .u8 0) ++ (x ++ List.replicate 4 (.int .u64 0))) 516 y = List.replicate 512 (Value.int .u8 0) ++ (x ++ y) := by
    unfold over
    rw [hy, ← List.append_assoc, List.take_append, List.take_of_length_le (by simp; omega), List.drop_eq_nil_of_le (by simp; omega)]
    simp [hx]
  rw [fill_o (off := 512) (sz := 4) rfl hx (by decide) (by rw [hz]; decide) h1, fill_o (off := 516) (sz := 4) rfl hy (by decide) (by simp [hx]) h2]
  rfl
theorem negFillC (x0 x1 x2 x3 x4 x5 x6 x7 : Int) : fillL? [(0, 256), (256, 256), (512, 4), (516, 4)] negZ [(2, [.int .u64 x0, .int .u64 x1, .int .u64 x2, .int .u64 x3]), (3, [.int .u64 x4, .int .u64 x5, .int .u64 x6, .int .u64 x7])] = some (negC (List.replicate 512 0) [x0, x1, x2, x3, x4, x5, x6, x7]) := by
  rw [negFill _ _ rfl rfl]
  unfold negC octs wds
  rw [List.map_replicate]
  rfl
theorem big_all {a N c : List Value} (h1 : a.all (·.oneCell') = true) (h2 : N.all (·.oneCell') = true) (h3 : c.all (·.oneCell') = true) : (big a N c).all (·.oneCell') = true := by
  unfold big; rw [List.all_append, List.all_append, h1, h2, h3]; rfl
theorem negC_all (W X : List Int) : (negC W X).all (·.oneCell') = true := by
  unfold negC wds octs
  simp [List.all_append, Value.oneCell']
theorem octs_all (K : List Int) : (octs K).all (·.oneCell') = true := octs_one K
/-- The keys of a new client, those set whose numbers are in the list. -/
def kChC : List Int := [127, 21, 23, 18, 22]
def kSet (p : Nat → Bool) : List Int := (List.range 38).map fun j => if 10 ≤ j ∧ j ≤ 14 ∧ p (j - 10) = true then 2 else if 29 ≤ j ∧ j ≤ 33 ∧ p (j - 29) = true then kChC.getD (j - 29) 0 else 0
theorem kSet_len (p : Nat → Bool) : (kSet p).length = 38 := by simp [kSet]
theorem kSet_at (p : Nat → Bool) (j : Nat) (hj : j < 38) : (kSet p)[j]? = some (if 10 ≤ j ∧ j ≤ 14 ∧ p (j - 10) = true then 2 else if 29 ≤ j ∧ j ≤ 33 ∧ p (j - 29) = true then kChC.getD (j - 29) 0 else 0) := by
  unfold kSet
  rw [List.getElem?_map, List.getElem?_range hj]; rfl
theorem kSet_none : octs (kSet fun _ => false) = keyZ := by
  rw [show kSet (fun _ => false) = List.replicate 38 0 from by decide +kernel]; simp [octs, keyZ]
theorem kSet_step (p : Nat → Bool) (i : Nat) (hi : i < 5) : ((kSet p).set (10 + i) 2).set (29 + i) (kChC.getD i 0) = kSet fun j => p j || j == i := by
  apply List.ext_getElem?
  intro j
  by_cases hj : j < 38
  · rw [kSet_at _ j hj, List.getElem?_set, List.getElem?_set, kSet_at _ j hj]
    simp only [List.length_set, kSet_len]
    by_cases h1 : 29 + i = j
    · subst h1
      have : ¬ (29 + i ≤ 14) := by omega
      simp [hj, this, show 29 + i ≤ 33 from by omega]
    · rw [if_neg h1]
      by_cases h2 : 10 + i = j
      · subst h2
        simp [hj, show 10 + i ≤ 14 from by omega]
      · rw [if_neg h2]
        congr 1
        have e1 : (10 ≤ j ∧ j ≤ 14 ∧ p (j - 10) = true) ↔ (10 ≤ j ∧ j ≤ 14 ∧ (p (j - 10) || j - 10 == i) = true) := by
          constructor
          · rintro ⟨a, b, c⟩; exact ⟨a, b, by rw [c]; rfl⟩
          · rintro ⟨a, b, c⟩
            refine ⟨a, b, ?_⟩
            rw [Bool.or_eq_true, beq_iff_eq] at c
            rcases c with c | c
            · exact c
            · omega
        have e2 : (29 ≤ j ∧ j ≤ 33 ∧ p (j - 29) = true) ↔ (29 ≤ j ∧ j ≤ 33 ∧ (p (j - 29) || j - 29 == i) = true) := by
          constructor
          · rintro ⟨a, b, c⟩; exact ⟨a, b, by rw [c]; rfl⟩
          · rintro ⟨a, b, c⟩
            refine ⟨a, b, ?_⟩
            rw [Bool.or_eq_true, beq_iff_eq] at c
            rcases c with c | c
            · exact c
            · omega
        simp only [e1, e2]
  · rw [List.getElem?_eq_none (by simp [kSet_len]; omega), List.getElem?_eq_none (by simp [kSet_len]; omega)]
theorem kSet_congr {p q : Nat → Bool} (h : ∀ i, i < 5 → p i = q i) : kSet p = kSet q := by
  unfold kSet
  refine List.map_congr_left fun j hj => ?_
  by_cases h1 : 10 ≤ j ∧ j ≤ 14
  · rw [h (j - 10) (by omega), if_neg (by omega : ¬ (29 ≤ j ∧ _)), if_neg (by omega : ¬ (29 ≤ j ∧ _))]
  · rw [if_neg (by omega : ¬ (10 ≤ j ∧ _)), if_neg (by omega : ¬ (10 ≤ j ∧ _))]
    by_cases h2 : 29 ≤ j ∧ j ≤ 33
    · rw [h (j - 29) (by omega)]
    · rw [if_neg (by omega : ¬ (29 ≤ j ∧ _)), if_neg (by omega : ¬ (29 ≤ j ∧ _))]
theorem cli_key {A N P E : List Value} {K : List Int} (hA : A.length = 45) (hN : N.length = 520) (hP : P.length = 3) (hK : K.length = 38) (j k : Nat) (v : Int) (hj : j < 38) (hk : k = 568 + j) : (big A N (big P (octs K) E)).set k (.int .u8 v) = big A N (big P (octs (K.set j v)) E) := by
  subst hk
  unfold big
  rw [List.set_append_right _ _ (by omega), List.set_append_right _ _ (by omega), List.set_append_right _ _ (by omega), List.set_append_left _ _ (by rw [octs_len]; omega), octs_set, hA, hN, hP, show 568 + j - 45 - 520 - 3 = j from by omega]
theorem cli_len {A N P E K : List Value} (hA : A.length = 45) (hN : N.length = 520) (hP : P.length = 3) (hK : K.length = 38) (hE : E.length = 7) : (big A N (big P K E)).length = 613 := by
  unfold big
  simp only [List.length_append, hA, hN, hP, hK, hE]
/-- The map's five entries. -/
def kE (i : Nat) : MapEntry := ⟨.int .i64 (10 + i : Nat), .int .u8 (kChC.getD i 0), i⟩
def kEs : Array MapEntry := #[kE 0, kE 1, kE 2, kE 3, kE 4]
theorem kEs_mem {y : MapEntry} (h : y ∈ kEs.toList) : ∃ i, i < 5 ∧ y = kE i := by
  simp only [kEs, List.mem_cons, List.not_mem_nil, or_false] at h
  rcases h with rfl | rfl | rfl | rfl | rfl
  · exact ⟨0, by decide, rfl⟩
  · exact ⟨1, by decide, rfl⟩
  · exact ⟨2, by decide, rfl⟩
  · exact ⟨3, by decide, rfl⟩
  · exact ⟨4, by decide, rfl⟩
theorem kOld : ∀ y ∈ kEs.toList, y.born < 5 := fun y h => by obtain ⟨i, hi, rfl⟩ := kEs_mem h; exact hi
theorem kNodup : (kEs.toList.map (·.born)).Nodup := by decide
theorem kE_in (i : Nat) (h : i < 5) : kE i ∈ kEs.toList := by
  rcases (show i = 0 ∨ i = 1 ∨ i = 2 ∨ i = 3 ∨ i = 4 by omega) with rfl | rfl | rfl | rfl | rfl <;> simp [kEs]
theorem kLeft {seen : Array Nat} {y : MapEntry} (h : y ∈ (leftOf kEs seen).toList) : ∃ i, i < 5 ∧ y = kE i ∧ seen.contains i = false := by
  unfold leftOf at h
  rw [Array.toList_filter, List.mem_filter] at h
  obtain ⟨i, hi, rfl⟩ := kEs_mem h.1
  exact ⟨i, hi, rfl, by simpa [kE] using h.2⟩
theorem kLeft0 {seen : Array Nat} (h : (leftOf kEs seen).size = 0) (i : Nat) (hi : i < 5) : seen.contains i = true := by
  cases hc : seen.contains i with
  | true => rfl
  | false =>
    have hm : kE i ∈ (leftOf kEs seen).toList := by
      unfold leftOf
      rw [Array.toList_filter, List.mem_filter]
      exact ⟨kE_in i hi, by simpa [kE] using hc⟩
    rw [Array.eq_empty_of_size_eq_zero h] at hm
    cases hm
def m5 (a b c d e : Bool) : Nat := (!a).toNat + (!b).toNat + (!c).toNat + (!d).toNat + (!e).toNat
def kMu (seen : Array Nat) : Nat := m5 (seen.contains 0) (seen.contains 1) (seen.contains 2) (seen.contains 3) (seen.contains 4)
theorem kMu_lt {seen : Array Nat} {i : Nat} (hi : i < 5) (h : seen.contains i = false) : kMu (seen.push i) < kMu seen := by
  unfold kMu
  simp only [Array.contains_push]
  have key0 : ∀ b c d e : Bool, m5 (false || true) (b || false) (c || false) (d || false) (e || false) < m5 false b c d e := by decide
  have key1 : ∀ b c d e : Bool, m5 (b || false) (false || true) (c || false) (d || false) (e || false) < m5 b false c d e := by decide
  have key2 : ∀ b c d e : Bool, m5 (b || false) (c || false) (false || true) (d || false) (e || false) < m5 b c false d e := by decide
  have key3 : ∀ b c d e : Bool, m5 (b || false) (c || false) (d || false) (false || true) (e || false) < m5 b c d false e := by decide
  have key4 : ∀ b c d e : Bool, m5 (b || false) (c || false) (d || false) (e || false) (false || true) < m5 b c d e false := by decide
  rcases (show i = 0 ∨ i = 1 ∨ i = 2 ∨ i = 3 ∨ i = 4 by omega) with rfl | rfl | rfl | rfl | rfl <;> rw [h]
  · exact key0 _ _ _ _
  · exact key1 _ _ _ _
  · exact key2 _ _ _ _
  · exact key3 _ _ _ _
  · exact key4 _ _ _ _
end Go.Proofs.YtmbfechiallppaaGreatDoor
end
