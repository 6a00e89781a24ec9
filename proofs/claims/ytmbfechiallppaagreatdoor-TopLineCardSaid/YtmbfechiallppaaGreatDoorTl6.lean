/- Texts of this claim, merged: LineT LineI LineE LineK Line2 LineY Cli9 Cli10 Cli11 Key Key2 Cli12 Cli13 TopP TopQ Neg3 Neg4 Neg5 TopR Top1 Top2 Top3 Top4 Top5 Top6. -/
import Derived.Test.YtmbfechiallppaaGreatDoorTl5
import Derived.WalkKit
import Derived.WalkSpells
import Derived.WalkLawsBesides
import Derived.Handy
import Derived.Lib.Hide
import Derived.Laws.BitsAllLaws
import Derived.Deep.MidRow
import Derived.Deep.WholeRow
import Derived.BigQuiet
import Derived.Laws.CopyOwn
import Derived.Deep.QuietTactic
import Derived.Laws.AppendOwnNone
import Derived.Laws.MakeOwn
import Derived.Laws.IdiomStrings
import Derived.OrdersHeld
import Derived.Lib.SliceRun
import Derived.ChangeKeysEq
import Derived.Laws.CopyRow
import Derived.Lib.AppendStr
import Derived.ArgAppend
import Derived.Test.YtmbfechiallppaaGreatDoorRows
import Derived.Shelf.Strings.Builder1
import Derived.Shelf.Strings.Builder2
import Derived.Shelf.Strings.OnBuilder
import Derived.Shelf.Strings.Trim
import Derived.Shelf.Small.Utf8
import Derived.Shelf.Small.Strs
import Derived.Shelf.Strings.BuilderF
import Derived.Shelf.Strconv.Itoa0
import Derived.Shelf.Strconv.Itoa1
import Derived.Shelf.LaysM
import Derived.Shelf.Strconv.Itoa2
import Derived.Shelf.Strconv.Itoa3
import Derived.Shelf.Strings.Search1
import Derived.Shelf.Strings.Search2
import Derived.Shelf.Strings.Search3
import Derived.Shelf.Strings.Count
import Derived.Shelf.Strings.Shaped
import Derived.Shelf.Strings.LastIndex
import Derived.Shelf.Strings.Prefix
import Derived.Shelf.Strings.Split
import Derived.Shelf.Strings.Replace
import Derived.Shelf.Strings.Runes
import Derived.Shelf.Strings.AsciiSet
import Derived.Shelf.Bits.Mul64
import Derived.Shelf.Strings.Repeat
import Derived.Shelf.Unicode.DecodeSlow
import Derived.Shelf.Unicode.DecodeAny
import Derived.Test.YtmbfechiallppaaGreatDoorProg
import Derived.Lib.Repeat
import Derived.StillTailTactics
import Derived.RegionTactic
import Derived.ChangeAlike
import Derived.Laws.RangeAny
import Derived.Maps.RangeRun
import Derived.Lib.Replace
import Derived.Lib.Join
import Derived.Lib.IndexLaws
import Derived.Lib.IndexMore
import Derived.Lib.SplitLaws
import Derived.Lib.Bytealg
import Derived.Lib.DecodeN
import Derived.Lib.ItoaNum
section
namespace Go.Proofs.YtmbfechiallppaaGreatDoor
open Go Go.RowKit Go.Fw Go.Sx
set_option maxRecDepth 100000
set_option maxHeartbeats 1000000
/-- The typist's cells. -/
def tyC (ab : Option Addr) (nb cb : Nat) (q : Bool) (L V : List Int) (al : Option Addr) (nl cl : Nat) (ae : Option Addr) (ne ce : Nat) : List Value :=
  [.slice ab nb cb, .bool q] ++ (octs L ++ (wdL V ++ [.slice al nl cl, .slice ae ne ce]))
section
variable (ab : Option Addr) (nb cb : Nat) (q : Bool) (L V : List Int) (al : Option Addr) (nl cl : Nat) (ae : Option Addr) (ne ce : Nat)
theorem ty_len (hL : L.length = 38) (hV : V.length = 4) : (tyC ab nb cb q L V al nl cl ae ne ce).length = 46 := by unfold tyC; simp [octs_len, wdL_len, hL, hV]
theorem ty_key (hL : L.length = 38) (k : Nat) (hk : k < 38) : (tyC ab nb cb q L V al nl cl ae ne ce)[2 + k]? = (octs L)[k]? := by
  unfold tyC
  rw [List.getElem?_append_right (by simp), List.getElem?_append_left (by rw [octs_len, hL]; simp; omega)]
  simp
theorem ty_lv (hL : L.length = 38) (f : Int) (hf : 0 ≤ f ∧ f ≤ 18) : (tyC ab nb cb q L V al nl cl ae ne ce)[2 + f.toNat * 1]? = some (.int .u8 (kLv L f.toNat)) := by
  have h := keys_lv L hL f hf
  rw [show 0 + f.toNat * 1 = f.toNat from by omega] at h
  rw [show 2 + f.toNat * 1 = 2 + f.toNat from by omega, ty_key _ _ _ _ _ _ _ _ _ _ _ _ hL _ (by omega), h]
theorem ty_ch (hL : L.length = 38) (f : Int) (hf : 0 ≤ f ∧ f ≤ 18) : (tyC ab nb cb q L V al nl cl ae ne ce)[21 + f.toNat * 1]? = some (.int .u8 (kCh L f.toNat)) := by
  have h := keys_ch L hL f hf
  rw [show 19 + f.toNat * 1 = 19 + f.toNat from by omega] at h
  rw [show 21 + f.toNat * 1 = 2 + (19 + f.toNat) from by omega, ty_key _ _ _ _ _ _ _ _ _ _ _ _ hL _ (by omega), h]
end
attribute [local irreducible] SW SL SQ AtQ SV SC BB LD PK Yields SO SOT SOA SY
theorem tyIs_sv (G : Ctx) (H : List Ent) (b : Nat) (cs : List Value) [hb : HasBlk H b 256 cs] (L : List Int) (c f : Int) (hc : 0 ≤ c ∧ c ≤ 255) (h1 : cs[2 + f.toNat * 1]? = some (.int .u8 (kLv L f.toNat))) (h2 : cs[21 + f.toNat * 1]? = some (.int .u8 (kCh L f.toNat))) (hf : 0 ≤ f ∧ f ≤ 18) : SV Tryz.prog G 213 [.pointer (some ⟨b, 0, none⟩), .int .u8 c, .int .i64 f] H (.bool (decide (c = keyI L f.toNat))) := by
  unfold keyI
  generalize kLv L f.toNat = lv at *
  generalize kCh L f.toNat = ch at *
  refine sv_enter3 Tryz.func213 rfl rfl rfl rfl rfl ?_
  repeat' ((first | (apply g_sl; (first | (apply ks_nil; refine sl_nil ?_) | (apply ks_move; refine s_move rfl rfl ?_) | (apply ks_bin; refine s_bin rfl rfl rfl ?_; ((((refine bb_of rfl ?_))))) | (apply ks_load; (((refine s_load rfl rfl ?_; (first | refine ld_cell h1 ?_ | refine ld_cell h2 ?_))))) | (apply ks_asgn; refine s_asgn rfl rfl ?_) | (apply ks_pick; refine s_pick rfl rfl ?_; (first | (apply kp_t; refine pk_t rfl ?_) | (apply kp_f; refine pk_f rfl ?_))) | (apply ks_field; (first | refine s_field (c_field0 rfl rfl) rfl ?_ | refine s_field (c_field rfl rfl) rfl ?_)) | (apply ks_indexA; (((refine s_indexA (c_indexP rfl rfl rfl (by omega) (by omega)) rfl ?_)))) | (apply ks_nilc; refine s_nilc (y_nilCheck rfl rfl) rfl ?_) | (apply ks_guard; ((refine sl_gd rfl rfl rfl rfl ?_; (first | (apply gd_t) | (apply gd_ft) | (apply gd_bne_t <;> intro hq <;> (try (exfalso; omega))))))))) | (apply sw_seq) | (apply sw_ret) | (apply sw_region) | (apply at_thn)))
  · refine e_sv (by (exact .inr rfl)) rfl (by repeat ((exact List.Sublist.refl _))) ?_
    rw [if_neg (by assumption)]
    exact congrArg Value.bool ((Bool.eq_iff_iff).2 (by simp only [beq_iff_eq, decide_eq_true_eq]; exact eq_comm))
  · refine e_sv (by (exact .inr rfl)) rfl (by repeat ((exact List.Sublist.refl _))) ?_
    rw [if_pos (by assumption)]
    exact congrArg Value.bool (decide_eq_false (by omega)).symm
section
variable (ab : Option Addr) (nb cb : Nat) (q : Bool) (L V : List Int) (al : Option Addr) (nl cl : Nat) (ae : Option Addr) (ne ce : Nat)
theorem ty_lines (hL : L.length = 38) (hV : V.length = 4) : (tyC ab nb cb q L V al nl cl ae ne ce)[44]? = some (.slice al nl cl) := by
  unfold tyC
  rw [List.getElem?_append_right (by simp), List.getElem?_append_right (by rw [octs_len, hL]; simp), List.getElem?_append_right (by rw [octs_len, wdL_len, hL, hV]; simp)]
  simp [octs_len, wdL_len, hL, hV]
theorem ty_echo (hL : L.length = 38) (hV : V.length = 4) : (tyC ab nb cb q L V al nl cl ae ne ce)[45]? = some (.slice ae ne ce) := by
  unfold tyC
  rw [List.getElem?_append_right (by simp), List.getElem?_append_right (by rw [octs_len, hL]; simp), List.getElem?_append_right (by rw [octs_len, wdL_len, hL, hV]; simp)]
  simp [octs_len, wdL_len, hL, hV]
theorem ty_setl (hL : L.length = 38) (hV : V.length = 4) (a : Option Addr) (n c : Nat) : (tyC ab nb cb q L V al nl cl ae ne ce).set 44 (.slice a n c) = tyC ab nb cb q L V a n c ae ne ce := by
  unfold tyC
  rw [List.set_append_right _ _ (by simp), List.set_append_right _ _ (by rw [octs_len, hL]; simp), List.set_append_right _ _ (by rw [octs_len, wdL_len, hL, hV]; simp)]
  simp [octs_len, wdL_len, hL, hV]
theorem ty_sete (hL : L.length = 38) (hV : V.length = 4) (a : Option Addr) (n c : Nat) : (tyC ab nb cb q L V al nl cl ae ne ce).set 45 (.slice a n c) = tyC ab nb cb q L V al nl cl a n c := by
  unfold tyC
  rw [List.set_append_right _ _ (by simp), List.set_append_right _ _ (by rw [octs_len, hL]; simp), List.set_append_right _ _ (by rw [octs_len, wdL_len, hL, hV]; simp)]
  simp [octs_len, wdL_len, hL, hV]
end
theorem tySend_sc (G : Ctx) (H : List Ent) (b : Nat) (X : Ent) (L V : List Int) (hL : L.length = 38) (hV : V.length = 4) (q : Bool) (B : List Int) (S : List ByteArray) (ab : Option Addr) (nb cb : Nat) (al : Option Addr) (nl cl : Nat) (ae : Option Addr) (ne ce : Nat) (hX : BufE 5 X ab nb cb B) (hnb : nb = B.length) (hnl : nl = S.length) (hml : nl ≤ 100000) : SC Tryz.prog G 218 [.pointer (some ⟨b, 0, none⟩)] (.blk b 256 (tyC ab nb cb q L V al nl cl ae ne ce) :: X :: .own 9 1 al nl cl (strs S) :: H) (fun v H' => ∃ a' c', v = resV [] ∧ H' = .blk b 256 (tyC none 0 0 q L V a' (S ++ [strOfNums B]).length c' ae ne ce) :: .own 5 1 none 0 0 (octs []) :: .own 9 1 a' (S ++ [strOfNums B]).length c' (strs (S ++ [strOfNums B])) :: H) := by
  have hl := ty_lines ab nb cb q L V al nl cl ae ne ce hL hV
  have hsl := fun a n c => ty_setl ab nb cb q L V al nl cl ae ne ce hL hV a n c
  have hln := ty_len ab nb cb q L V al nl cl ae ne ce hL hV
  subst hnb hnl
  haveI := fun H => hX.rd (G := G) H
  refine sc_enter1 Tryz.func218 rfl rfl rfl rfl rfl ?_
  repeat' (((apply sw_seq)))
  refine c_drawno (X :: H) (fun _ hw => hw.subs (by repeat ((first | refine Subs.cons (by repeat constructor) ?_ | exact Subs.sub (by repeat ((first | exact List.Sublist.refl _ | refine List.Sublist.cons _ ?_))))))) ?_
  repeat' ((first | (apply g_sl; (first | (apply ks_nil; refine sl_nil ?_) | (apply ks_move; refine s_move rfl rfl ?_) | (apply ks_load; (first | (refine s_load rfl rfl ?_; (refine ld_cell rfl ?_)) | ((refine s_load rfl rfl ?_; refine ld_cell hl ?_)))) | (apply ks_field; (refine s_field (c_field0 rfl rfl) rfl ?_)) | (apply ks_conv; (((refine s_conv (c_convBs rfl rfl rfl rfl) rfl ?_)))) | (apply ks_nilc; refine s_nilc (y_nilCheck rfl rfl) rfl ?_) | (apply ks_bi; ((refine c_append rfl rfl rfl rfl (by (rfl)) (by (rfl)) (by omega) rfl rfl (fun _ _ => ?_)))) | (apply ks_store; ((first | refine c_store rfl rfl rfl rfl rfl rfl rfl ?_ | ((refine c_storekV rfl rfl rfl rfl rfl (hsl _ _ _) (by rw [hln]; decide) rfl ?_))))) | (apply ks_bs; (refine c_buildSlice rfl rfl rfl rfl rfl rfl rfl rfl rfl rfl (fun _ => ?_))))) | (apply g_atso; refine so_back (k := 0) (fun _ hw => hw.subs (by repeat ((first | refine Subs.cons (by repeat constructor) ?_ | exact Subs.sub (by repeat ((first | exact List.Sublist.refl _ | refine List.Sublist.cons _ ?_))))))) ?_) | (apply g_sot; (first | (refine sot_skip rfl ?_) | (refine sot_take rfl rfl rfl rfl (by kernel_rfl) (by decide +kernel) (by decide +kernel) ?_; ((first | (apply ky_move; refine sy_val (y_move rfl rfl) ?_) | (apply ky_field; (refine sy_val (c_field0 rfl rfl) ?_)) | (apply ky_nilc; refine sy_val (y_nilCheck rfl rfl) ?_)))) | (refine sot_next rfl ?_) | (refine so_done (by decide +kernel) ?_) | (refine sot_all (by kernel_rfl) ?_))) | (apply g_soa; (first | (refine soa_end rfl) | (refine soa_no (by decide +kernel) ?_) | (refine soa_yes rfl ?_ ?_))) | (apply sw_region) | (apply at_thn)))
  all_goals
    rename_i bx ax cx
    refine e_scf (.blk b 256 (tyC none 0 0 q L V ax (S.length + 1) cx ae ne ce) :: .own 5 1 none 0 0 [] :: .own 9 1 ax (S.length + 1) cx (strs S ++ [.string (strOfNums B)]) :: H) (.inl rfl) rfl (fun _ hw => (hw.nilrow _ _).subs (by repeat ((first | refine Subs.cons (by repeat constructor) ?_ | exact Subs.sub (by repeat ((first | exact List.Sublist.refl _ | refine List.Sublist.cons _ ?_))))))) ⟨ax, cx, rfl, ?_⟩
    rw [show (S ++ [strOfNums B]).length = S.length + 1 from by simp, show strs (S ++ [strOfNums B]) = strs S ++ [.string (strOfNums B)] from by simp [strs]]
    rfl
end Go.Proofs.YtmbfechiallppaaGreatDoor
end
section
namespace Go.Proofs.YtmbfechiallppaaGreatDoor
open Go Go.RowKit Go.Fw Go.Sx
set_option maxRecDepth 100000
set_option maxHeartbeats 1000000
attribute [local irreducible] SW SL SQ AtQ SV SC BB LD PK Yields SO SOT SOA SY SP SPT SPA
theorem tyInsert_sc (G : Ctx) (H : List Ent) (b : Nat) (X : Ent) (L V : List Int) (hL : L.length = 38) (hV : V.length = 4) (q : Bool) (B E : List Int) (S : List ByteArray) (x : Int) (ab : Option Addr) (nb cb : Nat) (al : Option Addr) (nl cl : Nat) (ae : Option Addr) (ne ce : Nat) (hX : BufE 5 X ab nb cb B) (hnb : nb = B.length) (hnl : nl = S.length) (hne : ne = E.length) (hml : nl ≤ 100000) (hmb : nb ≤ 1023) (hme : ne ≤ 100000000) : SC Tryz.prog G 212 [.pointer (some ⟨b, 0, none⟩), .int .u8 x] (.blk b 256 (tyC ab nb cb q L V al nl cl ae ne ce) :: X :: .own 9 1 al nl cl (strs S) :: .own 5 1 ae ne ce (octs E) :: H)
    (fun v H' => ∃ X' a1 c1 a2 c2 a3 c3, BufE 5 X' a1 (if nb + 1 = 1024 then 0 else nb + 1) c1 (if nb + 1 = 1024 then [] else B ++ [x]) ∧ v = .bool (decide (nb + 1 = 1024)) ∧ H' =
      if nb + 1 = 1024 then .blk b 256 (tyC a1 0 c1 q L V a2 (S ++ [strOfNums (B ++ [x])]).length c2 a3 (ne + 1) c3) :: X' :: .own 9 1 a2 (S ++ [strOfNums (B ++ [x])]).length c2 (strs (S ++ [strOfNums (B ++ [x])])) :: .own 5 1 a3 (ne + 1) c3 (octs (E ++ [x])) :: H
      else .blk b 256 (tyC a1 (nb + 1) c1 q L V a2 nl c2 a3 (ne + 1) c3) :: X' :: .own 9 1 a2 nl c2 (strs S) :: .own 5 1 a3 (ne + 1) c3 (octs (E ++ [x])) :: H) := by
  have he := ty_echo ab nb cb q L V al nl cl ae ne ce hL hV
  have hln := fun a n c a' n' c' a'' n'' c'' => ty_len a n c q L V a' n' c' a'' n'' c'' hL hV
  have hse := fun a n c a' n' c' => ty_sete a n c q L V al nl cl ae ne ce hL hV a' n' c'
  refine sc_enter2 Tryz.func212 rfl rfl rfl rfl rfl ?_
  repeat' ((first | (apply g_sl; (first | (apply ks_nil; refine sl_nil ?_) | (apply ks_asgn; refine s_asgn rfl rfl ?_))) | (apply sw_seq) | ((fail_if_success (refine g_reg (id := 1) ?_)); apply sw_region) | (apply at_thn)))
  refine sw_cut1 (α := (Option Addr × Nat × Option Addr × Nat) × Ent) (fun _ => [(0, .pointer (some ⟨b, 0, none⟩))]) (fun g => .blk b 256 (tyC g.1.1 (nb + 1) g.1.2.1 q L V al nl cl g.1.2.2.1 (ne + 1) g.1.2.2.2) :: g.2 :: .own 9 1 al nl cl (strs S) :: .own 5 1 g.1.2.2.1 (ne + 1) g.1.2.2.2 (octs (E ++ [x])) :: H) (fun g => BufE 5 g.2 g.1.1 (nb + 1) g.1.2.1 (B ++ [x])) ?_ ?_
  · refine c_phase 18 (.blk b 256 (tyC ab nb cb q L V al nl cl ae ne ce) :: H) H (fun _ hw => hw.subs (by repeat ((first | refine Subs.cons (by repeat constructor) ?_ | exact Subs.sub (by repeat ((first | exact List.Sublist.refl _ | refine List.Sublist.cons _ ?_))))))) rfl ?_
    repeat' ((first | (apply g_sl; (first | (apply ks_nil; refine sl_nil ?_) | (apply ks_bi; ((first | (refine c_appendB hX rfl rfl rfl rfl (by omega) rfl rfl (fun _ _ _ _ => ?_)) | refine c_append rfl rfl rfl rfl (by (rfl)) (by (rfl)) (by omega) rfl rfl (fun _ _ => ?_)))) | (apply ks_store; ((first | refine c_store rfl rfl rfl rfl rfl rfl rfl ?_ | ((refine c_storekV rfl rfl rfl rfl rfl (hse _ _ _ _ _ _) (by rw [hln]; decide) rfl ?_))))) | (apply ks_bs; (refine c_buildSlice rfl rfl rfl rfl rfl rfl rfl rfl rfl rfl (fun _ => ?_))))) | (apply g_atso; refine so_back (k := 0) (fun _ hw => hw.subs (by repeat ((exact Subs.sub (by repeat ((first | exact List.Sublist.refl _ | refine List.Sublist.cons _ ?_))))))) ?_) | (apply g_atsp; refine sp_back (k := 0) (fun _ hw => hw.subs (by repeat ((first | refine Subs.cons (by repeat constructor) ?_ | exact Subs.sub (by repeat ((first | exact List.Sublist.refl _ | refine List.Sublist.cons _ ?_))))))) ?_) | (apply g_sot; (first | (refine sot_skip rfl ?_) | (refine sot_take rfl rfl rfl rfl (by kernel_rfl) (by decide +kernel) (by decide +kernel) ?_; ((first | (apply ky_field; (refine sy_val (c_field0 rfl rfl) ?_)) | (apply ky_nilc; refine sy_val (y_nilCheck rfl rfl) ?_)))) | (refine sot_next rfl ?_) | (refine so_done (by decide +kernel) ?_) | (refine sot_all (by kernel_rfl) ?_))) | (apply g_soa; (first | (refine soa_end rfl) | (refine soa_no (by decide +kernel) ?_) | (refine soa_yes rfl ?_ ?_))) | (apply g_spt; (first | (refine spt_skip rfl ?_) | (refine spt_take rfl rfl rfl rfl (by kernel_rfl) (by decide +kernel) (by decide +kernel) (by decide +kernel) ?_; ((first | (apply ky_move; refine sy_val (y_move rfl rfl) ?_) | (apply ky_load; (first | (refine sy_load rfl ?_; (refine ld_cell rfl ?_)) | ((refine sy_load rfl ?_; refine ld_cell he ?_)))) | (apply ky_field; (refine sy_val (c_field0 rfl rfl) ?_)) | (apply ky_nilc; refine sy_val (y_nilCheck rfl rfl) ?_)))) | (refine spt_take0 rfl rfl rfl rfl (by kernel_rfl) (by decide +kernel) (by decide +kernel) rfl (fun _ hw => hw.subs (by repeat ((exact Subs.sub (by repeat ((first | exact List.Sublist.refl _ | refine List.Sublist.cons _ ?_))))))) ?_; (((apply ky_move; refine sy_val (y_move rfl rfl) ?_)))) | (refine spt_next rfl ?_) | (refine spt_all (by kernel_rfl) ?_))) | (apply g_spa; (first | (refine spa_end rfl) | (refine spa_no (by decide +kernel) ?_) | (refine spa_st rfl rfl ?_ ?_) | (refine spa_yes rfl rfl ?_ ?_)))))
    all_goals first
      | (rename_i b9 X' a1 c1 hX' b8 a3 c3; exact at_meet ((a1, c1, a3, c3), X') hX' (by repeat (first | exact Le.nil _ | refine Le.cons (by first | rfl | (exact congrArg some (congrArg (Value.int _) (by omega)))) ?_)) (by dsimp only; rw [show octs (E ++ [x]) = octs E ++ [.int .u8 x] from by simp [octs]]; exact (fun _ hw => hw.subs (by repeat (first | refine Subs.cons (by repeat constructor) ?_ | exact Subs.sub (by repeat (first | exact List.Sublist.refl _ | exact List.nil_sublist _ | refine List.Sublist.cons _ ?_)))))))
      | (rename_i b9 b8 X' a1 c1 hX' a3 c3; exact at_meet ((a1, c1, a3, c3), X') hX' (by repeat ((first | exact Le.nil _ | refine Le.cons (by (rfl)) ?_))) (by dsimp only; rw [show octs (E ++ [x]) = octs E ++ [.int .u8 x] from by simp [octs]]; exact (fun _ hw => hw.subs (by repeat ((first | refine Subs.cons (by repeat constructor) ?_ | exact Subs.sub (by repeat ((first | exact List.Sublist.refl _ | refine List.Sublist.cons _ ?_)))))))))
  · rintro ⟨⟨a1, c1, a3, c3⟩, X'⟩ hX'
    dsimp only at hX' ⊢
    have hS := fun G H => tySend_sc G H b X' L V hL hV q (B ++ [x]) S a1 (nb + 1) c1 al nl cl a3 (ne + 1) c3 hX' (by simp; omega) hnl hml
    have hmb' : (nb : Int) + 1 < 1024 ∨ nb + 1 = 1024 := by omega
    by_cases hz : nb + 1 = 1024
    · repeat' ((first | (apply g_sl; (first | (apply ks_nil; refine sl_nil ?_) | (apply ks_move; refine s_move rfl rfl ?_) | (apply ks_bin; refine s_bin rfl rfl rfl ?_; (((refine bb_of rfl ?_)))) | (apply ks_load; ((refine s_load rfl rfl ?_; (refine ld_cell rfl ?_)))) | (apply ks_asgn; refine s_asgn rfl rfl ?_) | (apply ks_field; (refine s_field (c_field0 rfl rfl) rfl ?_)) | (apply ks_nilc; refine s_nilc (y_nilCheck rfl rfl) rfl ?_) | (apply ks_fn; ((refine c_call rfl rfl rfl (hS _ _) rfl rfl ?_; rintro _ _ ⟨a5, k5, rfl, rfl⟩))) | (apply ks_bi; (refine s_call (c_len rfl rfl) rfl ?_)))) | (apply sw_seq) | (apply sw_skip) | (apply sw_ret) | (apply sw_region) | (refine sw_cd rfl ?_; ((apply gd_dec_t <;> intro hq <;> (try (exfalso; omega))))) | (apply at_thn)))
      exact e_scf _ (.inr rfl) rfl (fun _ hw => hw) ⟨_, none, 0, a5, k5, a3, c3, by rw [if_pos hz, if_pos hz]; exact .own none 0 0 [], by rw [decide_eq_true hz]; rfl, by rw [if_pos hz]⟩
    · repeat' ((first | (apply g_sl; (first | (apply ks_nil; refine sl_nil ?_) | (apply ks_move; refine s_move rfl rfl ?_) | (apply ks_bin; refine s_bin rfl rfl rfl ?_; (((refine bb_of rfl ?_)))) | (apply ks_load; ((refine s_load rfl rfl ?_; (refine ld_cell rfl ?_)))) | (apply ks_asgn; refine s_asgn rfl rfl ?_) | (apply ks_field; (refine s_field (c_field0 rfl rfl) rfl ?_)) | (apply ks_nilc; refine s_nilc (y_nilCheck rfl rfl) rfl ?_) | (apply ks_bi; (refine s_call (c_len rfl rfl) rfl ?_)))) | (apply sw_seq) | (apply sw_ret) | (apply sw_region) | (refine sw_cd rfl ?_; ((apply gd_dec_t <;> intro hq <;> (try (exfalso; omega))))) | (apply at_thn) | (apply at_thn_ret)))
      exact e_scf _ (.inr rfl) rfl (fun _ hw => hw) ⟨X', a1, c1, al, cl, a3, c3, by rw [if_neg hz, if_neg hz]; exact hX', by rw [decide_eq_false hz]; rfl, by rw [if_neg hz]⟩
end Go.Proofs.YtmbfechiallppaaGreatDoor
end
section
namespace Go.Proofs.YtmbfechiallppaaGreatDoor
open Go Go.RowKit Go.Fw Go.Sx
set_option maxRecDepth 100000
set_option maxHeartbeats 1000000
attribute [local irreducible] SW SL SQ AtQ SV SC BB LD PK Yields SO SOT SOA SY
theorem tyErase_sc (G : Ctx) (H : List Ent) (b : Nat) (X : Ent) (L V : List Int) (hL : L.length = 38) (hV : V.length = 4) (q : Bool) (B E : List Int) (S : List ByteArray) (k : Nat) (ab : Option Addr) (nb cb : Nat) (al : Option Addr) (nl cl : Nat) (ae : Option Addr) (ne ce : Nat) (hX : BufE 5 X ab nb cb B) (hnb : nb = B.length) (hne : ne = E.length) (hk : k ≤ nb) (hmb : nb ≤ 1023) (hme : ne ≤ 100000000) : SC Tryz.prog G 214 [.pointer (some ⟨b, 0, none⟩), .int .i64 k] (.blk b 256 (tyC ab nb cb q L V al nl cl ae ne ce) :: X :: .own 9 1 al nl cl (strs S) :: .own 5 1 ae ne ce (octs E) :: H)
    (fun v H' => ∃ X' a1 c1 a3 c3, BufE 5 X' a1 (nb - k) c1 (B.take (nb - k)) ∧ v = resV [] ∧ H' = .blk b 256 (tyC a1 (nb - k) c1 q L V al nl cl a3 (ne + (backS k).size) c3) :: X' :: .own 9 1 al nl cl (strs S) :: .own 5 1 a3 (ne + (backS k).size) c3 (octs (E ++ nums (backS k))) :: H) := by
  have hR := fun H => repB_sv G H k (by omega)
  have he := fun a n c => ty_echo a n c q L V al nl cl ae ne ce hL hV
  have hln := fun a n c a' n' c' a'' n'' c'' => ty_len a n c q L V a' n' c' a'' n'' c'' hL hV
  have hse := fun a n c a' n' c' => ty_sete a n c q L V al nl cl ae ne ce hL hV a' n' c'
  refine sc_enter2 Tryz.func214 rfl rfl rfl rfl rfl ?_
  repeat' (((apply sw_seq)))
  refine c_drawno H (fun _ hw => hw.subs (by repeat ((exact Subs.sub (by repeat ((first | exact List.Sublist.refl _ | refine List.Sublist.cons _ ?_))))))) ?_
  repeat' ((first | (apply g_sl; (first | (apply ks_nil; refine sl_nil ?_) | (apply ks_load; ((refine s_load rfl rfl ?_; (refine ld_cell rfl ?_)))) | (apply ks_store; ((refine c_store rfl rfl rfl rfl rfl rfl rfl ?_))) | (apply ks_slice; ((refine s_slice (c_sliceTakeB hX rfl rfl rfl (by omega) (by omega)) rfl ?_))))) | (apply g_atso; refine so_back (k := 0) (fun _ hw => hw.subs (by repeat ((exact Subs.sub (by repeat ((first | exact List.Sublist.refl _ | refine List.Sublist.cons _ ?_))))))) ?_) | (apply g_sot; (first | (refine sot_skip rfl ?_) | (refine sot_take rfl rfl rfl rfl (by kernel_rfl) (by decide +kernel) (by decide +kernel) ?_; ((first | (apply ky_move; refine sy_val (y_move rfl rfl) ?_) | (apply ky_bin; refine sy_bin rfl rfl ?_; ((((apply kb_sub; (refine bb_sub ⟨by omega, by omega⟩ ?_)))))) | (apply ky_field; (refine sy_val (c_field0 rfl rfl) ?_)) | (apply ky_nilc; refine sy_val (y_nilCheck rfl rfl) ?_) | (apply ky_bi; (refine sy_val (c_len rfl rfl) ?_))))) | (refine sot_next rfl ?_) | (refine so_done (by decide +kernel) ?_) | (refine sot_all (by kernel_rfl) ?_))) | (apply g_soa; (first | (refine soa_end rfl) | (refine soa_no (by decide +kernel) ?_) | (refine soa_yes rfl ?_ ?_))) | (apply at_thn)))
  all_goals
    rw [show ((nb : Int) - k).toNat = nb - k from by omega]
    obtain ⟨X', hX', hXX⟩ := hX.shrink (m := nb - k) (G := G) (by omega)
    refine sw_held (.blk b 256 (tyC ab (nb - k) cb q L V al nl cl ae ne ce) :: X' :: .own 9 1 al nl cl (strs S) :: .own 5 1 ae ne ce (octs E) :: H) (fun w hw => ?_) ?_
    · exact (hXX w _ (hw.perm (List.Perm.swap _ _ _))).perm (List.Perm.swap _ _ _)
    · have he' := he ab (nb - k) cb
      have hbz := backS_size k
      refine c_drawno H (fun _ hw => hw.subs (by repeat ((exact Subs.sub (by repeat ((first | exact List.Sublist.refl _ | refine List.Sublist.cons _ ?_))))))) ?_
      repeat' ((first | (apply g_sl; (first | (apply ks_nil; refine sl_nil ?_) | (apply ks_load; (((refine s_load rfl rfl ?_; refine ld_cell he' ?_)))) | (apply ks_fn; (refine c_callv rfl rfl rfl (hR _) rfl rfl ?_)) | (apply ks_bi; (((refine c_appendS rfl rfl (by kernel_rfl) rfl rfl (by omega) rfl rfl (fun _ _ => ?_))))) | (apply ks_store; ((((refine c_storekV rfl rfl rfl rfl rfl (hse _ _ _ _ _ _) (by rw [hln]; decide) rfl ?_))))))) | (apply g_atso; refine so_back (k := 0) (fun _ hw => hw.subs (by repeat ((exact Subs.sub (by repeat ((first | exact List.Sublist.refl _ | refine List.Sublist.cons _ ?_))))))) ?_) | (apply g_sot; (first | (refine sot_skip rfl ?_) | (refine sot_take rfl rfl rfl rfl (by kernel_rfl) (by decide +kernel) (by decide +kernel) ?_; ((first | (apply ky_move; refine sy_val (y_move rfl rfl) ?_) | (apply ky_field; (refine sy_val (c_field0 rfl rfl) ?_)) | (apply ky_nilc; refine sy_val (y_nilCheck rfl rfl) ?_)))) | (refine sot_next rfl ?_) | (refine so_done (by decide +kernel) ?_) | (refine sot_all (by kernel_rfl) ?_))) | (apply g_soa; (first | (refine soa_end rfl) | (refine soa_no (by decide +kernel) ?_) | (refine soa_yes rfl ?_ ?_)))))
      all_goals
        rename_i ax cx
        refine e_scf (.blk b 256 (tyC ab (nb - k) cb q L V al nl cl ax (ne + (backS k).size) cx) :: X' :: .own 9 1 al nl cl (strs S) :: .own 5 1 ax (ne + (backS k).size) cx (octs E ++ octs (nums (backS k))) :: H) (.inl rfl) rfl (fun _ hw => hw.subs (by repeat ((first | refine Subs.cons (by repeat constructor) ?_ | exact Subs.sub (by repeat ((exact List.Sublist.refl _))))))) ⟨X', ab, cb, ax, cx, hX', rfl, ?_⟩
        rw [show octs (E ++ nums (backS k)) = octs E ++ octs (nums (backS k)) from by simp [octs]]
end Go.Proofs.YtmbfechiallppaaGreatDoor
end
section
namespace Go.Proofs.YtmbfechiallppaaGreatDoor
open Go Go.RowKit Go.Fw Go.Sx
set_option maxRecDepth 100000
set_option maxHeartbeats 1000000
/-- What a typist holds. -/
def tyH (b : Nat) (L V : List Int) (st : TyS) (X : Ent) (ab : Option Addr) (cb : Nat) (al : Option Addr) (cl : Nat) (ae : Option Addr) (ce : Nat) (H : List Ent) : List Ent :=
  .blk b 256 (tyC ab st.1.size cb st.2.1 L V al st.2.2.1.length cl ae st.2.2.2.size ce) :: X :: .own 9 1 al st.2.2.1.length cl (strs st.2.2.1) :: .own 5 1 ae st.2.2.2.size ce (octs (nums st.2.2.2)) :: H
abbrev TyB (X : Ent) (a : Option Addr) (c : Nat) (st : TyS) : Prop := BufE 5 X a st.1.size c (nums st.1)
def insT (st : TyS) (b : Int) : TyS := if st.1.size + 1 = 1024 then (⟨#[]⟩, st.2.1, st.2.2.1 ++ [st.1 ++ strOfNums [b]], st.2.2.2 ++ strOfNums [b]) else (st.1 ++ strOfNums [b], st.2.1, st.2.2.1, st.2.2.2 ++ strOfNums [b])
theorem nums_snoc (s : ByteArray) (x : Int) (hx : 0 ≤ x ∧ x ≤ 255) : nums (s ++ strOfNums [x]) = nums s ++ [x] := by
  rw [nums_append, nums_strOf (fun y hy => by rw [List.mem_singleton] at hy; subst hy; exact hx)]
theorem strOf_snoc (s : ByteArray) (x : Int) : strOfNums (nums s ++ [x]) = s ++ strOfNums [x] := by
  rw [← strOfNums_append, strOf_nums]
theorem size_snoc (s : ByteArray) (x : Int) : (s ++ strOfNums [x]).size = s.size + 1 := by rw [ByteArray.size_append, s1_size]
theorem stepT_q (L V : List Int) (s : ByteArray) (S : List ByteArray) (e : ByteArray) (x : Int) : stepT L V (s, true, S, e) x = insT (s, false, S, e) x := by
  unfold stepT typedU insT
  have hz := size_snoc s x
  have h0 : (⟨#[]⟩ : ByteArray).size = 0 := rfl
  dsimp only
  rw [if_pos rfl]
  by_cases h : s.size + 1 = 1024
  · rw [if_pos (by omega), if_pos h]
    dsimp only
    rw [if_neg (fun e => by rw [e] at hz; omega)]
  · rw [if_neg (by omega), if_neg h]
    dsimp only
    rw [if_pos rfl]
theorem trimS_pre (s : ByteArray) (m : Nat) (h : m ≤ (trimS s).size) : (trimS s).extract 0 m = s.extract 0 m := by
  have hp : ∃ t, s.data.toList = (trimS s).data.toList ++ t := by
    have : (trimS s).data.toList = Lib.trimRightB s.data.toList 32 := List.toList_toArray
    rw [this]
    unfold Lib.trimRightB
    obtain ⟨a, b, hab⟩ : ∃ a b, s.data.toList.reverse = a ++ b ∧ b = s.data.toList.reverse.dropWhile (· == 32) := ⟨_, _, (List.takeWhile_append_dropWhile (p := (· == (32 : UInt8)))).symm, rfl⟩
    obtain ⟨h1, rfl⟩ := hab
    generalize s.data.toList.reverse.dropWhile (· == 32) = b at *
    exact ⟨a.reverse, by rw [← List.reverse_append, ← h1, List.reverse_reverse]⟩
  obtain ⟨t, ht⟩ := hp
  refine nums_inj ?_
  rw [nums_extract, nums_extract]
  simp only [List.drop_zero, Nat.sub_zero]
  unfold nums
  rw [ht, List.map_append, List.take_append_of_le_length (by rw [List.length_map]; exact h)]
def wordK (s : ByteArray) : Nat := ((s.size : Int) - lastS (trimS s) - 1).toNat
theorem step_f (L V : List Int) (s : ByteArray) (S : List ByteArray) (e : ByteArray) (x : Nat) : stepT L V (s, false, S, e) x =
    if (x : Int) = keyI L 14 then (s, true, S, e)
    else if (x : Int) = keyI L 10 then (s.extract 0 (s.size - min 1 s.size), false, S, e ++ backS (min 1 s.size))
    else if (x : Int) = keyI L 12 then (s.extract 0 (s.size - wordK s), false, S, e ++ backS (wordK s))
    else if (x : Int) = keyI L 11 then (s.extract 0 (s.size - s.size), false, S, e ++ backS s.size)
    else if (x : Int) = keyI L 13 then (s, false, S, e ++ (⟨#[13, 10]⟩ ++ s))
    else if s.size + 1 = 1024 ∨ (x : Int) = 13 ∨ (x : Int) = 10 ∨ (x : Int) = keyI L 17 ∨ (x : Int) = keyI L 18 ∨ bitB V x = true then (⟨#[]⟩, false, S ++ [s ++ strOfNums [(x : Int)]], e ++ strOfNums [(x : Int)])
    else (s ++ strOfNums [(x : Int)], false, S, e ++ strOfNums [(x : Int)]) := by
  have hz := size_snoc s x
  have h0 : (⟨#[]⟩ : ByteArray).size = 0 := rfl
  have hne : ¬ s ++ strOfNums [(x : Int)] = ⟨#[]⟩ := fun e => by rw [e] at hz; omega
  have htl := trimS_le s
  have hll := lastS_bd (trimS s)
  unfold stepT typedU
  dsimp only
  rw [if_neg (by decide), show (x : Int).toNat = x from rfl, hz]
  split
  · dsimp only; rw [if_pos rfl, show e ++ (⟨#[]⟩ : ByteArray) = e from by apply ByteArray.ext; simp]
  split
  · by_cases hs : s = ⟨#[]⟩
    · subst hs; rw [if_pos rfl]; rfl
    · rw [if_neg hs]
      have h1 : 0 < s.size := Nat.pos_of_ne_zero fun h => hs (nums_nil0' h)
      have h2 : min 1 s.size = 1 := by omega
      rw [h2]
      unfold eraseR
      dsimp only
      rw [if_pos rfl, show s.size - (s.extract 0 (s.size - 1)).size = 1 from by rw [ByteArray.size_extract]; omega]
  split
  · have h3 : wordS s = s.extract 0 (s.size - wordK s) := by
      unfold wordS
      rw [trimS_pre _ _ (by omega)]
      congr 1
      unfold wordK
      omega
    rw [h3]
    unfold eraseR
    dsimp only
    rw [if_pos rfl, show s.size - (s.extract 0 (s.size - wordK s)).size = wordK s from by rw [ByteArray.size_extract]; unfold wordK; omega]
  split
  · have h3 : s.extract 0 (s.size - s.size) = ⟨#[]⟩ := nums_nil0' (by rw [ByteArray.size_extract]; omega)
    rw [h3]
    unfold eraseR
    dsimp only
    rw [if_pos rfl]
    rfl
  split
  · (rfl)
  split
  · dsimp only
  · (rfl)
theorem ty_mask (ab : Option Addr) (nb cb : Nat) (q : Bool) (L V : List Int) (al : Option Addr) (nl cl : Nat) (ae : Option Addr) (ne ce : Nat) (hL : L.length = 38) (hV : V.length = 4) : take? ((tyC ab nb cb q L V al nl cl ae ne ce).drop 40) 4 = some (wdL V) := by
  unfold tyC
  rw [List.drop_append, List.drop_eq_nil_of_le (by simp), List.nil_append, List.drop_append, List.drop_eq_nil_of_le (by rw [octs_len, hL]; simp), List.nil_append]
  rw [octs_len, hL, show 40 - [Value.slice ab nb cb, Value.bool q].length - 38 = 0 from rfl, List.drop_zero, take?_of (by simp [wdL_len, hV]), List.take_left' (by rw [wdL_len, hV])]
attribute [local irreducible] SW SL SQ AtQ SV SC BB LD PK Yields SO SOT SOA SY SP SPT SPA
theorem tyIns_sc (G : Ctx) (H : List Ent) (b : Nat) (X : Ent) (L V : List Int) (hL : L.length = 38) (hV : V.length = 4) (s : ByteArray) (q : Bool) (S : List ByteArray) (e : ByteArray) (x : Nat) (hx : x ≤ 255) (hs : s.size ≤ 1023) (hS : S.length ≤ 100000) (he : e.size ≤ 100000000) (ab : Option Addr) (cb : Nat) (al : Option Addr) (cl : Nat) (ae : Option Addr) (ce : Nat) (hX : BufE 5 X ab s.size cb (nums s)) :
    SC Tryz.prog G 212 [.pointer (some ⟨b, 0, none⟩), .int .u8 x] (tyH b L V (s, q, S, e) X ab cb al cl ae ce H) (fun v H' => ∃ X' a1 c1 a2 c2 a3 c3, TyB X' a1 c1 (insT (s, q, S, e) x) ∧ v = .bool (decide (s.size + 1 = 1024)) ∧ H' = tyH b L V (insT (s, q, S, e) x) X' a1 c1 a2 c2 a3 c3 H) :=
  sc_imp (tyInsert_sc G H b X L V hL hV q (nums s) (nums e) S x ab s.size cb al S.length cl ae e.size ce hX (nums_length s).symm rfl (nums_length e).symm hS hs he) fun v H' ⟨X', a1, c1, a2, c2, a3, c3, h0, h1, h2⟩ => ⟨X', a1, c1, a2, c2, a3, c3, (by
    unfold insT TyB
    have hxo : 0 ≤ (x : Int) ∧ (x : Int) ≤ 255 := by omega
    dsimp only
    split
    · rename_i h; rw [if_pos h, if_pos h] at h0; exact h0
    · rename_i h; rw [if_neg h, if_neg h] at h0; dsimp only; rw [size_snoc, nums_snoc _ _ hxo]; exact h0), h1, h2.trans (by
    unfold insT tyH
    dsimp only
    have hxo : 0 ≤ (x : Int) ∧ (x : Int) ≤ 255 := by omega
    split
    · dsimp only
      rw [size_snoc, nums_snoc _ _ hxo, strOf_snoc]
      rfl
    · dsimp only
      rw [size_snoc, size_snoc, nums_snoc _ _ hxo])⟩
theorem tySnd_sc (G : Ctx) (H : List Ent) (b : Nat) (X : Ent) (L V : List Int) (hL : L.length = 38) (hV : V.length = 4) (s : ByteArray) (q : Bool) (S : List ByteArray) (e : ByteArray) (hS : S.length ≤ 100000) (ab : Option Addr) (cb : Nat) (al : Option Addr) (cl : Nat) (ae : Option Addr) (ce : Nat) (hX : BufE 5 X ab s.size cb (nums s)) :
    SC Tryz.prog G 218 [.pointer (some ⟨b, 0, none⟩)] (tyH b L V (s, q, S, e) X ab cb al cl ae ce H) (fun v H' => ∃ X' a2 c2, TyB X' none 0 (⟨#[]⟩, q, S ++ [s], e) ∧ v = resV [] ∧ H' = tyH b L V (⟨#[]⟩, q, S ++ [s], e) X' none 0 a2 c2 ae ce H) :=
  sc_imp (tySend_sc G (.own 5 1 ae e.size ce (octs (nums e)) :: H) b X L V hL hV q (nums s) S ab s.size cb al S.length cl ae e.size ce hX (nums_length s).symm rfl hS) fun v H' ⟨a2, c2, h1, h2⟩ => ⟨_, a2, c2, .own none 0 0 [], h1, h2.trans (by rw [strOf_nums]; rfl)⟩
theorem tyEra_sc (G : Ctx) (H : List Ent) (b : Nat) (X : Ent) (L V : List Int) (hL : L.length = 38) (hV : V.length = 4) (s : ByteArray) (q : Bool) (S : List ByteArray) (e : ByteArray) (k : Nat) (hk : k ≤ s.size) (hs : s.size ≤ 1023) (he : e.size ≤ 100000000) (ab : Option Addr) (cb : Nat) (al : Option Addr) (cl : Nat) (ae : Option Addr) (ce : Nat) (hX : BufE 5 X ab s.size cb (nums s)) :
    SC Tryz.prog G 214 [.pointer (some ⟨b, 0, none⟩), .int .i64 k] (tyH b L V (s, q, S, e) X ab cb al cl ae ce H) (fun v H' => ∃ X' a1 c1 a3 c3, TyB X' a1 c1 (s.extract 0 (s.size - k), q, S, e ++ backS k) ∧ v = resV [] ∧ H' = tyH b L V (s.extract 0 (s.size - k), q, S, e ++ backS k) X' a1 c1 al cl a3 c3 H) :=
  sc_imp (tyErase_sc G H b X L V hL hV q (nums s) (nums e) S k ab s.size cb al S.length cl ae e.size ce hX (nums_length s).symm (nums_length e).symm hk hs he) fun v H' ⟨X', a1, c1, a3, c3, h0, h1, h2⟩ =>
    have hz : (s.extract 0 (s.size - k)).size = s.size - k := by rw [ByteArray.size_extract]; omega
    have hn : nums (s.extract 0 (s.size - k)) = (nums s).take (s.size - k) := by rw [nums_extract]; rfl
    ⟨X', a1, c1, a3, c3, (by unfold TyB; dsimp only; rw [hz, hn]; exact h0), h1, h2.trans (by
    unfold tyH
    dsimp only
    rw [hz, ByteArray.size_append, nums_append])⟩
theorem tyTake_sc (G : Ctx) (H : List Ent) (b : Nat) (X : Ent) (L V : List Int) (hL : L.length = 38) (hV : W64 V) (s : ByteArray) (q : Bool) (S : List ByteArray) (e : ByteArray) (x : Nat) (hx : x ≤ 255) (hs : s.size ≤ 1023) (hS : S.length ≤ 99999) (he : e.size ≤ 99000000) (ab : Option Addr) (cb : Nat) (al : Option Addr) (cl : Nat) (ae : Option Addr) (ce : Nat) (hX : BufE 5 X ab s.size cb (nums s)) :
    SC Tryz.prog G 153 [.pointer (some ⟨b, 0, none⟩), .int .u8 x] (tyH b L V (s, q, S, e) X ab cb al cl ae ce H) (fun v H' => ∃ X' a1 c1 a2 c2 a3 c3, TyB X' a1 c1 (stepT L V (s, q, S, e) x) ∧ v = resV [] ∧ H' = tyH b L V (stepT L V (s, q, S, e) x) X' a1 c1 a2 c2 a3 c3 H) := by
  have cI := fun G H q => tyIns_sc G H b X L V hL hV.1 s q S e x hx hs (by omega) (by omega) ab cb al cl ae ce hX
  have cE := fun G H q k hk => tyEra_sc G H b X L V hL hV.1 s q S e k hk hs (by omega) ab cb al cl ae ce hX
  haveI := fun H => hX.rd (G := G) H
  cases q
  · have iF := fun H (f : Int) (hf : 0 ≤ f ∧ f ≤ 18) (hb : HasBlk H b 256 (tyC ab s.size cb false L V al S.length cl ae e.size ce)) => tyIs_sv G H b _ (hb := hb) L x f ⟨by omega, by omega⟩ (ty_lv ab s.size cb false L V al S.length cl ae e.size ce hL f hf) (ty_ch ab s.size cb false L V al S.length cl ae e.size ce hL f hf) hf
    have i14 := fun H hb => iF H 14 ⟨by omega, by omega⟩ hb
    have i10 := fun H hb => iF H 10 ⟨by omega, by omega⟩ hb
    have i12 := fun H hb => iF H 12 ⟨by omega, by omega⟩ hb
    have i11 := fun H hb => iF H 11 ⟨by omega, by omega⟩ hb
    have i13 := fun H hb => iF H 13 ⟨by omega, by omega⟩ hb
    have i17 := fun H hb => iF H 17 ⟨by omega, by omega⟩ hb
    have i18 := fun H hb => iF H 18 ⟨by omega, by omega⟩ hb
    rw [show (14 : Int).toNat = 14 from rfl] at i14
    rw [show (10 : Int).toNat = 10 from rfl] at i10
    rw [show (12 : Int).toNat = 12 from rfl] at i12
    rw [show (11 : Int).toNat = 11 from rfl] at i11
    rw [show (13 : Int).toNat = 13 from rfl] at i13
    rw [show (17 : Int).toNat = 17 from rfl] at i17
    rw [show (18 : Int).toNat = 18 from rfl] at i18
    have hhe := ty_echo ab s.size cb false L V al S.length cl ae e.size ce hL hV.1
    have hmk := ty_mask ab s.size cb false L V al S.length cl ae e.size ce hL hV.1
    have hln := fun a n c a' n' c' a'' n'' c'' => ty_len a n c false L V a' n' c' a'' n'' c'' hL hV.1
    have hse := fun a n c => ty_sete ab s.size cb false L V al S.length cl ae e.size ce hL hV.1 a n c
    have cM := fun H => maskHas_sv G H V x hV (by omega)
    have hk255 : ∀ f : Nat, f ≤ 18 → keyI L f = keyI L f := fun _ _ => rfl
    clear iF hk255
    rw [step_f]
    have hkw : wordK s ≤ s.size ∧ (s.size : Int) - lastS (trimS s) - 1 = (wordK s : Int) := by
      have htl := trimS_le s
      have hll := lastS_bd (trimS s)
      unfold wordK
      omega
    have cT := fun H => trimB_sv G H s (by omega)
    have cL := fun H => lastB_sv G H (trimS s) (by have := trimS_le s; omega)
    have hll := lastS_bd (trimS s)
    have htl := trimS_le s
    generalize keyI L 14 = e14 at *
    generalize keyI L 10 = e10 at *
    generalize keyI L 12 = e12 at *
    generalize keyI L 11 = e11 at *
    generalize keyI L 13 = e13 at *
    generalize keyI L 17 = e17 at *
    generalize keyI L 18 = e18 at *
    generalize wordK s = kw at *
    have hty : tyH b L V (s, false, S, e) X ab cb al cl ae ce H = .blk b 256 (tyC ab s.size cb false L V al S.length cl ae e.size ce) :: X :: .own 9 1 al S.length cl (strs S) :: .own 5 1 ae e.size ce (octs (nums e)) :: H := rfl
    rw [hty]
    by_cases h14 : (x : Int) = e14
    · rw [if_pos h14]
      refine sc_enter2 Tryz.func153 rfl rfl rfl rfl rfl ?_
      repeat' ((first | (apply g_sl; (first | (apply ks_nil; refine sl_nil ?_) | (apply ks_move; refine s_move rfl rfl ?_) | (apply ks_load; ((refine s_load rfl rfl ?_; (refine ld_cell rfl ?_)))) | (apply ks_asgn; refine s_asgn rfl rfl ?_) | (apply ks_field; (refine s_field (c_field0 rfl rfl) rfl ?_)) | (apply ks_nilc; refine s_nilc (y_nilCheck rfl rfl) rfl ?_) | (apply ks_fn; (refine c_callv rfl rfl rfl (i14 _ inferInstance) rfl rfl ?_)) | (apply ks_store; ((refine c_store rfl rfl rfl rfl rfl rfl rfl ?_))))) | (apply sw_seq) | (apply sw_block) | (apply sw_region) | (refine sw_cd rfl ?_; (first | (apply gd_ft) | (apply gd_dec_t <;> intro hq <;> (try (exfalso; omega))))) | (apply at_thn) | (apply at_inb)))
      all_goals (skip)
      exact e_scf (tyH b L V (s, true, S, e) X ab cb al cl ae ce H) (by (exact .inl rfl)) rfl (fun _ hw => hw) ⟨X, ab, cb, al, cl, ae, ce, hX, rfl, rfl⟩
    rw [if_neg h14]
    by_cases h10 : (x : Int) = e10
    · rw [if_pos h10]
      have hmin : ((min 1 s.size : Nat) : Int) = min 1 (s.size : Int) := by omega
      have cE1 := fun H => cE G H false (min 1 s.size) (by omega)
      rw [hmin] at cE1
      refine sc_enter2 Tryz.func153 rfl rfl rfl rfl rfl ?_
      repeat' ((first | (apply g_sl; (first | (apply ks_nil; refine sl_nil ?_) | (apply ks_move; refine s_move rfl rfl ?_) | (apply ks_load; ((refine s_load rfl rfl ?_; (refine ld_cell rfl ?_)))) | (apply ks_asgn; refine s_asgn rfl rfl ?_) | (apply ks_field; (refine s_field (c_field0 rfl rfl) rfl ?_)) | (apply ks_nilc; refine s_nilc (y_nilCheck rfl rfl) rfl ?_) | (apply ks_fn; ((first | refine c_callv rfl rfl rfl (i14 _ inferInstance) rfl rfl ?_ | refine c_callv rfl rfl rfl (i10 _ inferInstance) rfl rfl ?_ | (refine c_call rfl rfl rfl (cE1 _) rfl rfl ?_; rintro _ _ ⟨X1, a1, k1, a3, k3, hX1, rfl, rfl⟩)))) | (apply ks_bi; (first | (refine s_call (c_minB rfl rfl rfl) rfl ?_) | refine s_call (c_len rfl rfl) rfl ?_)))) | (apply sw_seq) | (apply sw_block) | (apply sw_region) | (refine sw_cd rfl ?_; (first | (apply gd_ft) | (apply gd_dec_t <;> intro hq <;> (try (exfalso; omega))))) | (apply at_thn) | (apply at_inb)))
      all_goals (skip)
      exact e_scf _ (by (exact .inl rfl)) rfl (fun _ hw => hw) ⟨X1, a1, k1, al, cl, a3, k3, hX1, rfl, rfl⟩
    rw [if_neg h10]
    by_cases h12 : (x : Int) = e12
    · rw [if_pos h12]
      have cE1 := fun H => cE G H false kw (by omega)
      refine sc_enter2 Tryz.func153 rfl rfl rfl rfl rfl ?_
      have cT : ∀ H, SV Tryz.prog G 215 [.string (strOfNums (nums s)), .string ⟨#[32]⟩] H (.string (trimS s)) := fun H => by rw [strOf_nums]; exact cT H
      repeat' ((first | (apply g_sl; (first | (apply ks_nil; refine sl_nil ?_) | (apply ks_move; refine s_move rfl rfl ?_) | (apply ks_load; ((refine s_load rfl rfl ?_; (refine ld_cell rfl ?_)))) | (apply ks_asgn; refine s_asgn rfl rfl ?_) | (apply ks_field; (refine s_field (c_field0 rfl rfl) rfl ?_)) | (apply ks_conv; ((refine s_conv (c_convBs (xs := nums s) rfl rfl rfl (nums_length s).symm) rfl ?_))) | (apply ks_nilc; refine s_nilc (y_nilCheck rfl rfl) rfl ?_) | (apply ks_fn; ((first | refine c_callv rfl rfl rfl (i14 _ inferInstance) rfl rfl ?_ | refine c_callv rfl rfl rfl (i10 _ inferInstance) rfl rfl ?_ | refine c_callv rfl rfl rfl (i12 _ inferInstance) rfl rfl ?_ | refine c_callv rfl rfl rfl (cT _) rfl rfl ?_))))) | (apply sw_seq) | (apply sw_block) | ((fail_if_success (refine g_reg (id := 10) ?_)); apply sw_region) | (refine sw_cd rfl ?_; (first | (apply gd_ft) | (apply gd_dec_t <;> intro hq <;> (try (exfalso; omega))))) | (apply at_thn)))
      all_goals (skip)
      rw [← hty]
      refine c_phase 10 (tyH b L V (s, false, S, e) X ab cb al cl ae ce H) H (fun _ hw => hw) rfl ?_
      rw [hty]
      rw [← hkw.2] at cE1
      have htyK : ∀ st X a1 k1 a2 k2 a3 k3 w, Holds G (tyH b L V st X a1 k1 a2 k2 a3 k3 H) w → Holds G H w := fun st X a1 k1 a2 k2 a3 k3 w hw => by unfold tyH at hw; exact hw.subs (by repeat ((exact Subs.sub (by repeat ((first | exact List.Sublist.refl _ | refine List.Sublist.cons _ ?_))))))
      repeat' ((first | (apply g_sl; (first | (apply ks_nil; refine sl_nil ?_) | (apply ks_fn; ((first | refine c_callv rfl rfl rfl (cL _) rfl rfl ?_ | (refine c_call rfl rfl rfl (cE1 _) rfl rfl ?_; rintro _ _ ⟨X1, a1, k1, a3, k3, hX1, rfl, rfl⟩)))))) | (apply g_atso; refine so_back (k := 0) (fun _ hw => hw.subs (by repeat ((exact Subs.sub (by repeat ((first | exact List.Sublist.refl _ | refine List.Sublist.cons _ ?_))))))) ?_) | (apply g_atsp; refine sp_back (k := 0) (fun _ hw => hw.subs (by repeat ((first | refine Subs.cons (by repeat constructor) ?_ | exact Subs.sub (by repeat ((exact List.Sublist.refl _))))))) ?_) | (apply g_sot; (first | (refine sot_skip rfl ?_) | (refine so_done (by decide +kernel) ?_))) | (apply g_spt; (first | (refine spt_skip rfl ?_) | (refine spt_take rfl rfl rfl rfl (by kernel_rfl) (by decide +kernel) (by decide +kernel) (by decide +kernel) ?_; ((first | (apply ky_move; refine sy_val (y_move rfl rfl) ?_) | (apply ky_bin; refine sy_bin rfl rfl ?_; ((((apply kb_sub; (refine bb_sub ⟨by omega, by omega⟩ ?_)))))) | (apply ky_load; ((refine sy_load rfl ?_; (refine ld_cell rfl ?_)))) | (apply ky_field; (refine sy_val (c_field0 rfl rfl) ?_)) | (apply ky_nilc; refine sy_val (y_nilCheck rfl rfl) ?_) | (apply ky_bi; (refine sy_val (c_len rfl rfl) ?_))))) | (refine spt_next rfl ?_) | (refine spt_all (by kernel_rfl) ?_))) | (apply g_spa; (first | (refine spa_end rfl) | (refine spa_no (by decide +kernel) ?_) | (refine spa_st rfl rfl ?_ ?_) | (refine spa_yes rfl rfl ?_ ?_))) | (apply at_inb)))
      all_goals exact e_scf _ (by (exact .inl rfl)) rfl (fun _ hw => hw) ⟨X1, a1, k1, al, cl, a3, k3, hX1, rfl, rfl⟩
    rw [if_neg h12]
    by_cases h11 : (x : Int) = e11
    · rw [if_pos h11]
      have cE1 := fun H => cE G H false s.size (by omega)
      refine sc_enter2 Tryz.func153 rfl rfl rfl rfl rfl ?_
      repeat' ((first | (apply g_sl; (first | (apply ks_nil; refine sl_nil ?_) | (apply ks_move; refine s_move rfl rfl ?_) | (apply ks_load; ((refine s_load rfl rfl ?_; (refine ld_cell rfl ?_)))) | (apply ks_asgn; refine s_asgn rfl rfl ?_) | (apply ks_field; (refine s_field (c_field0 rfl rfl) rfl ?_)) | (apply ks_nilc; refine s_nilc (y_nilCheck rfl rfl) rfl ?_) | (apply ks_fn; ((first | refine c_callv rfl rfl rfl (i14 _ inferInstance) rfl rfl ?_ | refine c_callv rfl rfl rfl (i10 _ inferInstance) rfl rfl ?_ | refine c_callv rfl rfl rfl (i12 _ inferInstance) rfl rfl ?_ | refine c_callv rfl rfl rfl (i11 _ inferInstance) rfl rfl ?_ | (refine c_call rfl rfl rfl (cE1 _) rfl rfl ?_; rintro _ _ ⟨X1, a1, k1, a3, k3, hX1, rfl, rfl⟩)))) | (apply ks_bi; (refine s_call (c_len rfl rfl) rfl ?_)))) | (apply sw_seq) | (apply sw_block) | (apply sw_region) | (refine sw_cd rfl ?_; (first | (apply gd_ft) | (apply gd_dec_t <;> intro hq <;> (try (exfalso; omega))))) | (apply at_thn) | (apply at_inb)))
      all_goals (skip)
      exact e_scf _ (by (exact .inl rfl)) rfl (fun _ hw => hw) ⟨X1, a1, k1, al, cl, a3, k3, hX1, rfl, rfl⟩
    rw [if_neg h11]
    by_cases h13 : (x : Int) = e13
    · rw [if_pos h13]
      refine sc_enter2 Tryz.func153 rfl rfl rfl rfl rfl ?_
      repeat' ((first | (apply g_sl; (first | (apply ks_nil; refine sl_nil ?_) | (apply ks_move; refine s_move rfl rfl ?_) | (apply ks_load; ((refine s_load rfl rfl ?_; (refine ld_cell rfl ?_)))) | (apply ks_asgn; refine s_asgn rfl rfl ?_) | (apply ks_field; (refine s_field (c_field0 rfl rfl) rfl ?_)) | (apply ks_nilc; refine s_nilc (y_nilCheck rfl rfl) rfl ?_) | (apply ks_fn; ((first | refine c_callv rfl rfl rfl (i14 _ inferInstance) rfl rfl ?_ | refine c_callv rfl rfl rfl (i10 _ inferInstance) rfl rfl ?_ | refine c_callv rfl rfl rfl (i12 _ inferInstance) rfl rfl ?_ | refine c_callv rfl rfl rfl (i11 _ inferInstance) rfl rfl ?_ | refine c_callv rfl rfl rfl (i13 _ inferInstance) rfl rfl ?_))))) | (apply sw_seq) | (apply sw_block) | ((fail_if_success (refine g_reg (id := 14) ?_)); apply sw_region) | (refine sw_cd rfl ?_; (first | (apply gd_ft) | (apply gd_dec_t <;> intro hq <;> (try (exfalso; omega))))) | (apply at_thn)))
      all_goals (skip)
      refine c_phase 14 (.blk b 256 (tyC ab s.size cb false L V al S.length cl ae e.size ce) :: X :: H) H (fun _ hw => hw.subs (by repeat ((first | refine Subs.cons (by repeat constructor) ?_ | exact Subs.sub (by repeat ((first | exact List.Sublist.refl _ | refine List.Sublist.cons _ ?_))))))) rfl ?_
      repeat' ((first | (apply g_sl; (first | (apply ks_nil; refine sl_nil ?_) | (apply ks_bi; ((first | (refine c_append rfl rfl rfl rfl (by rw [octs_len, nums_length, Nat.mul_one]) (octs_one _) (by omega) rfl rfl (fun _ _ => ?_)) | refine c_append rfl rfl rfl rfl (by (rfl)) (by (rfl)) (by omega) rfl rfl (fun _ _ => ?_)))) | (apply ks_store; ((((refine c_storekV rfl rfl rfl rfl rfl (hse _ _ _) (by rw [hln]; decide) rfl ?_))))) | (apply ks_bs; (refine c_buildSlice rfl rfl rfl rfl rfl rfl rfl rfl rfl rfl (fun _ => ?_))))) | (apply g_atso; refine so_back (k := 0) (fun _ hw => hw.subs (by repeat ((exact Subs.sub (by repeat ((first | exact List.Sublist.refl _ | refine List.Sublist.cons _ ?_))))))) ?_) | (apply g_atsp; refine sp_back (k := 0) (fun _ hw => hw.subs (by repeat ((first | refine Subs.cons (by repeat constructor) ?_ | exact Subs.sub (by repeat ((first | exact List.Sublist.refl _ | refine List.Sublist.cons _ ?_))))))) ?_) | (apply g_sot; (first | (refine sot_skip rfl ?_) | (refine so_done (by decide +kernel) ?_))) | (apply g_spt; (first | (refine spt_skip rfl ?_) | (refine spt_take rfl rfl rfl rfl (by kernel_rfl) (by decide +kernel) (by decide +kernel) (by decide +kernel) ?_; ((first | (apply ky_move; refine sy_val (y_move rfl rfl) ?_) | (apply ky_load; (first | (refine sy_load rfl ?_; (refine ld_cell rfl ?_)) | (refine sy_load rfl ?_; refine ld_cell hhe ?_))) | (apply ky_field; (refine sy_val (c_field0 rfl rfl) ?_)) | (apply ky_nilc; refine sy_val (y_nilCheck rfl rfl) ?_)))) | (refine spt_next rfl ?_) | (refine spt_all (by kernel_rfl) ?_))) | (apply g_spa; (first | (refine spa_end rfl) | (refine spa_no (by decide +kernel) ?_) | (refine spa_st rfl rfl ?_ ?_) | (refine spa_yes rfl rfl ?_ ?_))) | (apply at_inb)))
      all_goals
        rename_i b9 a8 k8 a7 k7
        have hz7 : (e ++ ((⟨#[13, 10]⟩ : ByteArray) ++ s)).size = e.size + 2 + s.size := by rw [ByteArray.size_append, ByteArray.size_append]; show e.size + (2 + s.size) = _; omega
        have hn7 : octs (nums (e ++ ((⟨#[13, 10]⟩ : ByteArray) ++ s))) = octs (nums e) ++ [.int .u8 13, .int .u8 10] ++ octs (nums s) := by rw [nums_append, nums_append]; simp [octs, nums]
        exact e_scf (tyH b L V (s, false, S, e ++ (⟨#[13, 10]⟩ ++ s)) X ab cb al cl a7 k7 H) (by (exact .inl rfl)) rfl (by unfold tyH; dsimp only; rw [hz7, hn7]; exact (fun _ hw => hw.subs (by repeat ((first | refine Subs.cons (by repeat constructor) ?_ | exact Subs.sub (by repeat ((first | exact List.Sublist.refl _ | refine List.Sublist.cons _ ?_)))))))) ⟨X, ab, cb, al, cl, a7, k7, hX, rfl, rfl⟩
    rw [if_neg h13]
    have cI1 := fun H => cI G H false
    have hu := size_snoc s x
    have hS' : S.length ≤ 100000 := by omega
    have cS := fun H X a1 k1 a2 k2 a3 k3 => tySnd_sc G H b X L V hL hV.1 (s ++ strOfNums [(x : Int)]) false S (e ++ strOfNums [(x : Int)]) hS' a1 k1 a2 k2 a3 k3
    unfold insT at cI1
    dsimp only at cI1
    generalize s ++ strOfNums [(x : Int)] = u at *
    generalize e ++ strOfNums [(x : Int)] = e2 at *
    generalize bitB V x = im at *
    by_cases hz : s.size + 1 = 1024
    · rw [if_pos (.inl hz)]
      rw [decide_eq_true hz, if_pos hz] at cI1
      cases im
      · refine sc_enter2 Tryz.func153 rfl rfl rfl rfl rfl ?_
        repeat' ((first | (apply g_sl; (first | (apply ks_nil; refine sl_nil ?_) | (apply ks_move; refine s_move rfl rfl ?_) | (apply ks_bin; refine s_bin rfl rfl rfl ?_; (((refine bb_of rfl ?_)))) | (apply ks_load; (first | (refine s_load rfl rfl ?_; (refine ld_cell rfl ?_)) | (refine s_load rfl rfl ?_; refine ld_part hmk rfl ?_))) | (apply ks_asgn; refine s_asgn rfl rfl ?_) | (apply ks_pick; refine s_pick rfl rfl ?_; (first | (apply kp_t; refine pk_t rfl ?_) | (apply kp_f; refine pk_f rfl ?_))) | (apply ks_field; (refine s_field (c_field0 rfl rfl) rfl ?_)) | (apply ks_un; refine s_un (y_un rfl rfl rfl) rfl ?_) | (apply ks_nilc; refine s_nilc (y_nilCheck rfl rfl) rfl ?_) | (apply ks_fn; ((first | refine c_callv rfl rfl rfl (i14 _ inferInstance) rfl rfl ?_ | refine c_callv rfl rfl rfl (i10 _ inferInstance) rfl rfl ?_ | refine c_callv rfl rfl rfl (i12 _ inferInstance) rfl rfl ?_ | refine c_callv rfl rfl rfl (i11 _ inferInstance) rfl rfl ?_ | refine c_callv rfl rfl rfl (i13 _ inferInstance) rfl rfl ?_ | refine c_callv rfl rfl rfl (i17 _ inferInstance) rfl rfl ?_ | refine c_callv rfl rfl rfl (i18 _ inferInstance) rfl rfl ?_ | refine c_callv rfl rfl rfl (cM _) rfl rfl ?_ | (refine c_call rfl rfl rfl (cI1 _) rfl rfl ?_; rintro _ _ ⟨X1, a1, k1, a2, k2, a3, k3, hX1, rfl, rfl⟩)))) | (apply ks_guard; ((refine sl_gd rfl rfl rfl rfl ?_; (first | (apply gd_t) | (apply gd_tf) | (apply gd_dec_f <;> intro hq <;> (try (exfalso; omega))))))))) | (apply sw_seq) | (apply sw_skip) | (apply sw_block) | (apply sw_region) | (refine sw_cd rfl ?_; (first | (apply gd_t) | (apply gd_ft) | (apply gd_dec_t <;> intro hq <;> (try (exfalso; omega))))) | (apply at_thn) | (apply at_inb)))
        all_goals (exact e_scf _ (by (exact .inl rfl)) rfl (fun _ hw => hw) ⟨X1, a1, k1, a2, k2, a3, k3, hX1, rfl, rfl⟩)
      · refine sc_enter2 Tryz.func153 rfl rfl rfl rfl rfl ?_
        repeat' ((first | (apply g_sl; (first | (apply ks_nil; refine sl_nil ?_) | (apply ks_move; refine s_move rfl rfl ?_) | (apply ks_bin; refine s_bin rfl rfl rfl ?_; (((refine bb_of rfl ?_)))) | (apply ks_load; (first | (refine s_load rfl rfl ?_; (refine ld_cell rfl ?_)) | (refine s_load rfl rfl ?_; refine ld_part hmk rfl ?_))) | (apply ks_asgn; refine s_asgn rfl rfl ?_) | (apply ks_pick; refine s_pick rfl rfl ?_; (first | (apply kp_t; refine pk_t rfl ?_) | (apply kp_f; refine pk_f rfl ?_))) | (apply ks_field; (refine s_field (c_field0 rfl rfl) rfl ?_)) | (apply ks_un; refine s_un (y_un rfl rfl rfl) rfl ?_) | (apply ks_nilc; refine s_nilc (y_nilCheck rfl rfl) rfl ?_) | (apply ks_fn; ((first | refine c_callv rfl rfl rfl (i14 _ inferInstance) rfl rfl ?_ | refine c_callv rfl rfl rfl (i10 _ inferInstance) rfl rfl ?_ | refine c_callv rfl rfl rfl (i12 _ inferInstance) rfl rfl ?_ | refine c_callv rfl rfl rfl (i11 _ inferInstance) rfl rfl ?_ | refine c_callv rfl rfl rfl (i13 _ inferInstance) rfl rfl ?_ | refine c_callv rfl rfl rfl (i17 _ inferInstance) rfl rfl ?_ | refine c_callv rfl rfl rfl (i18 _ inferInstance) rfl rfl ?_ | refine c_callv rfl rfl rfl (cM _) rfl rfl ?_ | (refine c_call rfl rfl rfl (cI1 _) rfl rfl ?_; rintro _ _ ⟨X1, a1, k1, a2, k2, a3, k3, hX1, rfl, rfl⟩)))) | (apply ks_guard; ((refine sl_gd rfl rfl rfl rfl ?_; (first | (apply gd_t) | (apply gd_tf) | (apply gd_dec_f <;> intro hq <;> (try (exfalso; omega))))))))) | (apply sw_seq) | (apply sw_skip) | (apply sw_block) | (apply sw_region) | (refine sw_cd rfl ?_; (first | (apply gd_t) | (apply gd_ft) | (apply gd_dec_t <;> intro hq <;> (try (exfalso; omega))))) | (apply at_thn) | (apply at_inb)))
        all_goals (exact e_scf _ (by (exact .inl rfl)) rfl (fun _ hw => hw) ⟨X1, a1, k1, a2, k2, a3, k3, hX1, rfl, rfl⟩)
    · rw [decide_eq_false hz, if_neg hz] at cI1
      cases im
      · refine sc_enter2 Tryz.func153 rfl rfl rfl rfl rfl ?_
        repeat' ((first | (apply g_sl; (first | (apply ks_nil; refine sl_nil ?_) | (apply ks_move; refine s_move rfl rfl ?_) | (apply ks_bin; refine s_bin rfl rfl rfl ?_; (((refine bb_of rfl ?_)))) | (apply ks_load; (first | (refine s_load rfl rfl ?_; (refine ld_cell rfl ?_)) | (refine s_load rfl rfl ?_; refine ld_part hmk rfl ?_))) | (apply ks_asgn; refine s_asgn rfl rfl ?_) | (apply ks_pick; refine s_pick rfl rfl ?_; (first | (apply kp_t; refine pk_t rfl ?_) | (apply kp_f; refine pk_f rfl ?_))) | (apply ks_field; (refine s_field (c_field0 rfl rfl) rfl ?_)) | (apply ks_un; refine s_un (y_un rfl rfl rfl) rfl ?_) | (apply ks_nilc; refine s_nilc (y_nilCheck rfl rfl) rfl ?_) | (apply ks_fn; ((first | refine c_callv rfl rfl rfl (i14 _ inferInstance) rfl rfl ?_ | refine c_callv rfl rfl rfl (i10 _ inferInstance) rfl rfl ?_ | refine c_callv rfl rfl rfl (i12 _ inferInstance) rfl rfl ?_ | refine c_callv rfl rfl rfl (i11 _ inferInstance) rfl rfl ?_ | refine c_callv rfl rfl rfl (i13 _ inferInstance) rfl rfl ?_ | refine c_callv rfl rfl rfl (i17 _ inferInstance) rfl rfl ?_ | refine c_callv rfl rfl rfl (i18 _ inferInstance) rfl rfl ?_ | refine c_callv rfl rfl rfl (cM _) rfl rfl ?_ | (refine c_call rfl rfl rfl (cI1 _) rfl rfl ?_; rintro _ _ ⟨X1, a1, k1, a2, k2, a3, k3, hX1, rfl, rfl⟩) | (refine c_call rfl rfl rfl (cS _ _ _ _ _ _ _ _ hX1) rfl rfl ?_; rintro _ _ ⟨X5, a5, k5, hX5, rfl, rfl⟩)))) | (apply ks_guard; ((refine sl_gd rfl rfl rfl rfl ?_; (first | (apply gd_t) | (apply gd_tf) | (apply gd_dec_f <;> intro hq <;> (try (exfalso; omega))))))))) | (apply sw_seq) | (apply sw_block) | (apply sw_region) | (refine sw_cd rfl ?_; (first | (apply gd_t) | (apply gd_ft) | (apply gd_dec_t <;> intro hq <;> (try (exfalso; omega))))) | (apply at_thn) | (apply at_inb)))
        all_goals first
          | (exfalso; omega)
          | (rw [if_neg (by simp only [Bool.false_eq_true, or_false]; omega)]; exact e_scf _ (by first | exact .inl rfl | exact .inr rfl) rfl (fun _ hw => hw) ⟨X1, a1, k1, a2, k2, a3, k3, hX1, rfl, rfl⟩)
          | (rw [if_pos (by simp only [Bool.false_eq_true, or_false]; omega)]; exact e_scf _ (by (exact .inl rfl)) rfl (fun _ hw => hw) ⟨X5, _, _, a5, k5, _, _, hX5, rfl, rfl⟩)
      · rw [if_pos (.inr (.inr (.inr (.inr (.inr rfl)))))]
        refine sc_enter2 Tryz.func153 rfl rfl rfl rfl rfl ?_
        repeat' ((first | (apply g_sl; (first | (apply ks_nil; refine sl_nil ?_) | (apply ks_move; refine s_move rfl rfl ?_) | (apply ks_bin; refine s_bin rfl rfl rfl ?_; (((refine bb_of rfl ?_)))) | (apply ks_load; (first | (refine s_load rfl rfl ?_; (refine ld_cell rfl ?_)) | (refine s_load rfl rfl ?_; refine ld_part hmk rfl ?_))) | (apply ks_asgn; refine s_asgn rfl rfl ?_) | (apply ks_pick; refine s_pick rfl rfl ?_; (first | (apply kp_t; refine pk_t rfl ?_) | (apply kp_f; refine pk_f rfl ?_))) | (apply ks_field; (refine s_field (c_field0 rfl rfl) rfl ?_)) | (apply ks_un; refine s_un (y_un rfl rfl rfl) rfl ?_) | (apply ks_nilc; refine s_nilc (y_nilCheck rfl rfl) rfl ?_) | (apply ks_fn; ((first | refine c_callv rfl rfl rfl (i14 _ inferInstance) rfl rfl ?_ | refine c_callv rfl rfl rfl (i10 _ inferInstance) rfl rfl ?_ | refine c_callv rfl rfl rfl (i12 _ inferInstance) rfl rfl ?_ | refine c_callv rfl rfl rfl (i11 _ inferInstance) rfl rfl ?_ | refine c_callv rfl rfl rfl (i13 _ inferInstance) rfl rfl ?_ | refine c_callv rfl rfl rfl (i17 _ inferInstance) rfl rfl ?_ | refine c_callv rfl rfl rfl (i18 _ inferInstance) rfl rfl ?_ | refine c_callv rfl rfl rfl (cM _) rfl rfl ?_ | (refine c_call rfl rfl rfl (cI1 _) rfl rfl ?_; rintro _ _ ⟨X1, a1, k1, a2, k2, a3, k3, hX1, rfl, rfl⟩) | (refine c_call rfl rfl rfl (cS _ _ _ _ _ _ _ _ hX1) rfl rfl ?_; rintro _ _ ⟨X5, a5, k5, hX5, rfl, rfl⟩)))) | (apply ks_guard; ((refine sl_gd rfl rfl rfl rfl ?_; (first | (apply gd_t) | (apply gd_tf) | (apply gd_dec_f <;> intro hq <;> (try (exfalso; omega))))))))) | (apply sw_seq) | (apply sw_block) | (apply sw_region) | (refine sw_cd rfl ?_; (first | (apply gd_t) | (apply gd_ft) | (apply gd_dec_t <;> intro hq <;> (try (exfalso; omega))))) | (apply at_thn) | (apply at_inb)))
        all_goals (exact e_scf _ (by (exact .inl rfl)) rfl (fun _ hw => hw) ⟨X5, _, _, a5, k5, _, _, hX5, rfl, rfl⟩)
  · rw [stepT_q]
    unfold tyH
    refine sc_enter2 Tryz.func153 rfl rfl rfl rfl rfl ?_
    repeat' ((first | (apply g_sl; (first | (apply ks_nil; refine sl_nil ?_) | (apply ks_move; refine s_move rfl rfl ?_) | (apply ks_load; ((refine s_load rfl rfl ?_; (refine ld_cell rfl ?_)))) | (apply ks_asgn; refine s_asgn rfl rfl ?_) | (apply ks_field; (refine s_field (c_field0 rfl rfl) rfl ?_)) | (apply ks_nilc; refine s_nilc (y_nilCheck rfl rfl) rfl ?_) | (apply ks_fn; ((refine c_call rfl rfl rfl (cI _ _ false) rfl rfl ?_; rintro _ _ ⟨X1, a1, k1, a2, k2, a3, k3, hX1, rfl, rfl⟩))) | (apply ks_store; ((refine c_store rfl rfl rfl rfl rfl rfl rfl ?_))))) | (apply sw_seq) | (apply sw_block) | (apply sw_region) | (refine sw_cd rfl ?_; ((apply gd_t))) | (apply at_thn) | (apply at_inb)))
    exact e_scf _ (by (exact .inl rfl)) rfl (fun _ hw => hw) ⟨X1, a1, k1, a2, k2, a3, k3, hX1, rfl, rfl⟩
end Go.Proofs.YtmbfechiallppaaGreatDoor
end
section
namespace Go.Proofs.YtmbfechiallppaaGreatDoor
open Go Go.RowKit Go.Fw Go.Sx
set_option maxRecDepth 100000
set_option maxHeartbeats 1000000
def lineU (L V : List Int) (s0 : ByteArray) (q : Bool) (s : ByteArray) : TyS × Int :=
  if 1024 ≤ s0.size then ((s0, q, [], ⟨#[]⟩), 2) else if keysE L ≠ 0 then ((s0, q, [], ⟨#[]⟩), 4) else if 4096 < s.size then ((s0, q, [], ⟨#[]⟩), 2) else (typeU L V (s0, q, [], ⟨#[]⟩) (nums s), 0)
def lineV (a : Option Addr) (c : Nat) (R : TyS × Int) : Value := .tuple #[.agg #[.string R.1.1, .bool R.1.2.1], .slice a R.1.2.2.1.length c, .string R.1.2.2.2, .int .i64 R.2]
attribute [local irreducible] SW SL SQ AtQ SV SC BB LD PK Yields SO SOT SOA SY
end Go.Proofs.YtmbfechiallppaaGreatDoor
end
section
namespace Go.Sx
open Go Go.RowKit Go.Fw
theorem putL_over : ∀ (vs l : List Value) (k : Nat), k + vs.length ≤ l.length → putL? l k vs = some (l.take k ++ (vs ++ l.drop (k + vs.length)))
  | [], l, k, h => by unfold putL?; simp
  | v :: vs, l, k, h => by
    rw [List.length_cons] at h
    have hk : k < l.length := by omega
    have hs : set? l k v = some (l.set k v) := by
      have key : ∀ (l : List Value) (k : Nat), k < l.length → set? l k v = some (l.set k v) := by
        intro l
        induction l with
        | nil => intro k h; simp at h
        | cons x l ih =>
          intro k h
          cases k with
          | zero => rfl
          | succ k => unfold set?; rw [ih k (by simpa using h)]; rfl
      exact key l k hk
    unfold putL?
    rw [hs]
    dsimp only
    rw [putL_over vs (l.set k v) (k + 1) (by rw [List.length_set]; omega)]
    congr 1
    have e1 : (l.set k v).take (k + 1) = l.take k ++ [v] := by
      rw [List.take_set, List.take_succ_eq_append_getElem hk, List.set_append_right _ _ (by rw [List.length_take]; omega), List.length_take, show k - min k l.length = 0 from by omega]
      rfl
    have e2 : (l.set k v).drop (k + 1 + vs.length) = l.drop (k + (v :: vs).length) := by
      rw [List.drop_set_of_lt (by omega), List.length_cons]
      congr 1
      omega
    rw [e1, e2, List.append_assoc]
    rfl
theorem fill_cons {offs : List (Nat × Nat)} {l cs : List Value} {i off sz : Nat} {r : List (Nat × List Value)} (h1 : offs[i]? = some (off, sz)) (h2 : cs.length = sz) (h3 : 0 < sz) (h4 : off + sz ≤ l.length) : fillL? offs l ((i, cs) :: r) = fillL? offs (l.take off ++ (cs ++ l.drop (off + sz))) r := by
  conv => lhs; unfold fillL?
  rw [h1]
  dsimp only
  rw [show Nat.beq cs.length sz = true from by rw [h2]; exact Nat.beq_refl _, show Nat.blt 0 sz = true from by rw [Nat.blt_eq]; exact h3]
  subst h2
  rw [putL_over cs l off h4]
  rfl
end Go.Sx
namespace Go.Proofs.YtmbfechiallppaaGreatDoor
open Go Go.RowKit Go.Fw Go.Sx
set_option maxRecDepth 100000
set_option maxHeartbeats 1000000
def tyO : List (Nat × Nat) := [(0, 1), (1, 1), (2, 38), (40, 4), (44, 1), (45, 1)]
def tyZ : List Value := [.slice none 0 0, .bool false, .int .u8 0, .int .u8 0, .int .u8 0, .int .u8 0, .int .u8 0, .int .u8 0, .int .u8 0, .int .u8 0, .int .u8 0, .int .u8 0, .int .u8 0, .int .u8 0, .int .u8 0, .int .u8 0, .int .u8 0, .int .u8 0, .int .u8 0, .int .u8 0, .int .u8 0, .int .u8 0, .int .u8 0, .int .u8 0, .int .u8 0, .int .u8 0, .int .u8 0, .int .u8 0, .int .u8 0, .int .u8 0, .int .u8 0, .int .u8 0, .int .u8 0, .int .u8 0, .int .u8 0, .int .u8 0, .int .u8 0, .int .u8 0, .int .u8 0, .int .u8 0, .int .u64 0, .int .u64 0, .int .u64 0, .int .u64 0, .slice none 0 0, .slice none 0 0]
instance tyOff : OffsT Tryz.prog 256 tyO tyZ := ⟨(tyO.toArray[·]?), fun _ => by kernel_rfl, fun i p h => by simpa using h⟩
theorem ty_fill (ab : Option Addr) (nb cb : Nat) (q : Bool) (L V : List Int) (hL : L.length = 38) (hV : V.length = 4) : fillL? tyO tyZ [(0, [.slice ab nb cb]), (1, [.bool q]), (2, octs L), (3, wdL V)] = some (tyC ab nb cb q L V none 0 0 none 0 0) := by
  rw [fill_cons (l := tyZ) (off := 0) (sz := 1) rfl rfl (by decide) (by decide), fill_cons (off := 1) (sz := 1) rfl rfl (by decide) (Nat.le_of_ble_eq_true rfl)]
  rw [fill_cons (off := 2) (sz := 38) rfl (by rw [octs_len, hL]) (by decide) (Nat.le_of_ble_eq_true rfl)]
  have e1 : List.take 2 (List.take 1 (List.take 0 tyZ ++ ([Value.slice ab nb cb] ++ List.drop (0 + 1) tyZ)) ++ ([Value.bool q] ++ List.drop (1 + 1) (List.take 0 tyZ ++ ([Value.slice ab nb cb] ++ List.drop (0 + 1) tyZ)))) = [.slice ab nb cb, .bool q] := rfl
  have e2 : List.drop (2 + 38) (List.take 1 (List.take 0 tyZ ++ ([Value.slice ab nb cb] ++ List.drop (0 + 1) tyZ)) ++ ([Value.bool q] ++ List.drop (1 + 1) (List.take 0 tyZ ++ ([Value.slice ab nb cb] ++ List.drop (0 + 1) tyZ)))) = [.int .u64 0, .int .u64 0, .int .u64 0, .int .u64 0, .slice none 0 0, .slice none 0 0] := rfl
  rw [e1, e2, fill_cons (off := 40) (sz := 4) rfl (by rw [wdL_len, hV]) (by decide) (by simp [hL])]
  rw [← List.append_assoc [Value.slice ab nb cb, Value.bool q] (octs L), List.take_left' (by simp [hL]), List.drop_append, List.drop_eq_nil_of_le (by simp [hL])]
  rw [show 40 + 4 - ([Value.slice ab nb cb, Value.bool q] ++ octs L).length = 4 from by simp [hL]]
  unfold tyC fillL?
  simp
attribute [local irreducible] SW SL SQ AtQ SV SC BB LD PK Yields SO SOT SOA SY SP SPT SPA
theorem lineType_sc (G : Ctx) (H : List Ent) (L V : List Int) (hL : L.length = 38) (ho : ∀ x ∈ L, Oct x) (hV : W64 V) (s0 : ByteArray) (q : Bool) (s : ByteArray) : SC Tryz.prog G 101 [.agg #[.string s0, .bool q], keysV L, maskV V, .string s] H (fun v H' => ∃ a' c', v = lineV a' c' (lineU L V s0 q s) ∧ H' = .own 9 1 a' (lineU L V s0 q s).1.2.2.1.length c' (strs (lineU L V s0 q s).1.2.2.1) :: H) := by
  have hkb := keys_b L hL
  have hmb : Nat.beq (wdL V).length 4 = true := by rw [wdL_len, hV.1]; rfl
  have cK := fun H => slcCheck_sv G H L hL
  have cC := fun H => lineCheck_sv G H s0 q
  have cT := fun H b X u p S e x hx hu hS he => tyTake_sc G H b X L V hL hV u p S e x hx hu hS he
  have hok := typeU_ok L V s0 q s
  have hk4 : keysE L = 0 ∨ keysE L = 4 := by unfold keysE; split <;> simp
  unfold lineU
  generalize keysE L = ke at *
  by_cases h1 : 1024 ≤ s0.size
  · rw [if_pos h1] at cC ⊢
    refine sc_enter4 Tryz.func101 rfl rfl rfl rfl rfl ?_
    repeat' ((first | (apply g_sl; (first | (apply ks_nil; refine sl_nil ?_) | (apply ks_move; refine s_move rfl rfl ?_) | (apply ks_bin; refine s_bin rfl rfl rfl ?_; ((((refine bb_of rfl ?_))))) | (apply ks_load; ((refine s_load rfl rfl ?_; (refine ld_whole rfl ?_)))) | (apply ks_asgn; refine s_asgn rfl rfl ?_) | (apply ks_fn; (refine c_callv rfl rfl rfl (cC _) rfl rfl ?_)) | (apply ks_store; ((refine c_storew rfl rfl rfl rfl rfl rfl rfl rfl ?_))) | (apply ks_box; refine c_box rfl rfl rfl rfl rfl rfl (fun _ => ?_)) | (apply ks_alloc; refine c_alloc rfl rfl rfl rfl (fun _ => ?_)))) | (apply sw_seq) | (apply sw_ret) | (apply sw_region) | (refine sw_cd rfl ?_; ((apply gd_t))) | (apply at_thn) | (apply at_thn_ret)))
    all_goals (skip)
    exact e_scc (.own 9 1 none 0 0 [] :: H) (by (exact .inr rfl)) rfl rfl rfl (fun _ hw => (hw.nilrow _ _).subs (by repeat ((first | refine Subs.cons (by repeat constructor) ?_ | exact Subs.sub (by repeat ((first | exact List.Sublist.refl _ | refine List.Sublist.cons _ ?_))))))) ⟨_, _, rfl, rfl⟩
  · rw [if_neg h1] at cC ⊢
    by_cases h2 : ke ≠ 0
    · rw [if_pos h2]
      obtain rfl : ke = 4 := by omega
      refine sc_enter4 Tryz.func101 rfl rfl rfl rfl rfl ?_
      repeat' ((first | (apply g_sl; (first | (apply ks_nil; refine sl_nil ?_) | (apply ks_move; refine s_move rfl rfl ?_) | (apply ks_bin; refine s_bin rfl rfl rfl ?_; ((((refine bb_of rfl ?_))))) | (apply ks_load; (first | (refine s_load rfl rfl ?_; (refine ld_whole rfl ?_)) | ((refine s_load rfl rfl ?_; (refine ld_whole hkb ?_))))) | (apply ks_asgn; refine s_asgn rfl rfl ?_) | (apply ks_fn; ((first | refine c_callv rfl rfl rfl (cC _) rfl rfl ?_ | refine c_callv rfl rfl rfl (cK _) rfl rfl ?_))) | (apply ks_store; ((refine c_storew rfl rfl rfl rfl rfl rfl rfl rfl ?_))) | (apply ks_box; refine c_box rfl rfl rfl rfl rfl rfl (fun _ => ?_)) | (apply ks_alloc; refine c_alloc rfl rfl rfl rfl (fun _ => ?_)))) | (apply sw_seq) | (apply sw_skip) | (apply sw_ret) | (apply sw_region) | (refine sw_cd rfl ?_; (first | (apply gd_t) | (apply gd_ft))) | (apply at_thn) | (apply at_thn_ret)))
      all_goals (skip)
      exact e_scc (.own 9 1 none 0 0 [] :: H) (by (exact .inr rfl)) rfl rfl rfl (fun _ hw => (hw.nilrow _ _).subs (by repeat ((first | refine Subs.cons (by repeat constructor) ?_ | exact Subs.sub (by repeat ((first | exact List.Sublist.refl _ | refine List.Sublist.cons _ ?_))))))) ⟨_, _, rfl, rfl⟩
    · rw [if_neg h2]
      have h2 := Classical.not_not.1 h2
      subst h2
      by_cases h3 : 4096 < s.size
      · rw [if_pos h3]
        refine sc_enter4 Tryz.func101 rfl rfl rfl rfl rfl ?_
        repeat' ((first | (apply g_sl; (first | (apply ks_nil; refine sl_nil ?_) | (apply ks_move; refine s_move rfl rfl ?_) | (apply ks_bin; refine s_bin rfl rfl rfl ?_; ((((refine bb_of rfl ?_))))) | (apply ks_load; (first | (refine s_load rfl rfl ?_; (refine ld_whole rfl ?_)) | ((refine s_load rfl rfl ?_; (refine ld_whole hkb ?_))))) | (apply ks_asgn; refine s_asgn rfl rfl ?_) | (apply ks_fn; ((first | refine c_callv rfl rfl rfl (cC _) rfl rfl ?_ | refine c_callv rfl rfl rfl (cK _) rfl rfl ?_))) | (apply ks_bi; ((refine s_call (c_len_str rfl rfl) rfl ?_))) | (apply ks_store; ((refine c_storew rfl rfl rfl rfl rfl rfl rfl rfl ?_))) | (apply ks_box; refine c_box rfl rfl rfl rfl rfl rfl (fun _ => ?_)) | (apply ks_alloc; refine c_alloc rfl rfl rfl rfl (fun _ => ?_)))) | (apply sw_seq) | (apply sw_skip) | (apply sw_ret) | (apply sw_region) | (refine sw_cd rfl ?_; (first | (apply gd_ft) | (apply gd_dec_t <;> intro hq <;> (try (exfalso; omega))))) | (apply at_thn) | (apply at_thn_ret)))
        all_goals (skip)
        exact e_scc (.own 9 1 none 0 0 [] :: H) (by (exact .inr rfl)) rfl rfl rfl (fun _ hw => (hw.nilrow _ _).subs (by repeat ((first | refine Subs.cons (by repeat constructor) ?_ | exact Subs.sub (by repeat ((first | exact List.Sublist.refl _ | refine List.Sublist.cons _ ?_))))))) ⟨_, _, rfl, rfl⟩
      · rw [if_neg h3]
        have hok := hok (by omega)
        have htake : (nums s).take s.size = nums s := by rw [← nums_length]; exact List.take_length
        rw [← htake]
        have hst := fun i h => typeU_snoc L V (s0, q, [], ⟨#[]⟩) s i h
        have hz : typeU L V (s0, q, [], ⟨#[]⟩) ((nums s).take 0) = (s0, q, [], ⟨#[]⟩) := rfl
        obtain ⟨T, hT⟩ : ∃ T : Nat → TyS, ∀ i, typeU L V (s0, q, [], ⟨#[]⟩) ((nums s).take i) = T i := ⟨_, fun _ => rfl⟩
        simp only [hT] at *
        have Hok := Lib.hid hok
        have Hst := Lib.hid hst
        clear hok hst hT htake
        have hfl := fun ab nb cb => ty_fill ab nb cb q L V hL hV.1
        refine sc_enter4 Tryz.func101 rfl rfl rfl rfl rfl ?_
        repeat' ((first | (apply g_sl; (first | (apply ks_nil; refine sl_nil ?_) | (apply ks_move; refine s_move rfl rfl ?_) | (apply ks_bin; refine s_bin rfl rfl rfl ?_; ((((refine bb_of rfl ?_))))) | (apply ks_load; (first | (refine s_load rfl rfl ?_; (first | refine ld_cell rfl ?_ | refine ld_whole rfl ?_)) | ((refine s_load rfl rfl ?_; (first | refine ld_whole hkb ?_ | refine ld_whole hmb ?_))))) | (apply ks_asgn; refine s_asgn rfl rfl ?_) | (apply ks_field; (refine s_field (c_field0 rfl rfl) rfl ?_)) | (apply ks_build; (((refine s_build (c_build rfl rfl (hfl _ _ _)) rfl ?_)))) | (apply ks_conv; (((refine c_convB rfl rfl rfl (by omega) rfl rfl (fun _ _ _ _ => ?_))))) | (apply ks_fn; ((first | refine c_callv rfl rfl rfl (cC _) rfl rfl ?_ | refine c_callv rfl rfl rfl (cK _) rfl rfl ?_))) | (apply ks_bi; ((refine s_call (c_len_str rfl rfl) rfl ?_))) | (apply ks_box; refine c_box rfl rfl rfl rfl rfl rfl (fun _ => ?_)) | (apply ks_alloc; refine c_alloc rfl rfl rfl rfl (fun _ => ?_)))) | (apply sw_seq) | (apply sw_skip) | (apply sw_block) | (apply sw_region) | (refine sw_cd rfl ?_; (first | (apply gd_ft) | (apply gd_dec_t <;> intro hq <;> (try (exfalso; omega))))) | (apply at_thn)))
        all_goals (skip)
        rename_i b4 b5 b6 b8 X0 a0 k0 hX0 b
        have hz1 : (T 0).1 = s0 := by rw [hz]
        have hz2 : (T 0).2.1 = q := by rw [hz]
        have hz3 : (T 0).2.2.1 = [] := by rw [hz]
        have hz4 : (T 0).2.2.2 = ⟨#[]⟩ := by rw [hz]
        refine sw_loopg (α := Nat × Ent × (Option Addr × Nat) × (Option Addr × Nat) × (Option Addr × Nat)) (fun g => [(3, .string s), (8, .pointer (some ⟨b8, 0, none⟩)), (14, .pointer (some ⟨b, 0, none⟩)), (42, .int .i64 s.size), (43, .int .i64 g.1)])
          (fun g => tyH b L V (T g.1) g.2.1 g.2.2.1.1 g.2.2.1.2 g.2.2.2.1.1 g.2.2.2.1.2 g.2.2.2.2.1 g.2.2.2.2.2 (.blk b8 53 [.string ⟨#[]⟩, .bool false] :: H))
          (fun g => g.1 ≤ s.size ∧ TyB g.2.1 g.2.2.1.1 g.2.2.1.2 (T g.1)) (fun g => s.size - g.1) (0, X0, (a0, k0), (none, 0), (none, 0)) ⟨Nat.zero_le _, by dsimp only [TyB]; rw [hz1]; exact hX0⟩ (by repeat ((first | exact Le.nil _ | refine Le.cons (by (rfl)) ?_))) (by dsimp only; unfold tyH; rw [hz]; exact (fun _ hw => ((hw.nilrow _ _).nilrow _ _).subs (by repeat ((first | refine Subs.cons (by repeat constructor) ?_ | exact Subs.sub (by repeat ((first | exact List.Sublist.refl _ | refine List.Sublist.cons _ ?_)))))))) ?_
        rintro ⟨i, X, ⟨ab, cb⟩, ⟨al, cl⟩, ⟨ae, ce⟩⟩ ⟨hi, hX⟩
        dsimp only at hi hX ⊢
        by_cases hlt : (i : Int) < s.size
        · obtain ⟨o1, o2, o3⟩ := Hok.out i (by omega)
          have hst := Hst.out i (by omega)
          have hb : 0 ≤ (nums s).getD i 0 ∧ (nums s).getD i 0 ≤ 255 := by
            have hx : i < (nums s).length := by rw [nums_length]; omega
            rw [List.getD_eq_getElem?_getD, List.getElem?_eq_getElem hx]
            exact nums_bound s _ (List.getElem_mem hx)
          obtain ⟨x, hbn⟩ : ∃ x : Nat, (nums s).getD i 0 = (x : Int) := ⟨((nums s).getD i 0).toNat, by omega⟩
          have hx0 : (nums s).getD (i : Int).toNat 0 = (x : Int) := hbn
          rw [hbn] at hst hb
          rcases hTi : T i with ⟨u, p, ls, e⟩
          rw [hTi] at o1 o2 o3 hst hX
          dsimp only at o1 o2 o3
          have c1 := fun H => cT H b X u p ls e x (by omega) o1 (by omega) (by omega) ab cb al cl ae ce hX
          rw [← hst] at c1
          clear cT cK cC hz1 hz2 hz3 hz4 hst hfl
          repeat' ((first | (apply g_sl; (first | (apply ks_nil; refine sl_nil ?_) | (apply ks_move; refine s_move rfl rfl ?_) | (apply ks_bin; refine s_bin rfl rfl rfl ?_; ((((first | (apply kb_add; (refine bb_add ⟨by omega, by omega⟩ ?_)) | refine bb_of rfl ?_))))) | (apply ks_asgn; refine s_asgn rfl rfl ?_) | (apply ks_index; (((refine s_index (c_indexNumV hx0 rfl rfl rfl (by omega) (by omega)) rfl ?_)))) | (apply ks_fn; ((refine c_call rfl rfl rfl (c1 _) rfl rfl ?_; rintro _ _ ⟨X1, a1, k1, a2, k2, a3, k3, hX1, rfl, rfl⟩))))) | (apply sw_seq) | (apply sw_skip) | (apply sw_block) | (apply sw_region) | (refine sw_cd rfl ?_; ((apply gd_dec_t <;> intro hq <;> (try (exfalso; omega))))) | (apply at_thn) | (apply at_inb)))
          exact at_meet (i + 1, X1, (a1, k1), (a2, k2), (a3, k3)) ⟨⟨by dsimp only; omega, hX1⟩, by dsimp only; omega⟩ (by repeat ((first | exact Le.nil _ | refine Le.cons (by (rfl)) ?_))) (fun _ hw => hw)
        · obtain rfl : s.size = i := by omega
          rcases hTi : T s.size with ⟨u, p, ls, e⟩
          rw [hTi] at hX
          unfold TyB at hX
          dsimp only at hX
          have hty : tyH b L V (u, p, ls, e) X ab cb al cl ae ce (.blk b8 53 [.string ⟨#[]⟩, .bool false] :: H) = .blk b 256 (tyC ab u.size cb p L V al ls.length cl ae e.size ce) :: X :: .own 9 1 al ls.length cl (strs ls) :: .own 5 1 ae e.size ce (octs (nums e)) :: .blk b8 53 [.string ⟨#[]⟩, .bool false] :: H := rfl
          rw [hty]
          haveI := fun H => hX.rd (G := G) H
          have hli := ty_lines ab u.size cb p L V al ls.length cl ae e.size ce hL hV.1
          have hec := ty_echo ab u.size cb p L V al ls.length cl ae e.size ce hL hV.1
          repeat' ((first | (apply g_sl; (first | (apply ks_nil; refine sl_nil ?_) | (apply ks_bin; refine s_bin rfl rfl rfl ?_; (((refine bb_of rfl ?_)))))) | (apply sw_seq) | (apply sw_exit) | ((fail_if_success (refine g_reg (id := 15) ?_)); apply sw_region) | (refine sw_cd rfl ?_; ((apply gd_dec_t <;> intro hq <;> (try (exfalso; omega))))) | (apply at_thn) | (apply at_thn_exit) | (apply at_inb_exit)))
          refine c_drawno (.blk b 256 (tyC ab u.size cb p L V al ls.length cl ae e.size ce) :: X :: .own 5 1 ae e.size ce (octs (nums e)) :: H) (fun _ hw => hw.subs (by repeat ((first | refine Subs.cons (by repeat constructor) ?_ | exact Subs.sub (by repeat ((first | exact List.Sublist.refl _ | refine List.Sublist.cons _ ?_))))))) ?_
          repeat' ((first | (apply g_sl; (first | (apply ks_nil; refine sl_nil ?_) | (apply ks_store; ((refine c_storew rfl rfl rfl rfl rfl rfl rfl rfl ?_))))) | (apply g_atso; refine so_back (k := 0) (fun _ hw => hw.subs (by repeat ((first | refine Subs.cons (by repeat constructor) ?_ | exact Subs.sub (by repeat ((first | exact List.Sublist.refl _ | refine List.Sublist.cons _ ?_))))))) ?_) | (apply g_sot; (first | (refine sot_skip rfl ?_) | (refine sot_take rfl rfl rfl rfl (by kernel_rfl) (by decide +kernel) (by decide +kernel) ?_; ((first | (apply ky_move; refine sy_val (y_move rfl rfl) ?_) | (apply ky_load; (first | (refine sy_load rfl ?_; (refine ld_cell rfl ?_)) | ((refine sy_load rfl ?_; (first | refine ld_cell hli ?_ | refine ld_cell hec ?_))))) | (apply ky_asgn; refine sy_val (y_assign rfl rfl) ?_) | (apply ky_field; (refine sy_val (c_field0 rfl rfl) ?_)) | (apply ky_build; (refine sy_val (c_build rfl rfl rfl) ?_)) | (apply ky_conv; ((first | (refine sy_val (c_convBs (xs := nums u) rfl rfl rfl (nums_length u).symm) ?_) | (refine sy_val (c_convBs (xs := nums e) rfl rfl rfl (nums_length e).symm) ?_)))) | (apply ky_nilc; refine sy_val (y_nilCheck rfl rfl) ?_)))) | (refine sot_next rfl ?_) | (refine so_done (by decide +kernel) ?_) | (refine sot_all (by kernel_rfl) ?_))) | (apply g_soa; (first | (refine soa_end rfl) | (refine soa_no (by decide +kernel) ?_) | (refine soa_yes rfl ?_ ?_))) | (apply sw_ret) | (apply at_thn)))
          rw [strOf_nums, strOf_nums]
          exact e_scc (.own 9 1 al ls.length cl (strs ls) :: H) (by (exact .inr rfl)) rfl rfl rfl (fun _ hw => hw.subs (by repeat ((first | refine Subs.cons (by repeat constructor) ?_ | exact Subs.sub (by repeat ((first | exact List.Sublist.refl _ | refine List.Sublist.cons _ ?_))))))) ⟨_, _, rfl, rfl⟩
end Go.Proofs.YtmbfechiallppaaGreatDoor
end
section
namespace Go.Proofs.YtmbfechiallppaaGreatDoor
open Go Go.RowKit Go.Fw Go.Sx
set_option maxRecDepth 100000
set_option maxHeartbeats 2000000
attribute [local irreducible] SW SL SQ AtQ SV SC BB LD PK Yields SO SOT SOA SY negC
theorem typed_sc (G : Ctx) (H : List Ent) (M : Int) (hM : ∀ H w, Holds G H w → w.cell? ⟨2, 0, none⟩ = some (.int .i64 M)) (hT : ∀ H w, Holds G H w → Lib.Utf8Tabs 0 1 w)
    (s s' : Scr) (f : Fre s) (wb : Nat) (S N : List Value) (p0 p1 p2 : Value) (Lk : List Int) [hN : Len N 520] (hLk : Lk.length = 38) (hLo : ∀ x ∈ Lk, Oct x) (buf : ByteArray) (sent : ByteArray) (h : ScS G H s S)
    (u0 u34 h1 : Int) (hu0 : N[0]? = some (.int .u8 u0)) (hu0' : (u0 == 1) = false) (hu34 : N[34]? = some (.int .u8 u34)) (hu34' : (u34 == 1) = true) (hh1 : N[257]? = some (.int .u8 h1)) (hh1' : (h1 == 1) = false)
    (t buf2 : ByteArray) (out : List ByteArray) (d : ByteArray) (hl : lineU Lk [0, 0, 0, 0] buf false t = ((buf2, false, out, d), 0))
    (d1 : ByteArray) (hd : d.size ≤ 4000) (hd1 : (⟨(d.data.toList.flatMap (fun b => if b = 13 then [13, 10] else [b])).toArray⟩ : ByteArray) = d1) (hd1' : d1.size ≤ 8000) (r : ByteArray) (L : List Int) (e : Int) (hf : feedU ⟨#[]⟩ d1 = (r, L, e)) (hL : L.length ≤ 100000) (ha : acts s (runP p00 L).2 s')
    (sent2 : ByteArray) (hz : sent.size ≤ 4000000)
    (ho : (out = [] ∧ sent2 = sent) ∨ ∃ x x1 x2 x3 : ByteArray, out = [x] ∧ x.size ≤ 4000 ∧ (⟨(x.data.toList.flatMap (fun b => if b = 13 then [10] else [b])).toArray⟩ : ByteArray) = x1 ∧ x1.size ≤ 1048576 ∧ strOfNums (u8s (x1.data.toList.flatMap outB)) = x2 ∧ x2.size ≤ 4000000 ∧ escS x2 = x3 ∧ x3.size ≤ 8000000 ∧ sent2 = sent ++ x3) :
    SC Tryz.prog G 58 [.pointer (some ⟨wb, 0, none⟩), .string t, .int .i64 0] (.blk wb 101 (wkC S N [p0, p1, p2] (octs Lk) (cliW buf true sent)) :: H) fun v H' => ∃ S' E, v = .int .i64 0 ∧ H' = .blk wb 101 (wkC S' N [p0, p1, p2] (octs Lk) (cliW buf2 true sent2)) :: (E ++ H) ∧ ScS G E s' S' := by
  haveI hS : Len S 33 := ⟨h.len⟩
  haveI hK : Len (octs Lk) 38 := ⟨by rw [octs_len, hLk]⟩
  have cY := fun H => lineType_sc G H Lk [0, 0, 0, 0] hLk hLo ⟨rfl, fun x hx => by simp at hx; subst hx; exact ⟨by decide, by decide⟩⟩ buf false t
  rw [hl] at cY
  unfold lineV keysV maskV at cY
  dsimp only at cY
  have cU := fun (H : List Ent) [HasBlk H wb 101 (wkC S N [p0, p1, p2] (octs Lk) (cliW buf true sent))] => us_sv G H wb S N [p0, p1, p2] (octs Lk) (cliW buf true sent) 34 (by decide) u34 hu34 true hu34'
  have cD := fun H' (hh : ∀ w, Holds G H' w → Holds G H w) sent => display_sc G H' M hM hT s s' f wb S N p0 p1 p2 (octs Lk) buf2 true sent (h.mono hh) d d1 hd hd1 hd1' r L e hf hL ha
  have cI := fun (sent : ByteArray) (H : List Ent) [HasBlk H wb 101 (wkC S N [p0, p1, p2] (octs Lk) (cliW buf2 true sent))] => him_sv G H wb S N [p0, p1, p2] (octs Lk) (cliW buf2 true sent) 1 (by decide) h1 hh1 false hh1'
  have cX := fun H x x2 x3 a b c d e => text_sc G H M hM wb S N p0 p1 p2 (octs Lk) buf2 true sent u0 hu0 hu0' x x2 x3 a b c d hz e
  have hlen := fun (buf sent : ByteArray) => wk_len (S := S) (N := N) (K := octs Lk) (P := [p0, p1, p2]) (E := cliW buf true sent) (k := 614) rfl rfl rfl
  have hsz : (strs out).length = out.length * 1 := by simp [strs]
  clear hl hd hd1 hd1' hf hL ha hT hu0 hu34 hh1 hLo
  generalize octs Lk = K at *
  refine sc_enter3 Tryz.func58 rfl rfl rfl rfl rfl ?_
  repeat' ((first | (apply g_sl; (first | (apply ks_nil; refine sl_nil ?_) | (apply ks_move; refine s_move rfl rfl ?_) | (apply ks_bin; refine s_bin rfl rfl rfl ?_; (((refine bb_of rfl ?_)))) | (apply ks_load; ((refine s_load rfl rfl ?_; (refine ld_cell (big_post rfl (big_post rfl (big_post rfl rfl))) ?_)))) | (apply ks_asgn; refine s_asgn rfl rfl ?_) | (apply ks_pick; refine s_pick rfl rfl ?_; ((apply kp_t; refine pk_t rfl ?_))) | (apply ks_field; (refine s_field (c_field0 rfl rfl) rfl ?_)) | (apply ks_nilc; refine s_nilc (y_nilCheck rfl rfl) rfl ?_) | (apply ks_fn; (refine c_callv rfl rfl rfl (cU _) rfl rfl ?_)) | (apply ks_guard; ((refine sl_gd rfl rfl rfl rfl ?_; ((apply gd_t))))))) | (apply sw_seq) | (apply sw_skip) | ((fail_if_success (refine g_reg (id := 5) ?_)); apply sw_region) | (refine sw_cd rfl ?_; (first | (apply gd_t) | (apply gd_ft))) | (apply at_thn)))
  refine sw_cut1 (α := Nat × Option Addr × Nat) (fun g => [(0, .pointer (some ⟨wb, 0, none⟩)), (1, .string t), (2, .int .i64 0), (6, .int .i64 0), (7, .string t), (8, .pointer (some ⟨g.1, 0, none⟩)), (9, .slice g.2.1 out.length g.2.2), (10, .string d), (11, .int .i64 0)])
    (fun g => .blk wb 101 (wkC S N [p0, p1, p2] K (cliW buf true sent)) :: .blk g.1 53 [.string buf2, .bool false] :: .own 9 1 g.2.1 out.length g.2.2 (strs out) :: H) (fun _ => True) ?_ ?_
  · repeat' ((first | (apply g_sl; (first | (apply ks_nil; refine sl_nil ?_) | (apply ks_fn; ((refine c_call rfl rfl rfl (cY _) rfl rfl ?_; rintro _ _ ⟨a1, c1, rfl, rfl⟩))) | (apply ks_store; ((refine c_storew rfl rfl rfl rfl rfl rfl rfl rfl ?_))) | (apply ks_alloc; refine c_alloc rfl rfl rfl rfl (fun _ => ?_)))) | (apply g_atso; refine so_back (k := 0) (fun _ hw => hw.subs (by repeat ((first | refine Subs.cons (by repeat constructor) ?_ | exact Subs.sub (by repeat ((first | exact List.Sublist.refl _ | refine List.Sublist.cons _ ?_))))))) ?_) | (apply g_sot; (first | (refine sot_skip rfl ?_) | (refine sot_take rfl rfl rfl rfl (by kernel_rfl) (by decide +kernel) (by decide +kernel) ?_; ((first | (apply ky_move; refine sy_val (y_move rfl rfl) ?_) | (apply ky_load; ((refine sy_load rfl ?_; (first | refine ld_part (big_ppost rfl (big_ppost rfl (big_pmid rfl))) rfl ?_ | refine ld_part (big_ppost rfl (big_ppost rfl (big_ppost rfl rfl))) rfl ?_)))) | (apply ky_asgn; refine sy_val (y_assign rfl rfl) ?_) | (apply ky_field; (refine sy_val (c_field0 rfl rfl) ?_)) | (apply ky_extr; refine sy_val (y_extract rfl rfl rfl) ?_) | (apply ky_nilc; refine sy_val (y_nilCheck rfl rfl) ?_)))) | (refine sot_next rfl ?_) | (refine so_done (by decide +kernel) ?_) | (refine sot_all (by kernel_rfl) ?_))) | (apply g_soa; (first | (refine soa_end rfl) | (refine soa_no (by decide +kernel) ?_) | (refine soa_yes rfl ?_ ?_))) | ((refine g_reg (id := 5) ?_; refine c_drawno _ (fun _ hw => hw) ?_))))
    all_goals
      rename_i b8
      exact at_meet (b8, a1, c1) trivial (by repeat ((first | exact Le.nil _ | refine Le.cons (by (rfl)) ?_))) (fun _ hw => hw.subs (by repeat ((first | refine Subs.cons (by repeat constructor) ?_ | exact Subs.sub (by repeat ((exact List.Sublist.refl _)))))))
  rintro ⟨b8, a1, c1⟩ -
  dsimp only
  repeat' ((first | (apply g_sl; (first | (apply ks_nil; refine sl_nil ?_) | (apply ks_move; refine s_move rfl rfl ?_) | (apply ks_bin; refine s_bin rfl rfl rfl ?_; ((((refine bb_of rfl ?_))))) | (apply ks_load; ((refine s_load rfl rfl ?_; (refine ld_whole rfl ?_)))) | (apply ks_asgn; refine s_asgn rfl rfl ?_) | (apply ks_field; (refine s_field (c_field0 rfl rfl) rfl ?_)) | (apply ks_nilc; refine s_nilc (y_nilCheck rfl rfl) rfl ?_) | (apply ks_store; ((((refine c_storepV (off := 610) (vs := [.string buf2, .bool false]) rfl rfl rfl rfl rfl rfl (by rw [hlen]; exact Nat.le_of_ble_eq_true rfl) (over_postS rfl (over_postS rfl (over_post rfl rfl (List.cons_ne_nil _ _)))) rfl ?_))))))) | (apply sw_seq) | (apply sw_skip) | ((fail_if_success (refine g_reg (id := 9) ?_)); apply sw_region) | (refine sw_cd rfl ?_; ((apply gd_ft))) | (apply at_thn)))
  all_goals (skip)
  clear cY cU
  rcases ho with ⟨rfl, rfl⟩ | ⟨x, x1, x2, x3, rfl, hx, hx1, hx1', hx2, hx2', hx3, hx3', rfl⟩
  · repeat' ((first | (apply g_sl; (first | (apply ks_nil; refine sl_nil ?_) | (apply ks_move; refine s_move rfl rfl ?_) | (apply ks_bi; (refine s_call (c_len rfl rfl) rfl ?_)))) | (apply sw_block) | (apply sw_region) | (apply at_thn)))
    refine sw_loopN 1 (srd_succ ?_)
    repeat' ((first | (apply g_sl; (first | (apply ks_nil; refine sl_nil ?_) | (apply ks_move; refine s_move rfl rfl ?_) | (apply ks_bin; refine s_bin rfl rfl rfl ?_; (((refine bb_of rfl ?_)))) | (apply ks_asgn; refine s_asgn rfl rfl ?_) | (apply ks_un; refine s_un (y_un rfl rfl rfl) rfl ?_) | (apply ks_fn; ((first | refine c_callv rfl rfl rfl (cI _ _) rfl rfl ?_ | (refine c_call rfl rfl rfl (cD _ (fun _ hw => hw.subs (by repeat ((exact Subs.sub (by repeat ((first | exact List.Sublist.refl _ | refine List.Sublist.cons _ ?_))))))) _) rfl rfl ?_; rintro _ _ ⟨S', E, rfl, rfl, hS2⟩)))))) | (apply sw_seq) | (apply sw_ret) | (apply sw_exit) | (apply sw_region) | (refine sw_cd rfl ?_; (first | (apply gd_t) | (apply gd_ft))) | (apply at_thn) | (apply at_thn_exit) | (apply at_inb_exit)))
    all_goals (skip)
    refine e_scf _ (by (exact .inr rfl)) rfl (fun _ hw => hw) ?_
    exact ⟨S', E ++ [.blk b8 53 [.string buf2, .bool false], .own 9 1 a1 ([] : List ByteArray).length c1 (strs [])], rfl, by simp, hS2.mono (fun w hw => hw.sub (List.sublist_append_left E _))⟩
  · have cR : ∀ H', SV Tryz.prog G 44 [.string x, .string ⟨#[13]⟩, .string ⟨#[10]⟩] H' (.string x1) := fun H' => by
      have h := replAll_sv G H' M (hM H') x (by omega) 13 [10] (by decide) (by decide)
      rw [hx1] at h
      exact h
    repeat' ((first | (apply g_sl; (first | (apply ks_nil; refine sl_nil ?_) | (apply ks_move; refine s_move rfl rfl ?_) | (apply ks_bi; (refine s_call (c_len rfl rfl) rfl ?_)))) | (apply sw_block) | (apply sw_region) | (apply at_thn)))
    refine sw_loopN 2 (srd_succ ?_)
    repeat' ((first | (apply g_sl; (first | (apply ks_nil; refine sl_nil ?_) | (apply ks_move; refine s_move rfl rfl ?_) | (apply ks_bin; refine s_bin rfl rfl rfl ?_; ((((first | (apply kb_add; (refine bb_add ⟨by omega, by omega⟩ ?_)) | refine bb_of rfl ?_))))) | (apply ks_load; ((refine s_load rfl rfl ?_; (refine ld_elem rfl ?_)))) | (apply ks_asgn; refine s_asgn rfl rfl ?_) | (apply ks_un; refine s_un (y_un rfl rfl rfl) rfl ?_) | (apply ks_indexA; (((refine s_indexA (c_indexAddr (xs := strs [x]) rfl rfl rfl rfl (by decide) (by simp)) rfl ?_)))) | (apply ks_fn; ((first | refine c_callv rfl rfl rfl (cR _) rfl rfl ?_ | (refine c_call rfl rfl rfl (cX _ _ x2 x3 hx1' hx2 hx2' hx3 hx3') rfl rfl ?_; rintro _ _ ⟨rfl, rfl⟩) | refine c_callv rfl rfl rfl (cI _ _) rfl rfl ?_ | (refine c_call rfl rfl rfl (cD _ (fun _ hw => hw.subs (by repeat ((exact Subs.sub (by repeat ((first | exact List.Sublist.refl _ | refine List.Sublist.cons _ ?_))))))) _) rfl rfl ?_; rintro _ _ ⟨S', E, rfl, rfl, hS2⟩)))))) | (apply sw_seq) | (apply at_srd) | (apply sw_skip) | (apply sw_ret) | (apply sw_exit) | (apply sw_block) | (apply sw_region) | (refine sw_cd rfl ?_; (first | (apply gd_t) | (apply gd_ft))) | (apply at_thn) | (apply at_thn_exit) | (apply at_inb) | (apply at_inb_exit)))
    all_goals (skip)
    refine e_scf _ (by (exact .inr rfl)) rfl (fun _ hw => hw) ?_
    exact ⟨S', E ++ [.blk b8 53 [.string buf2, .bool false], .own 9 1 a1 [x].length c1 (strs [x])], rfl, by simp, hS2.mono (fun w hw => hw.sub (List.sublist_append_left E _))⟩
end Go.Proofs.YtmbfechiallppaaGreatDoor
end
section
namespace Go.Sx
open Go Go.RowKit Go.Fw
/-- A block pulled to the front. -/
theorem sc_pullB {P : Program} {G : Ctx} {f : FuncId} {args : List Value} {H H1 : List Ent} {tb : Nat} {t : TypeId} {cs : List Value} {R : Value → List Ent → Prop} [p1 : PickBlk H tb t cs H1] (h : SC P G f args (.blk tb t cs :: H1) R) : SC P G f args H R :=
  ⟨h.1, fun w hw => h.2 w (hw.pick p1.here)⟩
end Go.Sx
namespace Go.Proofs.YtmbfechiallppaaGreatDoor
open Go Go.RowKit Go.Fw Go.Sx
set_option maxRecDepth 100000
set_option maxHeartbeats 2000000
attribute [local irreducible] SW SL SQ AtQ SV SC BB LD PK Yields SO SOT SOA SY negC
theorem edit_sc (G : Ctx) (H : List Ent) (wb : Nat) (S N : List Value) (p0 p1 p2 : Value) (K : List Value) [hS : Len S 33] [hN : Len N 520] [hK : Len K 38] (buf : ByteArray) (sent : ByteArray) :
    SC Tryz.prog G 209 [.pointer (some ⟨wb, 0, none⟩), .int .u8 1] (.blk wb 101 (wkC S N [p0, p1, p2] K (cliW buf false sent)) :: H) fun v H' => v = .tuple #[.string ⟨#[1, 5]⟩, .bool true] ∧ H' = .blk wb 101 (wkC S N [p0, p1, p2] K (cliW buf true sent)) :: H := by
  have hlen := wk_len (S := S) (N := N) (K := K) (P := [p0, p1, p2]) (E := cliW buf false sent) (k := 614) rfl rfl rfl
  refine sc_enter2 Tryz.func209 rfl rfl rfl rfl rfl ?_
  repeat' ((first | (apply g_sl; (first | (apply ks_nil; refine sl_nil ?_) | (apply ks_move; refine s_move rfl rfl ?_) | (apply ks_bin; refine s_bin rfl rfl rfl ?_; ((first | (refine bb_of (v := .int .u8 0) rfl ?_) | (refine bb_of (v := .int .u8 1) rfl ?_) | (refine bb_of (v := .int .u8 5) rfl ?_) | (refine bb_of (v := .bool true) rfl ?_) | (refine bb_of (v := .bool false) rfl ?_)))) | (apply ks_load; (((refine s_load rfl rfl ?_; (refine ld_cell (big_post rfl (big_post rfl (big_post rfl rfl))) ?_))))) | (apply ks_asgn; refine s_asgn rfl rfl ?_) | (apply ks_pick; refine s_pick rfl rfl ?_; ((apply kp_f; refine pk_f rfl ?_))) | (apply ks_field; (refine s_field (c_field0 rfl rfl) rfl ?_)) | (apply ks_conv; (((refine s_conv (c_convBs (xs := [1, 5]) rfl rfl rfl rfl) rfl ?_)))) | (apply ks_nilc; refine s_nilc (y_nilCheck rfl rfl) rfl ?_) | (apply ks_store; ((((refine c_storekV rfl rfl rfl rfl rfl (set_postS rfl (set_postS rfl (set_post rfl rfl))) (by rw [hlen]; decide) rfl ?_))))) | (apply ks_bs; (refine c_buildSlice rfl rfl rfl rfl rfl rfl rfl rfl rfl rfl (fun _ => ?_))) | (apply ks_guard; ((refine sl_gd rfl rfl rfl rfl ?_; ((apply gd_ft))))))) | (apply sw_seq) | (apply sw_skip) | (apply sw_ret) | (apply sw_region) | (refine sw_cd rfl ?_; ((apply gd_ft))) | (apply at_thn)))
  refine e_scf (.blk wb 101 (wkC S N [p0, p1, p2] K (cliW buf true sent)) :: H) (by (exact .inr rfl)) rfl (fun _ hw => hw.subs (by repeat ((first | refine Subs.cons (by repeat constructor) ?_ | exact Subs.sub (by repeat ((first | exact List.Sublist.refl _ | refine List.Sublist.cons _ ?_))))))) ?_
  exact ⟨by rw [show strOfNums [1, 5] = (⟨#[1, 5]⟩ : ByteArray) from by decide +kernel]; rfl, rfl⟩
theorem sub_sc (G : Ctx) (H : List Ent) (M : Int) (hM : ∀ H w, Holds G H w → w.cell? ⟨2, 0, none⟩ = some (.int .i64 M)) (wb : Nat) (S N : List Value) (p0 p1 p2 : Value) (K : List Value) [hS : Len S 33] [hN : Len N 520] [hK : Len K 38] (buf : ByteArray) (ed : Bool) (sent : ByteArray) (hz : sent.size ≤ 4000000) (opt : Int) (d : ByteArray) (hd : d.size ≤ 2000000) (r : ByteArray) (e : Int) (ht : tokS 4 0 opt d = (r, e)) (hr : r.size ≤ 8000000) :
    SC Tryz.prog G 106 [.pointer (some ⟨wb, 0, none⟩), .int .i64 opt, .string d] (.blk wb 101 (wkC S N [p0, p1, p2] K (cliW buf ed sent)) :: H) fun v H' => v = resV [] ∧ H' = .blk wb 101 (wkC S N [p0, p1, p2] K (cliW buf ed (sent ++ r))) :: H := by
  have cW := fun H => iacWrite_sv G H M hM 4 0 opt d hd
  rw [ht] at cW
  dsimp only at cW
  have hlen := wk_len (S := S) (N := N) (K := K) (P := [p0, p1, p2]) (E := cliW buf ed sent) (k := 614) rfl rfl rfl
  refine sc_enter3 Tryz.func106 rfl rfl rfl rfl rfl ?_
  repeat' ((first | (apply g_sl; (first | (apply ks_nil; refine sl_nil ?_) | (apply ks_move; refine s_move rfl rfl ?_) | (apply ks_bin; refine s_bin rfl rfl rfl ?_; (((refine bb_cat (by omega) ?_)))) | (apply ks_load; (((refine s_load rfl rfl ?_; (refine ld_cell (big_post rfl (big_post rfl (big_post rfl rfl))) ?_))))) | (apply ks_asgn; refine s_asgn rfl rfl ?_) | (apply ks_field; (refine s_field (c_field0 rfl rfl) rfl ?_)) | (apply ks_extr; refine s_extr (y_extract rfl rfl rfl) rfl ?_) | (apply ks_build; (refine s_build (c_build rfl rfl rfl) rfl ?_)) | (apply ks_nilc; refine s_nilc (y_nilCheck rfl rfl) rfl ?_) | (apply ks_fn; (refine c_callv rfl rfl rfl (cW _) rfl rfl ?_)) | (apply ks_store; ((((refine c_storekV rfl rfl rfl rfl rfl (set_postS rfl (set_postS rfl (set_post rfl rfl))) (by rw [hlen]; decide) rfl ?_))))))) | (apply sw_seq) | (apply sw_region) | (apply at_thn)))
  all_goals
    refine e_scf _ (by (exact .inl rfl)) rfl (fun _ hw => hw) ?_
    exact ⟨rfl, rfl⟩
theorem nego_sc (G : Ctx) (H : List Ent) (wb : Nat) (S N N2 : List Value) (p0 p1 p2 : Value) (K : List Value) [hS : Len S 33] [hN : Len N 520] [hN2 : Len N2 520] (hone : N2.all (·.oneCell') = true) [hK : Len K 38] (buf : ByteArray) (ed : Bool) (sent : ByteArray) (hz : sent.size ≤ 4000000) (d : ByteArray) (hd : d.size ≤ 2000000) (u v : Int) (hu : N[31]? = some (.int .u8 u)) (hu' : (u == 1) = false) (hv : N2[31]? = some (.int .u8 v)) (hv' : (v == 1) = false) :
    SC Tryz.prog G 66 [.pointer (some ⟨wb, 0, none⟩), .agg N2.toArray, .string d] (.blk wb 101 (wkC S N [p0, p1, p2] K (cliW buf ed sent)) :: H) fun v H' => v = resV [] ∧ H' = .blk wb 101 (wkC S N2 [p0, p1, p2] K (cliW buf ed (sent ++ d))) :: H := by
  have cU := fun (H : List Ent) [HasBlk H wb 101 (wkC S N [p0, p1, p2] K (cliW buf ed sent))] => us_sv G H wb S N [p0, p1, p2] K (cliW buf ed sent) 31 (by decide) u hu false hu'
  have cU2 := fun (sent : ByteArray) (H : List Ent) [HasBlk H wb 101 (wkC S N2 [p0, p1, p2] K (cliW buf ed sent))] => us_sv G H wb S N2 [p0, p1, p2] K (cliW buf ed sent) 31 (by decide) v hv false hv'
  have hlen := fun (N : List Value) (hN : Len N 520) => wk_len (S := S) (N := N) (K := K) (P := [p0, p1, p2]) (E := cliW buf ed sent) (k := 614) rfl rfl rfl
  have hl2 := hN2.here
  have hlb : Nat.beq N2.length 520 = true := by rw [hl2]; rfl
  refine sc_enter3 Tryz.func66 rfl rfl rfl rfl rfl ?_
  repeat' ((first | (apply g_sl; (first | (apply ks_nil; refine sl_nil ?_) | (apply ks_move; refine s_move rfl rfl ?_) | (apply ks_bin; refine s_bin rfl rfl rfl ?_; (((refine bb_cat (by omega) ?_)))) | (apply ks_load; ((first | (refine s_load rfl rfl ?_; (refine ld_cell (big_post rfl (big_post rfl (big_post rfl rfl))) ?_)) | (refine s_load rfl rfl ?_; refine ld_whole hlb ?_)))) | (apply ks_asgn; refine s_asgn rfl rfl ?_) | (apply ks_pick; refine s_pick rfl rfl ?_; ((apply kp_t; refine pk_t rfl ?_))) | (apply ks_field; (refine s_field (c_field0 rfl rfl) rfl ?_)) | (apply ks_un; refine s_un (y_un rfl rfl rfl) rfl ?_) | (apply ks_nilc; refine s_nilc (y_nilCheck rfl rfl) rfl ?_) | (apply ks_fn; ((first | refine c_callv rfl rfl rfl (cU _) rfl rfl ?_ | refine c_callv rfl rfl rfl (cU2 _ _) rfl rfl ?_))) | (apply ks_store; (((first | (refine c_storepV (off := 45) rfl rfl rfl rfl hone hl2 (by rw [hlen _ hN]; decide) (over_postS rfl (over_mid (m := 520) rfl hl2)) rfl ?_) | (refine c_storekV rfl rfl rfl rfl rfl (set_postS rfl (set_postS rfl (set_post rfl rfl))) (by rw [hlen _ hN2]; decide) rfl ?_))))) | (apply ks_box; refine c_box rfl rfl rfl rfl rfl rfl (fun _ => ?_)) | (apply ks_guard; ((refine sl_gd rfl rfl rfl rfl ?_; ((apply gd_t))))))) | (apply sw_seq) | (apply sw_skip) | (apply sw_region) | (refine sw_cd rfl ?_; ((apply gd_ft))) | (apply at_thn)))
  refine e_scf (.blk wb 101 (wkC S N2 [p0, p1, p2] K (cliW buf ed (sent ++ d))) :: H) (by (exact .inl rfl)) rfl (fun _ hw => hw.subs (by repeat ((first | refine Subs.cons (by repeat constructor) ?_ | exact Subs.sub (by repeat ((first | exact List.Sublist.refl _ | refine List.Sublist.cons _ ?_))))))) ?_
  exact ⟨rfl, rfl⟩
theorem cline_sc (G : Ctx) (H : List Ent) (wb : Nat) (S N : List Value) (p0 p1 p2 : Value) (K : List Value) [hS : Len S 33] [hN : Len N 520] [hK : Len K 38] (buf : ByteArray) (sent : ByteArray) :
    SC Tryz.prog G 152 [.pointer (some ⟨wb, 0, none⟩), .string ⟨#[1, 1]⟩] (.blk wb 101 (wkC S N [p0, p1, p2] K (cliW buf false sent)) :: H) fun v H' => v = .tuple #[.string ⟨#[1, 5]⟩, .bool true] ∧ H' = .blk wb 101 (wkC S N [p0, p1, p2] K (cliW buf true sent)) :: H := by
  have cE := fun H => edit_sc G H wb S N p0 p1 p2 K buf sent
  refine sc_enter2 Tryz.func152 rfl rfl rfl rfl rfl ?_
  repeat' ((first | (apply g_sl; (first | (apply ks_nil; refine sl_nil ?_) | (apply ks_move; refine s_move rfl rfl ?_) | (apply ks_bin; refine s_bin rfl rfl rfl ?_; (((refine bb_of (v := .bool true) rfl ?_)))) | (apply ks_asgn; refine s_asgn rfl rfl ?_) | (apply ks_pick; refine s_pick rfl rfl ?_; ((apply kp_t; refine pk_t rfl ?_))) | (apply ks_extr; refine s_extr (y_extract rfl rfl rfl) rfl ?_) | (apply ks_index; ((refine s_index (c_indexStr rfl rfl rfl (by omega) rfl) rfl ?_))) | (apply ks_fn; ((refine c_call rfl rfl rfl (cE _) rfl rfl ?_; rintro _ _ ⟨rfl, rfl⟩))) | (apply ks_bi; ((refine s_call (c_len_str rfl rfl) rfl ?_))) | (apply ks_guard; ((refine sl_gd rfl rfl rfl rfl ?_; ((apply gd_t))))))) | (apply sw_seq) | (apply sw_ret) | (apply sw_block) | (apply sw_region) | (refine sw_cd rfl ?_; ((apply gd_t))) | (apply at_thn) | (apply at_thn_ret) | (apply at_inb_ret)))
  refine e_scf _ (by (exact .inr rfl)) rfl (fun _ hw => hw) ?_
  exact ⟨rfl, rfl⟩
theorem option_sc (G : Ctx) (H : List Ent) (M : Int) (hM : ∀ H w, Holds G H w → w.cell? ⟨2, 0, none⟩ = some (.int .i64 M)) (wb : Nat) (S N : List Value) (p0 p1 p2 : Value) (K : List Value) [hS : Len S 33] [hN : Len N 520] [hK : Len K 38] (buf : ByteArray) (sent : ByteArray) (hz : sent.size ≤ 4000000) (kd cmd : Int) :
    SC Tryz.prog G 100 [.pointer (some ⟨wb, 0, none⟩), .agg #[.int .i64 kd, .int .i64 cmd, .int .i64 34, .string ⟨#[1, 1]⟩]] (.blk wb 101 (wkC S N [p0, p1, p2] K (cliW buf false sent)) :: H) fun v H' => v = resV [] ∧ H' = .blk wb 101 (wkC S N [p0, p1, p2] K (cliW buf true (sent ++ ⟨#[255, 250, 34, 1, 5, 255, 240]⟩))) :: H := by
  have cL := fun H => cline_sc G H wb S N p0 p1 p2 K buf sent
  have cB := fun H => sub_sc G H M hM wb S N p0 p1 p2 K buf true sent hz 34 ⟨#[1, 5]⟩ (by decide) ⟨#[255, 250, 34, 1, 5, 255, 240]⟩ 0 (by decide +kernel) (by decide)
  refine sc_enter2 Tryz.func100 rfl rfl rfl rfl rfl ?_
  repeat' ((first | (apply g_sl; (first | (apply ks_nil; refine sl_nil ?_) | (apply ks_move; refine s_move rfl rfl ?_) | (apply ks_bin; refine s_bin rfl rfl rfl ?_; (((refine bb_of rfl ?_)))) | (apply ks_load; ((refine s_load rfl rfl ?_; (refine ld_cell rfl ?_)))) | (apply ks_asgn; refine s_asgn rfl rfl ?_) | (apply ks_field; (refine s_field (c_field0 rfl rfl) rfl ?_)) | (apply ks_extr; refine s_extr (y_extract rfl rfl rfl) rfl ?_) | (apply ks_fn; ((first | (refine c_call rfl rfl rfl (sc_pullB (tb := wb) (cL _)) rfl rfl ?_; rintro _ _ ⟨rfl, rfl⟩) | (refine c_call rfl rfl rfl (sc_pullB (tb := wb) (cB _)) rfl rfl ?_; rintro _ _ ⟨rfl, rfl⟩)))) | (apply ks_box; refine c_box rfl rfl rfl rfl rfl rfl (fun _ => ?_)))) | (apply sw_seq) | (apply sw_block) | (apply sw_region) | (refine sw_cd rfl ?_; (first | (apply gd_t) | (apply gd_ft))) | (apply at_thn) | (apply at_inb)))
  refine e_scf (.blk wb 101 (wkC S N [p0, p1, p2] K (cliW buf true (sent ++ ⟨#[255, 250, 34, 1, 5, 255, 240]⟩))) :: H) (by (exact .inl rfl)) rfl (fun _ hw => hw.subs (by repeat ((first | refine Subs.cons (by repeat constructor) ?_ | exact Subs.sub (by repeat ((first | exact List.Sublist.refl _ | refine List.Sublist.cons _ ?_))))))) ?_
  exact ⟨rfl, rfl⟩
end Go.Proofs.YtmbfechiallppaaGreatDoor
end
section
namespace Go.Proofs.YtmbfechiallppaaGreatDoor
open Go Go.RowKit Go.Fw Go.Sx
set_option maxRecDepth 100000
set_option maxHeartbeats 2000000
attribute [local irreducible] SW SL SQ AtQ SV SC BB LD PK Yields SO SOT SOA SY negC
abbrev askB : ByteArray := ⟨#[255, 253, 34, 255, 250, 34, 1, 1, 255, 240]⟩
abbrev saidB : ByteArray := ⟨#[255, 250, 34, 1, 5, 255, 240]⟩
abbrev askT : List Tk := [(3, 253, 34, ⟨#[]⟩), (4, 0, 34, ⟨#[1, 1]⟩)]
theorem ask_out : (feedR 0 0 0 ⟨#[]⟩ false askB).out = askT := by decide +kernel
theorem ask_wire : (feedR 0 0 0 ⟨#[]⟩ false askB).mode = 0 ∧ (feedR 0 0 0 ⟨#[]⟩ false askB).cmd = 0 ∧ (feedR 0 0 0 ⟨#[]⟩ false askB).opt = 0 ∧ (feedR 0 0 0 ⟨#[]⟩ false askB).buf = [] ∧ (feedR 0 0 0 ⟨#[]⟩ false askB).over = false := by decide +kernel
theorem bytes_sc (G : Ctx) (H : List Ent) (M : Int) (hM : ∀ H w, Holds G H w → w.cell? ⟨2, 0, none⟩ = some (.int .i64 M)) (wb : Nat) (S N N2 : List Value) (p0 p1 p2 : Value) (K : List Value) [hS : Len S 33] [hN : Len N 520] [hN2 : Len N2 520] (hone : N2.all (·.oneCell') = true) [hK : Len K 38] (buf : ByteArray) (d : ByteArray) (hd : d.size ≤ 2000000) (u v u34 : Int) (hu : N[31]? = some (.int .u8 u)) (hu' : (u == 1) = false) (hv : N2[31]? = some (.int .u8 v)) (hv' : (v == 1) = false) (h34 : N2[34]? = some (.int .u8 u34)) (h34' : (u34 == 1) = true)
    (cH : ∀ H, SV Tryz.prog G 99 [.agg N.toArray, .agg #[.int .i64 3, .int .i64 253, .int .i64 34, .string ⟨#[]⟩]] H (.tuple #[.agg N2.toArray, .string d])) :
    SC Tryz.prog G 57 [.pointer (some ⟨wb, 0, none⟩), .string askB] (.blk wb 101 (wkC S N [p0, p1, p2] K (cliW buf false ⟨#[]⟩)) :: H) fun v H' => v = .int .i64 0 ∧ H' = .blk wb 101 (wkC S N2 [p0, p1, p2] K (cliW buf true (⟨#[]⟩ ++ d ++ saidB))) :: H := by
  have cF : ∀ H, SC Tryz.prog G 97 [wireV 0 0 0 ⟨#[]⟩ false, .string askB] H (fun v H' => ∃ a' c', v = .tuple #[wireV 0 0 0 ⟨#[]⟩ false, .slice a' 2 c', .int .i64 0] ∧ H' = .own 200 4 a' 2 c' (toks askT) :: H) := fun H => by
    have h := feed_ok G H 0 0 0 ⟨#[]⟩ false askB (by decide +kernel) (by decide)
    obtain ⟨e1, e2, e3, e4, e5⟩ := ask_wire
    rw [ask_out] at h
    unfold wireR at h
    rw [e1, e2, e3, e4, e5, show strOfNums [] = (⟨#[]⟩ : ByteArray) from by decide +kernel] at h
    exact h
  have cG := fun H => nego_sc G H wb S N N2 p0 p1 p2 K hone buf false ⟨#[]⟩ (by decide) d hd u v hu hu' hv hv'
  have cO := fun H => option_sc G H M hM wb S N2 p0 p1 p2 K buf (⟨#[]⟩ ++ d) (by rw [ByteArray.size_append]; show 0 + d.size ≤ _; omega) 4 0
  have cU := fun (H : List Ent) [HasBlk H wb 101 (wkC S N2 [p0, p1, p2] K (cliW buf false (⟨#[]⟩ ++ d)))] => us_sv G H wb S N2 [p0, p1, p2] K (cliW buf false (⟨#[]⟩ ++ d)) 34 (by decide) u34 h34 true h34'
  have hlen := wk_len (S := S) (N := N) (K := K) (P := [p0, p1, p2]) (E := cliW buf false ⟨#[]⟩) (k := 614) rfl rfl rfl
  have el0 : take? ((toks askT).drop ((0 : Int).toNat * 4)) 4 = some [.int .i64 3, .int .i64 253, .int .i64 34, .string ⟨#[]⟩] := rfl
  have el1 : take? ((toks askT).drop (((0 : Int) + 1).toNat * 4)) 4 = some [.int .i64 4, .int .i64 0, .int .i64 34, .string ⟨#[1, 1]⟩] := rfl
  have hlx : (toks askT).length = 2 * 4 := rfl
  generalize toks askT = vs at *
  refine sc_enter2 Tryz.func57 rfl rfl rfl rfl rfl ?_
  repeat' ((first | (apply g_sl; (first | (apply ks_nil; refine sl_nil ?_) | (apply ks_move; refine s_move rfl rfl ?_) | (apply ks_bin; refine s_bin rfl rfl rfl ?_; ((((refine bb_of rfl ?_))))) | (apply ks_load; ((refine s_load rfl rfl ?_; (first | refine ld_whole rfl ?_ | refine ld_part rfl rfl ?_)))) | (apply ks_asgn; refine s_asgn rfl rfl ?_) | (apply ks_field; (refine s_field (c_field0 rfl rfl) rfl ?_)) | (apply ks_extr; refine s_extr (y_extract rfl rfl rfl) rfl ?_) | (apply ks_nilc; refine s_nilc (y_nilCheck rfl rfl) rfl ?_) | (apply ks_fn; ((refine c_call rfl rfl rfl (cF _) rfl rfl ?_; rintro _ _ ⟨a1, c1, rfl, rfl⟩))) | (apply ks_bi; ((first | refine s_call (c_len rfl rfl) rfl ?_ | refine s_call (c_len_str rfl rfl) rfl ?_))) | (apply ks_store; ((first | refine c_storew rfl rfl rfl rfl rfl rfl rfl rfl ?_ | ((refine c_storepV (off := 0) (vs := [.int .i64 0, .int .i64 0, .int .i64 0, .string ⟨#[]⟩, .bool false]) rfl rfl rfl rfl rfl rfl (by rw [hlen]; exact Nat.le_of_ble_eq_true rfl) (over_pre rfl (List.cons_ne_nil _ _)) rfl ?_))))) | (apply ks_alloc; refine c_alloc rfl rfl rfl rfl (fun _ => ?_)))) | (apply sw_seq) | (apply sw_skip) | (apply sw_block) | (apply sw_region) | (refine sw_cd rfl ?_; ((apply gd_ft))) | (apply at_thn)))
  all_goals (skip)
  rename_i b5
  refine sw_held (.blk wb 101 (wkC S N [p0, p1, p2] K (cliW buf false ⟨#[]⟩)) :: .blk b5 23 [.int .i64 0, .int .i64 0, .int .i64 0, .string ⟨#[]⟩, .bool false] :: .own 200 4 a1 2 c1 vs :: H) (fun _ hw => hw) ?_
  clear cF
  refine sw_loopN 3 (srd_succ ?_)
  repeat' ((first | (apply g_sl; (first | (apply ks_nil; refine sl_nil ?_) | (apply ks_move; refine s_move rfl rfl ?_) | (apply ks_bin; refine s_bin rfl rfl rfl ?_; ((((refine bb_of rfl ?_))))) | (apply ks_load; (first | (refine s_load rfl rfl ?_; (refine ld_cell rfl ?_)) | ((refine s_load rfl rfl ?_; (refine ld_elems el0 rfl ?_))))) | (apply ks_asgn; refine s_asgn rfl rfl ?_) | (apply ks_pick; refine s_pick rfl rfl ?_; ((apply kp_f; refine pk_f rfl ?_))) | (apply ks_field; (refine s_field (c_field0 rfl rfl) rfl ?_)) | (apply ks_indexA; (((refine s_indexA (c_indexAddr rfl rfl rfl hlx (by omega) (by omega)) rfl ?_)))) | (apply ks_store; ((refine c_storew rfl rfl rfl rfl rfl rfl rfl rfl ?_))) | (apply ks_alloc; refine c_alloc rfl rfl rfl rfl (fun _ => ?_)) | (apply ks_guard; ((refine sl_gd rfl rfl rfl rfl ?_; ((apply gd_ft))))))) | (apply sw_seq) | (apply sw_skip) | (apply sw_block) | ((fail_if_success (refine g_reg (id := 13) ?_)); apply sw_region) | (refine sw_cd rfl ?_; (first | (apply gd_t) | (apply gd_ft))) | (apply at_thn)))
  all_goals (skip)
  rename_i b9
  repeat' ((first | (apply g_sl; (first | (apply ks_nil; refine sl_nil ?_) | (apply ks_move; refine s_move rfl rfl ?_) | (apply ks_bin; refine s_bin rfl rfl rfl ?_; ((((first | (apply kb_add; (refine bb_add ⟨by omega, by omega⟩ ?_)) | refine bb_of rfl ?_))))) | (apply ks_load; (first | (refine s_load rfl rfl ?_; (first | refine ld_cell rfl ?_ | refine ld_whole rfl ?_)) | (first | (refine s_load rfl rfl ?_; (refine ld_elems el1 rfl ?_)) | (refine s_load rfl rfl ?_; (refine ld_part (big_ppost rfl (big_pmid rfl)) rfl ?_))))) | (apply ks_asgn; refine s_asgn rfl rfl ?_) | (apply ks_pick; refine s_pick rfl rfl ?_; (first | (apply kp_t; refine pk_t rfl ?_) | (apply kp_f; refine pk_f rfl ?_))) | (apply ks_field; (refine s_field (c_field0 rfl rfl) rfl ?_)) | (apply ks_indexA; (((refine s_indexA (c_indexAddr rfl rfl rfl hlx (by omega) (by omega)) rfl ?_)))) | (apply ks_fn; ((first | refine c_callv rfl rfl rfl (cH _) rfl rfl ?_ | refine c_callv rfl rfl rfl (cU _) rfl rfl ?_ | (refine c_call rfl rfl rfl (sc_pullB (tb := wb) (cG _)) rfl rfl ?_; rintro _ _ ⟨rfl, rfl⟩) | (refine c_call rfl rfl rfl (sc_pullB (tb := wb) (cO _)) rfl rfl ?_; rintro _ _ ⟨rfl, rfl⟩)))) | (apply ks_store; ((refine c_storew rfl rfl rfl rfl rfl rfl rfl rfl ?_))) | (apply ks_alloc; refine c_alloc rfl rfl rfl rfl (fun _ => ?_)) | (apply ks_guard; ((refine sl_gd rfl rfl rfl rfl ?_; (first | (apply gd_t) | (apply gd_ft))))))) | (apply g_atso; refine so_back (k := 0) (fun _ hw => hw.subs (by repeat ((first | refine Subs.cons (by repeat constructor) ?_ | exact Subs.sub (by repeat ((first | exact List.Sublist.refl _ | refine List.Sublist.cons _ ?_))))))) ?_) | (apply g_sot; (first | (refine sot_skip rfl ?_) | (refine sot_take rfl rfl rfl rfl (by kernel_rfl) (by decide +kernel) (by decide +kernel) ?_; ((first | (apply ky_move; refine sy_val (y_move rfl rfl) ?_) | (apply ky_load; ((refine sy_load rfl ?_; (refine ld_whole rfl ?_)))) | (apply ky_field; (refine sy_val (c_field0 rfl rfl) ?_)) | (apply ky_extr; refine sy_val (y_extract rfl rfl rfl) ?_) | (apply ky_nilc; refine sy_val (y_nilCheck rfl rfl) ?_)))) | (refine sot_next rfl ?_) | (refine so_done (by decide +kernel) ?_) | (refine sot_all (by kernel_rfl) ?_))) | (apply g_soa; (first | (refine soa_end rfl) | (refine soa_no (by decide +kernel) ?_) | (refine soa_yes rfl ?_ ?_))) | (apply sw_seq) | (apply at_srd) | (apply sw_skip) | (apply sw_ret) | (apply sw_exit) | (apply sw_block) | (apply sw_region) | (refine sw_cd rfl ?_; (first | (apply gd_t) | (apply gd_ft))) | (apply at_thn) | (apply at_thn_exit) | (apply at_inb) | (apply at_inb_exit) | ((refine g_reg (id := 13) ?_; refine c_drawnoB (b := wb) ?_))))
  all_goals (skip)
  all_goals ((refine e_scf (.blk wb 101 (wkC S N2 [p0, p1, p2] K (cliW buf true (⟨#[]⟩ ++ d ++ saidB))) :: H) (by (exact .inr rfl)) rfl (fun _ hw => hw.subs (by repeat ((first | refine Subs.cons (by repeat constructor) ?_ | exact Subs.sub (by repeat ((first | exact List.Sublist.refl _ | refine List.Sublist.cons _ ?_))))))) ?_; exact ⟨rfl, rfl⟩))
end Go.Proofs.YtmbfechiallppaaGreatDoor
end
section
namespace Go.Proofs.YtmbfechiallppaaGreatDoor
open Go Go.RowKit Go.Fw Go.Sx
set_option maxRecDepth 100000
set_option maxHeartbeats 1000000
attribute [local irreducible] SW SL SQ AtQ SV SC BB LD PK Yields SO SOT SOA SY
abbrev keyV (name rune mods : Int) : Value := .agg #[.int .i64 name, .int .i64 rune, .int .i64 mods]
end Go.Proofs.YtmbfechiallppaaGreatDoor
end
section
namespace Go.Proofs.YtmbfechiallppaaGreatDoor
open Go Go.RowKit Go.Fw Go.Sx
set_option maxRecDepth 100000
set_option maxHeartbeats 1000000
attribute [local irreducible] SW SL SQ AtQ SV SC BB LD PK Yields SO SOT SOA SY
def keyOk (name rune mods : Int) : Prop := (0 ≤ mods ∧ mods ≤ 7) ∧ (0 ≤ name ∧ name ≤ 26) ∧ (name = 0 → isR rune) ∧ (name ≠ 0 → rune = 0)
/-- A rune with or without ctrl. -/
def charC (c z4 : Int) : Int := if z4 ≠ 0 then (if (64 ≤ c ∧ c ≤ 95) ∨ (97 ≤ c ∧ c ≤ 122) then c % 32 else if c = 32 then 0 else if c = 63 then 127 else c) else c
def plainB (name c z1 z4 : Int) : ByteArray :=
  if name = 23 then ⟨#[13]⟩ else if name = 24 then (if z1 ≠ 0 then ⟨#[27, 91, 90]⟩ else ⟨#[9]⟩) else if name = 25 then (if z4 ≠ 0 then ⟨#[8]⟩ else ⟨#[127]⟩) else if name = 26 then ⟨#[27]⟩ else strOfNums (runeL (charC c z4))
theorem encL_one (c : Int) (h : isR c) : encL [c] = runeL c := by
  unfold encL fixR isR at *
  rw [List.flatMap_cons, List.flatMap_nil, List.append_nil, if_neg (by omega)]
theorem pcode_sv (G : Ctx) (H : List Ent) (c : Int) : SV Tryz.prog G 26 [.int .i64 c] H (.bool (decide (isR c))) := by
  unfold isR
  refine sv_enter1 Tryz.func26 rfl rfl rfl rfl rfl ?_
  repeat' ((first | (apply g_sl; (first | (apply ks_nil; refine sl_nil ?_) | (apply ks_move; refine s_move rfl rfl ?_) | (apply ks_bin; refine s_bin rfl rfl rfl ?_; (((refine bb_of rfl ?_)))) | (apply ks_asgn; refine s_asgn rfl rfl ?_) | (apply ks_pick; refine s_pick rfl rfl ?_; (first | (apply kp_t; refine pk_t rfl ?_) | (apply kp_f; refine pk_f rfl ?_))) | (apply ks_guard; (first | (refine sl_gd rfl rfl rfl rfl ?_; (first | (apply gd_t) | (apply gd_ft) | (apply gd_tf) | (apply gd_dec_t <;> intro hq <;> (try (exfalso; omega))) | (apply gd_dec_f <;> intro hq <;> (try (exfalso; omega))))) | refine sl_skip_u rfl rfl rfl rfl rfl rfl ?_)))) | (apply sw_seq) | (apply sw_ret) | (apply sw_region) | (apply at_thn)))
  all_goals (refine e_sv (by (exact .inr rfl)) rfl (by repeat ((exact List.Sublist.refl _))) ?_; ((first | exact rb_t (by omega) | exact rb_f (by omega) | exact rb_d (by omega))))
theorem character_sv (G : Ctx) (H : List Ent) (c mods z4 : Int) (h : isR c) (hz : ibits .and .i64 mods 4 = z4) : SV Tryz.prog G 68 [.int .i64 c, .int .i64 mods] H (.string (strOfNums (runeL (charC c z4)))) := by
  have cE := fun H a x (hx : isR x) h => encL_one x hx ▸ encode_sv G H [x] a 1 1 (h1 := h) rfl rfl (by simp)
  have hcs : charC c z4 = if z4 ≠ 0 then (if (64 ≤ c ∧ c ≤ 95) ∨ (97 ≤ c ∧ c ≤ 122) then c % 32 else if c = 32 then 0 else if c = 63 then 127 else c) else c := rfl
  generalize charC c z4 = y at *
  unfold isR at h cE
  have Hcs := Lib.hid hcs
  clear hcs
  refine sv_enter2 Tryz.func68 rfl rfl rfl rfl rfl ?_
  repeat' ((first | (apply g_sl; (first | (apply ks_nil; refine sl_nil ?_) | (apply ks_move; refine s_move rfl rfl ?_) | (apply ks_bin; refine s_bin rfl rfl rfl ?_; (first | (refine bb_bitsV rfl hz ?_) | ((first | (apply kb_and; (refine bb_mask rfl rfl (by omega) (by omega) ?_)) | refine bb_of rfl ?_)))) | (apply ks_asgn; refine s_asgn rfl rfl ?_) | (apply ks_pick; refine s_pick rfl rfl ?_; (first | (apply kp_t; refine pk_t rfl ?_) | (apply kp_f; refine pk_f rfl ?_))) | (apply ks_fn; (refine c_callv rfl rfl rfl (cE _ _ _ (by omega) inferInstance) rfl rfl ?_)) | (apply ks_bs; (refine c_buildSlice rfl rfl rfl rfl rfl rfl rfl rfl rfl rfl (fun _ => ?_))) | (apply ks_guard; (first | (refine sl_gd rfl rfl rfl rfl ?_; (first | (apply gd_t) | (apply gd_ft) | (apply gd_tf) | (apply gd_dec_t <;> intro hq <;> (try (exfalso; omega))) | (apply gd_dec_f <;> intro hq <;> (try (exfalso; omega))))) | refine sl_skip_u rfl rfl rfl rfl rfl rfl ?_)))) | (apply sw_seq) | (apply sw_skip) | (apply sw_ret) | (apply sw_block) | (apply sw_region) | (refine sw_cd rfl ?_; (first | (apply gd_t) | (apply gd_ft) | (apply gd_dec_t <;> intro hq <;> (try (exfalso; omega))) | (apply gd_bne_t <;> intro hq <;> (try (exfalso; omega))))) | (apply at_thn) | (apply at_inb)))
  all_goals (refine e_sv (by (exact .inr rfl)) rfl (by repeat ((first | exact List.Sublist.refl _ | refine List.Sublist.cons _ ?_))) ?_; rw [Hcs.out]; (repeat ((first | rw [if_pos (by omega)] | rw [if_neg (by omega)]))); rfl)
theorem plain_sv (G : Ctx) (H : List Ent) (name c mods z1 z4 : Int) (hn : 23 ≤ name ∧ name ≤ 26 ∨ name = 0) (h : name = 0 → isR c) (h1 : ibits .and .i64 mods 1 = z1) (h4 : ibits .and .i64 mods 4 = z4) : SV Tryz.prog G 29 [keyV name c mods] H (.string (plainB name c z1 z4)) := by
  have cC := fun H (h0 : name = 0) => character_sv G H c mods z4 (h h0) h4
  have hp : plainB name c z1 z4 = if name = 23 then ⟨#[13]⟩ else if name = 24 then (if z1 ≠ 0 then ⟨#[27, 91, 90]⟩ else ⟨#[9]⟩) else if name = 25 then (if z4 ≠ 0 then ⟨#[8]⟩ else ⟨#[127]⟩) else if name = 26 then ⟨#[27]⟩ else strOfNums (runeL (charC c z4)) := rfl
  rw [hp]
  clear h hp
  refine sv_enter1 Tryz.func29 rfl rfl rfl rfl rfl ?_
  repeat' ((first | (apply g_sl; (first | (apply ks_nil; refine sl_nil ?_) | (apply ks_move; refine s_move rfl rfl ?_) | (apply ks_bin; refine s_bin rfl rfl rfl ?_; ((first | (refine bb_bitsV rfl h1 ?_) | (refine bb_bitsV rfl h4 ?_) | ((refine bb_of rfl ?_))))) | (apply ks_load; ((refine s_load rfl rfl ?_; (refine ld_cell rfl ?_)))) | (apply ks_asgn; refine s_asgn rfl rfl ?_) | (apply ks_pick; refine s_pick rfl rfl ?_; (first | (apply kp_t; refine pk_t rfl ?_) | (apply kp_f; refine pk_f rfl ?_))) | (apply ks_field; (refine s_field (c_field0 rfl rfl) rfl ?_)) | (apply ks_fn; (refine c_callv rfl rfl rfl (cC _ (by omega)) rfl rfl ?_)) | (apply ks_box; refine c_box rfl rfl rfl rfl rfl rfl (fun _ => ?_)) | (apply ks_guard; ((refine sl_gd rfl rfl rfl rfl ?_; (first | (apply gd_t) | (apply gd_ft) | (apply gd_dec_t <;> intro hq <;> (try (exfalso; omega))))))))) | (apply sw_seq) | (apply sw_skip) | (apply sw_ret) | (apply sw_block) | (apply sw_region) | (refine sw_cd rfl ?_; (first | (apply gd_ft) | (apply gd_dec_t <;> intro hq <;> (try (exfalso; omega))) | (apply gd_bne_t <;> intro hq <;> (try (exfalso; omega))))) | (apply at_thn) | (apply at_thn_ret) | (apply at_inb) | (apply at_inb_ret)))
  all_goals (refine e_sv (by (exact .inr rfl)) rfl (by repeat ((first | exact List.Sublist.refl _ | refine List.Sublist.cons _ ?_))) ?_; (repeat ((first | rw [if_pos (by omega)] | rw [if_neg (by omega)]))); rfl)
theorem keyE_sv (G : Ctx) (H : List Ent) (name c mods z1 z2 z4 modes : Int) (hq : 0 ≤ mods ∧ mods ≤ 7) (hn : 23 ≤ name ∧ name ≤ 26 ∨ name = 0) (h : name = 0 → isR c) (h0 : name ≠ 0 → c = 0) (h1 : ibits .and .i64 mods 1 = z1) (h2 : ibits .and .i64 mods 2 = z2) (h4 : ibits .and .i64 mods 4 = z4) : SV Tryz.prog G 10 [keyV name c mods, .int .i64 modes] H (.tuple #[.string (if z2 ≠ 0 then (⟨#[27]⟩ : ByteArray) ++ plainB name c z1 z4 else plainB name c z1 z4), .int .i64 0]) := by
  have cP := fun H => plain_sv G H name c mods z1 z4 hn h h1 h4
  have cK := fun H => pcode_sv G H c
  have hpl : (plainB name c z1 z4).size ≤ 10 := by
    unfold plainB
    repeat' split
    all_goals (first | decide | skip)
    rw [strOf_size]
    have := runeL_len (charC c z4)
    omega
  have z9 : (⟨#[27]⟩ : ByteArray).size = 1 := rfl
  generalize plainB name c z1 z4 = B at *
  have hR : name = 0 → decide (isR c) = true := fun e => decide_eq_true (h e)
  generalize decide (isR c) = r at *
  clear h h1 h4
  refine sv_enter2 Tryz.func10 rfl rfl rfl rfl rfl ?_
  repeat' ((first | (apply g_sl; (first | (apply ks_nil; refine sl_nil ?_) | (apply ks_move; refine s_move rfl rfl ?_) | (apply ks_bin; refine s_bin rfl rfl rfl ?_; ((first | (refine bb_bitsV rfl h2 ?_) | (refine bb_cat (by (try simp only [ByteArray.size_append]); omega) ?_) | ((refine bb_of rfl ?_))))) | (apply ks_load; ((refine s_load rfl rfl ?_; (first | refine ld_cell rfl ?_ | refine ld_whole rfl ?_)))) | (apply ks_asgn; refine s_asgn rfl rfl ?_) | (apply ks_pick; refine s_pick rfl rfl ?_; (first | (apply kp_t; refine pk_t rfl ?_) | (apply kp_f; refine pk_f rfl ?_))) | (apply ks_field; (refine s_field (c_field0 rfl rfl) rfl ?_)) | (apply ks_un; refine s_un (y_un rfl rfl rfl) rfl ?_) | (apply ks_fn; ((first | refine c_callv rfl rfl rfl (cP _) rfl rfl ?_ | refine c_callv rfl rfl rfl (cK _) rfl rfl ?_))) | (apply ks_box; refine c_box rfl rfl rfl rfl rfl rfl (fun _ => ?_)) | (apply ks_guard; (first | (refine sl_gd rfl rfl rfl rfl ?_; (first | (apply gd_t) | (apply gd_ft) | (apply gd_tf) | (apply gd_dec_t <;> intro hq <;> (try (exfalso; omega))) | (apply gd_dec_f <;> intro hq <;> (try (exfalso; omega))) | (apply gd_bne_t <;> intro hq <;> (try (exfalso; omega))) | (apply gd_not_f <;> intro hq))) | refine sl_skip_u rfl rfl rfl rfl rfl rfl ?_)))) | (apply sw_seq) | (apply sw_skip) | (apply sw_ret) | (apply sw_block) | (apply sw_region) | (refine sw_cd rfl ?_; (first | (apply gd_t) | (apply gd_ft) | (apply gd_dec_t <;> intro hq <;> (try (exfalso; omega))) | (apply gd_bne_t <;> intro hq <;> (try (exfalso; omega))))) | (apply at_thn) | (apply at_thn_ret) | (apply at_inb)))
  all_goals first
    | (exfalso; omega)
    | (have hr := hR (by omega); rw [hr] at hq; cases hq; done)
    | (rw [if_pos (by omega)]; refine e_sv (by first | exact .inl rfl | exact .inr rfl) rfl (by repeat (first | exact List.Sublist.refl _ | exact List.nil_sublist _ | refine List.Sublist.cons _ ?_)) ?_; rfl)
    | (rw [if_neg (by omega)]; refine e_sv (by (exact .inr rfl)) rfl (by repeat ((first | exact List.Sublist.refl _ | refine List.Sublist.cons _ ?_))) ?_; rfl)
end Go.Proofs.YtmbfechiallppaaGreatDoor
end
section
namespace Go.Proofs.YtmbfechiallppaaGreatDoor
open Go Go.RowKit Go.Fw Go.Sx
set_option maxRecDepth 100000
set_option maxHeartbeats 2000000
attribute [local irreducible] SW SL SQ AtQ SV SC BB LD PK Yields SO SOT SOA SY negC
abbrev evC (kind : Int) (data : ByteArray) (name rune : Int) : List Value := [.int .i64 kind, .string data, .int .i64 name, .int .i64 rune, .int .i64 0, .int .i64 0, .int .i64 0, .int .i64 0, .int .i64 0, .bool false, .slice none 0 0, .int .i64 0, .int .i64 0, .bool false, .int .i64 0, .bool false]
theorem do1_sc (G : Ctx) (H : List Ent) (wb : Nat) (S N P K E : List Value) [hS : Len S 33] (m : Int) (hm : S[11]? = some (.int .i64 m)) (cs2 : List Value) (d : ByteArray)
    (cB : ∀ H', SC Tryz.prog G 57 [.pointer (some ⟨wb, 0, none⟩), .string d] (.blk wb 101 (wkC S N P K E) :: H') fun v H'' => v = .int .i64 0 ∧ H'' = .blk wb 101 cs2 :: H') :
    SC Tryz.prog G 25 [.pointer (some ⟨wb, 0, none⟩), .agg (evC 1 d 0 0).toArray] (.blk wb 101 (wkC S N P K E) :: H) fun v H' => v = .int .i64 0 ∧ H' = .blk wb 101 cs2 :: H := by
  have hv : (wkC S N P K E)[23]? = some (.int .i64 m) := by
    refine big_mid (by decide) ?_
    exact hm
  generalize wkC S N P K E = cs at *
  refine sc_enter2 Tryz.func25 rfl rfl rfl rfl rfl ?_
  repeat' ((first | (apply g_sl; (first | (apply ks_nil; refine sl_nil ?_) | (apply ks_move; refine s_move rfl rfl ?_) | (apply ks_bin; refine s_bin rfl rfl rfl ?_; (((refine bb_of rfl ?_)))) | (apply ks_load; (first | (refine s_load rfl rfl ?_; (refine ld_cell rfl ?_)) | (refine s_load rfl rfl ?_; refine ld_cell hv ?_))) | (apply ks_asgn; refine s_asgn rfl rfl ?_) | (apply ks_field; (first | refine s_field (c_field0 rfl rfl) rfl ?_ | refine s_field (c_field rfl rfl) rfl ?_)) | (apply ks_nilc; refine s_nilc (y_nilCheck rfl rfl) rfl ?_) | (apply ks_fn; ((refine c_call rfl rfl rfl (sc_pullB (tb := wb) (cB _)) rfl rfl ?_; rintro _ _ ⟨rfl, rfl⟩))) | (apply ks_box; refine c_box rfl rfl rfl rfl rfl rfl (fun _ => ?_)))) | (apply sw_seq) | (apply sw_ret) | (apply sw_block) | (apply sw_region) | (refine sw_cd rfl ?_; ((apply gd_t))) | (apply at_thn) | (apply at_thn_ret) | (apply at_inb_ret)))
  all_goals (skip)
  refine e_scf (.blk wb 101 cs2 :: H) (by (exact .inr rfl)) rfl (fun _ hw => hw.subs (by repeat ((first | refine Subs.cons (by repeat constructor) ?_ | exact Subs.sub (by repeat ((first | exact List.Sublist.refl _ | refine List.Sublist.cons _ ?_))))))) ?_
  exact ⟨rfl, rfl⟩
theorem do2_sc (G : Ctx) (H : List Ent) (wb : Nat) (S N P K E : List Value) [hS : Len S 33] (m : Int) (hm : S[11]? = some (.int .i64 m)) (name rune : Int) (t : ByteArray) (s' : Scr) (E2 : List Value)
    (cK : ∀ H', SV Tryz.prog G 10 [keyV name rune 0, .int .i64 m] H' (.tuple #[.string t, .int .i64 0]))
    (cT : ∀ H', (∀ w, Holds G H' w → Holds G H w) → SC Tryz.prog G 58 [.pointer (some ⟨wb, 0, none⟩), .string t, .int .i64 0] (.blk wb 101 (wkC S N P K E) :: H') fun v H'' => ∃ S' F, v = .int .i64 0 ∧ H'' = .blk wb 101 (wkC S' N P K E2) :: (F ++ H') ∧ ScS G F s' S') :
    SC Tryz.prog G 25 [.pointer (some ⟨wb, 0, none⟩), .agg (evC 2 ⟨#[]⟩ name rune).toArray] (.blk wb 101 (wkC S N P K E) :: H) fun v H' => ∃ S' F, v = .int .i64 0 ∧ H' = .blk wb 101 (wkC S' N P K E2) :: (F ++ H) ∧ ScS G F s' S' := by
  have hv : (wkC S N P K E)[23]? = some (.int .i64 m) := by
    refine big_mid (by decide) ?_
    exact hm
  generalize wkC S N P K E = cs at *
  refine sc_enter2 Tryz.func25 rfl rfl rfl rfl rfl ?_
  repeat' ((first | (apply g_sl; (first | (apply ks_nil; refine sl_nil ?_) | (apply ks_move; refine s_move rfl rfl ?_) | (apply ks_bin; refine s_bin rfl rfl rfl ?_; (((refine bb_of rfl ?_)))) | (apply ks_load; (first | (refine s_load rfl rfl ?_; (first | refine ld_cell rfl ?_ | refine ld_part rfl rfl ?_)) | (refine s_load rfl rfl ?_; refine ld_cell hv ?_))) | (apply ks_asgn; refine s_asgn rfl rfl ?_) | (apply ks_field; (first | refine s_field (c_field0 rfl rfl) rfl ?_ | refine s_field (c_field rfl rfl) rfl ?_)) | (apply ks_extr; refine s_extr (y_extract rfl rfl rfl) rfl ?_) | (apply ks_nilc; refine s_nilc (y_nilCheck rfl rfl) rfl ?_) | (apply ks_fn; ((first | refine c_callv rfl rfl rfl (cK _) rfl rfl ?_ | (refine c_call rfl rfl rfl (sc_pullB (tb := wb) (cT _ (fun _ hw => hw.subs (by repeat ((exact Subs.sub (by repeat ((first | exact List.Sublist.refl _ | refine List.Sublist.cons _ ?_))))))))) rfl rfl ?_; rintro _ _ ⟨S', F, rfl, rfl, hS2⟩)))) | (apply ks_box; refine c_box rfl rfl rfl rfl rfl rfl (fun _ => ?_)))) | (apply sw_seq) | (apply sw_ret) | (apply sw_block) | (apply sw_region) | (refine sw_cd rfl ?_; (first | (apply gd_t) | (apply gd_ft))) | (apply at_thn) | (apply at_thn_ret) | (apply at_inb_ret)))
  all_goals (skip)
  rename_i b3
  refine e_scf _ (by (exact .inr rfl)) rfl (fun _ hw => hw) ?_
  exact ⟨S', F ++ [.blk b3 69 (evC 2 ⟨#[]⟩ name rune)], rfl, by simp, hS2.mono (fun w hw => hw.sub (List.sublist_append_left F _))⟩
end Go.Proofs.YtmbfechiallppaaGreatDoor
end
section
namespace Go.Proofs.YtmbfechiallppaaGreatDoor
open Go Go.RowKit Go.Fw Go.Sx
set_option maxRecDepth 100000
set_option maxHeartbeats 2000000
attribute [local irreducible] SW SL SQ AtQ SV SC BB LD PK Yields SO SOT SOA SY negC
def workZ : List Value := cliZ ++ [.string .empty]
theorem cliZ_len : cliZ.length = 613 := by unfold cliZ; exact big_len (m := 520) (by rw [show (big [Value.slice none 0 0, .int .i64 0, .slice none 0 0] keyZ cliE).length = 48 from big_len (m := 38) rfl]; rfl)
theorem workOff : OffsT Tryz.prog 101 [(0, 613), (613, 1)] workZ := ⟨(([(0, 613), (613, 1)] : List (Nat × Nat)).toArray[·]?), fun _ => by kernel_rfl, fun i p h => by simpa using h⟩
theorem workFill (C : List Value) (h : C.length = 613) : fillL? [(0, 613), (613, 1)] workZ [(0, C)] = some (C ++ [.string .empty]) := by
  have hz : workZ.length = 614 := by unfold workZ; rw [List.length_append, cliZ_len]; rfl
  refine (fill_o (off := 0) (sz := 613) (l' := C ++ [.string .empty]) rfl h (by decide) (by rw [hz]; decide) ?_).trans rfl
  unfold over workZ
  rw [h, List.take_zero, List.nil_append, Nat.zero_add, ← cliZ_len, List.drop_left]
theorem wk_snoc (S N P K : List Value) (buf sent : ByteArray) (ed : Bool) : wkC S N P K (cliX buf ed) ++ [.string sent] = wkC S N P K (cliW buf ed sent) := by
  unfold wkC big
  simp only [List.append_assoc]
  rfl
theorem wk_take (S N P K : List Value) (buf sent : ByteArray) (ed : Bool) (h : (wkC S N P K (cliX buf ed)).length = 613) : take? ((wkC S N P K (cliW buf ed sent)).drop 0) 613 = some (wkC S N P K (cliX buf ed)) := by
  refine takeq_of h ?_
  rw [← wk_snoc, List.drop_zero, ← h, List.take_left]
theorem do_gen (G : Ctx) (H : List Ent) (M : Int) (hM : ∀ H w, Holds G H w → w.cell? ⟨2, 0, none⟩ = some (.int .i64 M)) (s s2 : Scr) (f : Fre s) (S P N N2 K : List Value) [hN : Len N 520] [hN2 : Len N2 520] [hK : Len K 38] (h : CliS G H s S P) (buf buf2 : ByteArray) (ed ed2 : Bool) (sent2 : ByteArray) (hb : buf.size < 1024) (hN1 : N.all (·.oneCell') = true) (hN21 : N2.all (·.oneCell') = true) (hK1 : K.all (·.oneCell') = true)
    (cN : ∀ H' : List Ent, SV Tryz.prog G 53 [.agg N.toArray] H' (.int .i64 0)) (cK : ∀ H' : List Ent, SV Tryz.prog G 54 [.agg K.toArray] H' (.int .i64 0)) (ev : List Value) (hev : ev.length = 16) (hev1 : ev.all (·.oneCell') = true)
    (cD : ∀ (H' : List Ent) (wb : Nat) (S' P' : List Value), CliS G H' s S' P' → SC Tryz.prog G 25 [.pointer (some ⟨wb, 0, none⟩), .agg ev.toArray] (.blk wb 101 (wkC S' N P' K (cliW buf ed ⟨#[]⟩)) :: H') fun v H'' => ∃ S2 F, v = .int .i64 0 ∧ H'' = .blk wb 101 (wkC S2 N2 P' K (cliW buf2 ed2 sent2)) :: (F ++ H') ∧ (ScS G F s2 S2 ∨ (S2 = S' ∧ s2 = s))) :
    SC Tryz.prog G 7 [.agg (wkC S N P K (cliX buf ed)).toArray, .agg ev.toArray] H fun v H' => ∃ S2 P2 E, v = .tuple #[.agg (wkC S2 N2 P2 K (cliX buf2 ed2)).toArray, .string sent2, .int .i64 0] ∧ H' = E ++ H ∧ CliS G E s2 S2 P2 := by
  have cC := fun (H' : List Ent) (hh : ∀ w, Holds G H' w → Holds G H w) => cliCheck_sv G H' s f S P N K (h.mono hh) buf ed hb M hM cN cK
  have cL := fun (H' : List Ent) (hh : ∀ w, Holds G H' w → Holds G H w) => cliClone_sc G H' s f S P N K (h.mono hh) buf ed hN1 hK1
  have hS : Len S 33 := ⟨h.1.len⟩
  obtain ⟨na, nc, va, vc, hP, -⟩ := h.2
  have hlen := wk_len (S := S) (N := N) (K := K) (P := P) (E := cliX buf ed) (k := 613) (p := 3) (by rw [hP]; rfl) rfl rfl
  have hlb : Nat.beq (wkC S N P K (cliX buf ed)).length 613 = true := by rw [hlen]; rfl
  have hvb : Nat.beq ev.length 16 = true := by rw [hev]; rfl
  clear hP hM cN cK
  generalize hC : wkC S N P K (cliX buf ed) = C at *
  refine sc_enter2 Tryz.func7 rfl rfl rfl rfl rfl ?_
  repeat' ((first | (apply g_sl; (first | (apply ks_nil; refine sl_nil ?_) | (apply ks_move; refine s_move rfl rfl ?_) | (apply ks_bin; refine s_bin rfl rfl rfl ?_; (((refine bb_of rfl ?_)))) | (apply ks_load; ((refine s_load rfl rfl ?_; (refine ld_whole hlb ?_)))) | (apply ks_asgn; refine s_asgn rfl rfl ?_) | (apply ks_fn; ((first | refine c_callv rfl rfl rfl (cC _ (fun _ hw => hw.subs (by repeat ((exact Subs.sub (by repeat ((first | exact List.Sublist.refl _ | refine List.Sublist.cons _ ?_)))))))) rfl rfl ?_ | (refine c_call rfl rfl rfl (cL _ (fun _ hw => hw.subs (by repeat ((exact Subs.sub (by repeat ((first | exact List.Sublist.refl _ | refine List.Sublist.cons _ ?_)))))))) rfl rfl ?_; rintro _ _ ⟨S', P', E, rfl, rfl, hE⟩)))) | (apply ks_box; refine c_box rfl rfl rfl rfl rfl rfl (fun _ => ?_)) | (apply ks_alloc; refine c_alloc rfl rfl rfl rfl (fun _ => ?_)))) | (apply sw_seq) | (apply sw_skip) | (apply sw_region) | (refine sw_cd rfl ?_; ((apply gd_ft))) | (apply at_thn)))
  all_goals (skip)
  rename_i b2 b3 b4
  have hlP : P'.length = 3 := by obtain ⟨_, _, _, _, h, -⟩ := hE.2; rw [h]; rfl
  haveI hS' : Len S' 33 := ⟨hE.1.len⟩
  have hl1 := wk_len (S := S') (N := N) (K := K) (P := P') (E := cliX buf ed) (k := 613) hlP rfl rfl
  have hB := workFill _ hl1
  rw [show Value.string ByteArray.empty = Value.string (⟨#[]⟩ : ByteArray) from rfl, wk_snoc] at hB
  have hlP1 : P'.all (·.oneCell') = true := by obtain ⟨_, _, _, _, h, -⟩ := hE.2; rw [h]; rfl
  clear cC cL
  repeat' ((first | (apply g_sl; (first | (apply ks_nil; refine sl_nil ?_) | (apply ks_move; refine s_move rfl rfl ?_) | (apply ks_bin; refine s_bin rfl rfl rfl ?_; ((((refine bb_of rfl ?_))))) | (apply ks_load; (((refine s_load rfl rfl ?_; refine ld_whole hvb ?_)))) | (apply ks_asgn; refine s_asgn rfl rfl ?_) | (apply ks_build; (((refine s_build (c_build (h := workOff) rfl rfl hB) rfl ?_)))) | (apply ks_fn; ((refine c_call rfl rfl rfl (cD _ _ S' P' (hE.mono (fun w hw => hw.sub (List.sublist_append_left E _)))) rfl rfl ?_; rintro _ _ ⟨S2, F, rfl, rfl, hF⟩))) | (apply ks_box; refine c_box rfl rfl rfl rfl rfl rfl (fun _ => ?_)))) | (apply sw_seq) | (apply sw_skip) | ((fail_if_success (refine g_reg (id := 8) ?_)); apply sw_region) | (refine sw_cd rfl ?_; ((apply gd_ft))) | (apply at_thn)))
  all_goals (skip)
  rename_i wb
  have hS2 : Len S2 33 := by
    rcases hF with hF | ⟨rfl, -⟩
    · exact ⟨hF.len⟩
    · exact hS'
  have hS21 : S2.all (·.oneCell') = true := by
    rcases hF with hF | ⟨rfl, -⟩
    · exact hF.one
    · exact hE.1.one
  have hl2 := wk_len (S := S2) (N := N2) (K := K) (P := P') (E := cliX buf2 ed2) (k := 613) hlP rfl rfl
  have hl3 := wk_len (S := S2) (N := N2) (K := K) (P := P') (E := cliW buf2 ed2 sent2) (k := 614) hlP rfl rfl
  have hT := wk_take S2 N2 P' K buf2 sent2 ed2 hl2
  have h613 : (wkC S2 N2 P' K (cliW buf2 ed2 sent2))[613]? = some (.string sent2) := by
    rw [← wk_snoc, List.getElem?_append_right (by rw [hl2]; exact Nat.le_refl _), hl2]
    rfl
  have hone2 : (wkC S2 N2 P' K (cliX buf2 ed2)).all (·.oneCell') = true := big_all rfl hS21 (big_all rfl hN21 (big_all hlP1 hK1 rfl))
  generalize wkC S2 N2 P' K (cliW buf2 ed2 sent2) = W at *
  have hz := cliZ_len
  have hgo : ∀ w, Holds G ((F ++ E) ++ H) w → True := fun _ _ => trivial
  have hC2 : CliS G (F ++ E) s2 S2 P' := by
    refine ⟨?_, ?_⟩
    · rcases hF with hF | ⟨rfl, rfl⟩
      · exact hF.mono (fun w hw => hw.sub (List.sublist_append_left F E))
      · exact hE.1.mono (fun w hw => hw.sub (List.sublist_append_right F E))
    · exact (hE.mono (fun w hw => hw.sub (List.sublist_append_right F E))).2
  generalize hC2e : wkC S2 N2 P' K (cliX buf2 ed2) = C2 at *
  repeat' ((first | (apply g_sl; (first | (apply ks_nil; refine sl_nil ?_) | (apply ks_store; ((((refine c_storewV rfl rfl rfl rfl hone2 hl2 hz rfl ?_))))))) | (apply g_atso; refine so_back (k := 0) (fun _ hw => hw.subs (by repeat ((first | refine Subs.cons (by repeat constructor) ?_ | exact Subs.sub (by repeat ((first | exact List.Sublist.refl _ | refine List.Sublist.cons _ ?_))))))) ?_) | (apply g_sot; (first | (refine sot_skip rfl ?_) | (refine sot_take rfl rfl rfl rfl (by kernel_rfl) (by decide +kernel) (by decide +kernel) ?_; ((first | (apply ky_move; refine sy_val (y_move rfl rfl) ?_) | (apply ky_load; ((refine sy_load rfl ?_; (first | refine ld_part hT rfl ?_ | refine ld_cell h613 ?_)))) | (apply ky_asgn; refine sy_val (y_assign rfl rfl) ?_) | (apply ky_field; (refine sy_val (c_field0 rfl rfl) ?_)) | (apply ky_nilc; refine sy_val (y_nilCheck rfl rfl) ?_)))) | (refine sot_next rfl ?_) | (refine so_done (by decide +kernel) ?_) | (refine sot_all (by kernel_rfl) ?_))) | (apply g_soa; (first | (refine soa_end rfl) | (refine soa_no (by decide +kernel) ?_) | (refine soa_yes rfl ?_ ?_))) | (apply sw_ret) | (apply at_thn) | ((refine g_reg (id := 8) ?_; refine c_drawnoB (b := b4) ?_))))
  all_goals
    refine e_scc ((F ++ E) ++ H) (by (exact .inr rfl)) rfl hl2 rfl ?_ ⟨S2, P', F ++ E, by rw [hC2e]; rfl, rfl, hC2⟩
  all_goals exact fun w hw => hw.sub (by
    rw [List.append_assoc]
    exact List.Sublist.cons _ (List.Sublist.cons _ ((List.Sublist.refl F).append ((List.Sublist.refl E).append (List.Sublist.cons _ (List.Sublist.cons _ (List.Sublist.refl H)))))))
end Go.Proofs.YtmbfechiallppaaGreatDoor
end
section
namespace Go.Proofs.YtmbfechiallppaaGreatDoor
open Go Go.RowKit Go.Fw Go.Sx
set_option maxRecDepth 100000
set_option maxHeartbeats 2000000
instance paDec : DecidableEq Pa :=
  @instDecidableEqProd _ _ inferInstance (@instDecidableEqProd _ _ inferInstance (@instDecidableEqProd _ _ inferInstance (@instDecidableEqProd _ _ inferInstance (@instDecidableEqProd _ _ inferInstance inferInstance))))
theorem runP_c (c : Nat) (h : 32 ≤ c ∧ c ≤ 126) : (runP p00 [(c : Int)]).2 = [(1, (c : Int), 0, e0, [], e0)] := by
  have key : ∀ i < 95, (runP p00 [((32 + i : Nat) : Int)]).2 = [(1, ((32 + i : Nat) : Int), 0, e0, [], e0)] := by decide +kernel
  have := key (c - 32) (by omega)
  rwa [show 32 + (c - 32) = c from by omega] at this
theorem runP_n : (runP p00 [13, 10]).2 = [(2, 13, 0, e0, [], e0), (2, 10, 0, e0, [], e0)] := by decide +kernel
theorem width_c (c : Nat) (h : 32 ≤ c ∧ c ≤ 126) : refWidth (c : Int) = 1 := by
  have key : ∀ i < 95, refWidth ((32 + i : Nat) : Int) = 1 := by decide +kernel
  have := key (c - 32) (by omega)
  rwa [show 32 + (c - 32) = c from by omega] at this
theorem feedU_c (c : Nat) (h : 32 ≤ c ∧ c ≤ 126) : feedU ⟨#[]⟩ ⟨#[UInt8.ofNat c]⟩ = (⟨#[]⟩, [(c : Int)], 0) := by
  have key : ∀ i < 95, feedU ⟨#[]⟩ ⟨#[UInt8.ofNat (32 + i)]⟩ = (⟨#[]⟩, [((32 + i : Nat) : Int)], 0) := by decide +kernel
  have := key (c - 32) (by omega)
  rwa [show 32 + (c - 32) = c from by omega] at this
theorem feedU_n : feedU ⟨#[]⟩ ⟨#[13, 10]⟩ = (⟨#[]⟩, [13, 10], 0) := by decide +kernel
theorem key_c (c : Nat) (h : 32 ≤ c ∧ c ≤ 126) : plainB 0 (c : Int) 0 0 = ⟨#[UInt8.ofNat c]⟩ := by
  have key : ∀ i < 95, plainB 0 ((32 + i : Nat) : Int) 0 0 = ⟨#[UInt8.ofNat (32 + i)]⟩ := by decide +kernel
  have := key (c - 32) (by omega)
  rwa [show 32 + (c - 32) = c from by omega] at this
theorem keys_ok : keysE (kSet fun _ => true) = 0 := by decide +kernel
theorem keys_oct : ∀ x ∈ kSet fun _ => true, Oct x := by
  have key : ∀ x ∈ kSet fun _ => true, 0 ≤ x ∧ x ≤ 255 := by decide +kernel
  exact key
theorem bit0 (b : Nat) : bitB [0, 0, 0, 0] b = false := by
  unfold bitB
  have h : ([0, 0, 0, 0] : List Int).getD (b / 64) 0 = 0 := by
    rcases (show b / 64 = 0 ∨ b / 64 = 1 ∨ b / 64 = 2 ∨ b / 64 = 3 ∨ 4 ≤ b / 64 by omega) with h | h | h | h | h
    · rw [h]; rfl
    · rw [h]; rfl
    · rw [h]; rfl
    · rw [h]; rfl
    · rw [List.getD_eq_getElem?_getD, List.getElem?_eq_none (by simpa using h)]; rfl
  rw [h]
  simp
theorem keyI_all : keyI (kSet fun _ => true) 14 = 22 ∧ keyI (kSet fun _ => true) 10 = 127 ∧ keyI (kSet fun _ => true) 12 = 23 ∧ keyI (kSet fun _ => true) 11 = 21 ∧ keyI (kSet fun _ => true) 13 = 18 ∧ keyI (kSet fun _ => true) 17 < 0 ∧ keyI (kSet fun _ => true) 18 < 0 := by decide +kernel
theorem empty_cat (x : ByteArray) : (⟨#[]⟩ : ByteArray) ++ x = x := by
  exact ByteArray.empty_append
theorem str1 (c : Nat) : strOfNums [(c : Int)] = ⟨#[UInt8.ofNat c]⟩ := rfl
theorem lineU_c (buf : ByteArray) (c : Nat) (h : 32 ≤ c ∧ c ≤ 126) (hb : buf.size + 1 < 1024) : lineU (kSet fun _ => true) [0, 0, 0, 0] buf false ⟨#[UInt8.ofNat c]⟩ = ((buf ++ ⟨#[UInt8.ofNat c]⟩, false, [], ⟨#[UInt8.ofNat c]⟩), 0) := by
  have hz : (⟨#[UInt8.ofNat c]⟩ : ByteArray).size = 1 := rfl
  have hn : nums ⟨#[UInt8.ofNat c]⟩ = [(c : Int)] := by
    show [((UInt8.ofNat c).toNat : Int)] = _
    rw [show (UInt8.ofNat c).toNat = c from by simp; omega]
  obtain ⟨k1, k2, k3, k4, k5, k6, k7⟩ := keyI_all
  unfold lineU
  rw [if_neg (by omega), if_neg (by rw [keys_ok]; simp), if_neg (by omega), hn]
  unfold typeU
  rw [List.foldl_cons, List.foldl_nil]
  unfold stepT
  dsimp only
  rw [bit0]
  have ht : typedU (kSet fun _ => true) false buf false (c : Int) = (buf ++ strOfNums [(c : Int)], false, ⟨#[]⟩, strOfNums [(c : Int)]) := by
    unfold typedU
    rw [if_neg (by decide), if_neg (by omega), if_neg (by omega), if_neg (by omega), if_neg (by omega), if_neg (by omega), if_neg]
    rintro (e | e | e | e | e | e)
    · rw [ByteArray.size_append, str1, hz] at e; omega
    · omega
    · omega
    · omega
    · omega
    · cases e
  rw [ht]
  dsimp only
  rw [if_pos rfl, str1, empty_cat]
theorem lineU_n (buf : ByteArray) (hb : buf.size < 1024) : lineU (kSet fun _ => true) [0, 0, 0, 0] buf false ⟨#[13]⟩ = ((⟨#[]⟩, false, [buf ++ ⟨#[13]⟩], ⟨#[13]⟩), 0) := by
  obtain ⟨k1, k2, k3, k4, k5, k6, k7⟩ := keyI_all
  have hz : (⟨#[13]⟩ : ByteArray).size = 1 := rfl
  have hn : nums ⟨#[13]⟩ = [(13 : Int)] := rfl
  unfold lineU
  rw [if_neg (by omega), if_neg (by rw [keys_ok]; simp), if_neg (by omega), hn]
  unfold typeU
  rw [List.foldl_cons, List.foldl_nil]
  unfold stepT
  dsimp only
  rw [bit0]
  have ht : typedU (kSet fun _ => true) false buf false 13 = (⟨#[]⟩, false, buf ++ strOfNums [(13 : Int)], strOfNums [(13 : Int)]) := by
    unfold typedU
    rw [if_neg (by decide), if_neg (by omega), if_neg (by omega), if_neg (by omega), if_neg (by omega), if_neg (by omega), if_pos (.inr (.inl rfl))]
  rw [ht]
  dsimp only
  rw [if_neg, empty_cat]
  · rfl
  · intro e
    have := congrArg ByteArray.size e
    rw [ByteArray.size_append] at this
    have h1 : (strOfNums [(13 : Int)]).size = 1 := rfl
    have h2 : (⟨#[]⟩ : ByteArray).size = 0 := rfl
    omega
end Go.Proofs.YtmbfechiallppaaGreatDoor
end
section
namespace Go.Proofs.YtmbfechiallppaaGreatDoor
open Go Go.RowKit Go.Fw Go.Sx
set_option maxRecDepth 100000
set_option maxHeartbeats 2000000
/-- Texts of plain bytes. -/
def plainT (t : ByteArray) : Prop := ∀ b ∈ t.data.toList, 32 ≤ b.toNat ∧ b.toNat ≤ 126
theorem flat_id {g : UInt8 → List UInt8} : ∀ (l : List UInt8), (∀ b ∈ l, g b = [b]) → l.flatMap g = l
  | [], _ => rfl
  | b :: l, h => by
    rw [List.flatMap_cons, h b List.mem_cons_self, flat_id l fun x hx => h x (List.mem_cons_of_mem _ hx)]
    rfl
theorem u8_ne {b : UInt8} {n : Nat} (h : 32 ≤ b.toNat ∧ b.toNat ≤ 126) (hn : n < 32 ∨ n = 255) : b ≠ UInt8.ofNat n := by
  intro e
  rw [e] at h
  rcases hn with hn | rfl
  · rw [show (UInt8.ofNat n).toNat = n from by simp; omega] at h
    omega
  · exact absurd h.2 (by decide)
theorem echo_c (c : Nat) (h : 32 ≤ c ∧ c ≤ 126) : (⟨((⟨#[UInt8.ofNat c]⟩ : ByteArray).data.toList.flatMap (fun b => if b = 13 then [13, 10] else [b])).toArray⟩ : ByteArray) = ⟨#[UInt8.ofNat c]⟩ := by
  have h1 : UInt8.ofNat c ≠ 13 := u8_ne (n := 13) (by rw [show (UInt8.ofNat c).toNat = c from by simp; omega]; exact h) (.inl (by decide))
  show (⟨([UInt8.ofNat c].flatMap (fun b => if b = 13 then [13, 10] else [b])).toArray⟩ : ByteArray) = _
  rw [flat_id _ fun b hb => by rw [List.mem_singleton] at hb; subst hb; rw [if_neg h1]]
theorem echo_n : (⟨((⟨#[13]⟩ : ByteArray).data.toList.flatMap (fun b => if b = 13 then [13, 10] else [b])).toArray⟩ : ByteArray) = ⟨#[13, 10]⟩ := rfl
theorem data_app (t : ByteArray) (l : List UInt8) : (t ++ ⟨l.toArray⟩ : ByteArray) = ⟨(t.data.toList ++ l).toArray⟩ := by
  apply ByteArray.ext
  rw [ByteArray.data_append]
  apply Array.toList_inj.1
  simp
theorem line_1 (t : ByteArray) (h : plainT t) : (⟨((t ++ ⟨#[13]⟩ : ByteArray).data.toList.flatMap (fun b => if b = 13 then [10] else [b])).toArray⟩ : ByteArray) = t ++ ⟨#[10]⟩ := by
  rw [show (⟨#[13]⟩ : ByteArray) = ⟨[13].toArray⟩ from rfl, show (⟨#[10]⟩ : ByteArray) = ⟨[10].toArray⟩ from rfl, data_app, data_app]
  simp only [List.flatMap_append]
  rw [flat_id t.data.toList fun b hb => by rw [if_neg (show b ≠ 13 from u8_ne (n := 13) (h b hb) (.inl (by decide)))]]
  rfl
theorem strOf_u8s (l : List UInt8) : strOfNums (u8s l) = ⟨l.toArray⟩ := by
  unfold strOfNums u8s
  rw [List.map_map]
  congr 2
  refine (List.map_congr_left fun b _ => ?_).trans (List.map_id _)
  simp
theorem line_2 (t : ByteArray) (h : plainT t) : strOfNums (u8s ((t ++ ⟨#[10]⟩ : ByteArray).data.toList.flatMap outB)) = t ++ ⟨#[13, 10]⟩ := by
  rw [strOf_u8s, show (⟨#[10]⟩ : ByteArray) = ⟨[10].toArray⟩ from rfl, show (⟨#[13, 10]⟩ : ByteArray) = ⟨[13, 10].toArray⟩ from rfl, data_app, data_app]
  simp only [List.flatMap_append]
  rw [flat_id t.data.toList fun b hb => by unfold outB; rw [if_neg (show b ≠ 10 from u8_ne (n := 10) (h b hb) (.inl (by decide))), if_neg (show b ≠ 13 from u8_ne (n := 13) (h b hb) (.inl (by decide)))]]
  rfl
theorem line_3 (t : ByteArray) (h : plainT t) : escS (t ++ ⟨#[13, 10]⟩) = t ++ ⟨#[13, 10]⟩ := by
  unfold escS esc2
  rw [show (⟨#[13, 10]⟩ : ByteArray) = ⟨[13, 10].toArray⟩ from rfl, data_app]
  simp only [List.flatMap_append]
  rw [flat_id t.data.toList fun b hb => by rw [if_neg (show b ≠ 255 from u8_ne (n := 255) (h b hb) (.inr rfl))]]
  rfl
end Go.Proofs.YtmbfechiallppaaGreatDoor
end
section
namespace Go.Proofs.YtmbfechiallppaaGreatDoor
open Go Go.RowKit Go.Fw Go.Sx
set_option maxRecDepth 100000
set_option maxHeartbeats 1000000
attribute [local irreducible] SW SL SQ AtQ SV SC BB LD PK Yields SO SOT SOA SY
instance : ZeroT Tryz.prog 41 (List.replicate 256 (.int .u8 0)) := ⟨_, show still Tryz.prog (zeroValue 41) = some (.agg (List.replicate 256 (.int .u8 0)).toArray) by kernel_rfl, .agg _⟩
instance : ZeroT Tryz.prog 43 (List.replicate 512 (Value.int .u8 0) ++ List.replicate 8 (Value.int .u64 0)) := ⟨_, show still Tryz.prog (zeroValue 43) = some (.agg (List.replicate 512 (Value.int .u8 0) ++ List.replicate 8 (Value.int .u64 0)).toArray) by kernel_rfl, .agg _⟩
instance : OffsT Tryz.prog 195 (arrOffs 2 256) (List.replicate 512 (.int .u8 0)) := ⟨fun i => some (i * 256, 256), fun _ => by kernel_rfl, arrOffs_at 2 256⟩
attribute [local irreducible] negC
theorem neg_pj (W : List Int) (hW : W.length = 512) (j : Nat) (hj : j < 2) : take? ((octs ((W.drop 0).take 256) ++ octs ((W.drop 256).take 256)).drop ((j : Int).toNat * 256)) 256 = some (octs ((W.drop (256 * j)).take 256)) := by
  rw [Int.toNat_natCast, take?_take _ _ (by simp [octs, hW]; omega)]
  rcases (show j = 0 ∨ j = 1 by omega) with rfl | rfl
  · rw [Nat.zero_mul, List.drop_zero, List.take_append_of_le_length (by simp [octs, hW])]
    simp [octs, List.map_take, List.take_take]
  · rw [Nat.one_mul, List.drop_append_of_le_length (by simp [octs, hW]), List.drop_eq_nil_of_le (by simp [octs, hW]), List.nil_append, List.take_of_length_le (by simp [octs, hW])]
theorem neg_ij (W : List Int) (hW : W.length = 512) (j i : Nat) (hj : j < 2) (hi : i < 256) : (octs ((W.drop (256 * j)).take 256))[(i : Int).toNat]? = some (.int .u8 (W.getD (256 * j + i) 0)) := by
  rw [Int.toNat_natCast, octs_at _ _ (by simp [hW]; omega)]
  simp only [List.getD_eq_getElem?_getD, List.getElem?_take_of_lt hi, List.getElem?_drop]
theorem neg_oj (W : List Int) (j : Nat) : (octs ((W.drop (256 * j)).take 256)).all (·.oneCell') = true := octs_one _
theorem neg_bj (W : List Int) (hW : W.length = 512) (j : Nat) (hj : j < 2) : Nat.beq (octs ((W.drop (256 * j)).take 256)).length 256 = true := by
  rw [octs_len, List.length_take, List.length_drop, hW, show min 256 (512 - 256 * j) = 256 from by omega]; rfl
theorem negCheck_sv (G : Ctx) (H : List Ent) (W X : List Int) (hW : W.length = 512) (hX : X.length = 8) (hO : ∀ x ∈ W, Oct x) : SV Tryz.prog G 53 [negV W X] H (.int .i64 (negE W)) := by
  have p0 := neg_part X hW 0 (by omega)
  have p1 := neg_part X hW 256 (by omega)
  have ck := fun H s b hb => knownN_sv G H s b hb
  refine sv_enter1 Tryz.func53 rfl rfl rfl rfl rfl ?_
  repeat' ((first | (apply g_sl; (first | (apply ks_nil; refine sl_nil ?_) | (apply ks_move; refine s_move rfl rfl ?_) | (apply ks_load; (((refine s_load rfl rfl ?_; (first | refine ld_part p0 rfl ?_ | refine ld_part p1 rfl ?_))))) | (apply ks_asgn; refine s_asgn rfl rfl ?_) | (apply ks_field; (refine s_field (c_field0 rfl rfl) rfl ?_)) | (apply ks_build; (((refine s_build (c_build rfl rfl (fill2 rfl rfl (by omega) (by simp) (by simp [octs, hW]) (by simp [octs, hW]))) rfl ?_)))) | (apply ks_box; refine c_box rfl rfl rfl rfl rfl rfl (fun _ => ?_)))) | (apply sw_seq) | (apply sw_block) | (apply sw_region) | (apply at_thn)))
  have hpj := neg_pj W hW
  have hij := neg_ij W hW
  have hbj := neg_bj W hW
  have Hbj := Lib.hid hbj
  have hoc := fun k => oct_getD hO k
  have Hpj := Lib.hid hpj
  have Hij := Lib.hid hij
  have Hoc := Lib.hid hoc
  clear hpj hij hbj hoc hO p0 p1 hW hX
  generalize hR : octs ((W.drop 0).take 256) ++ octs ((W.drop 256).take 256) = R at *
  clear hR
  refine sw_loopg (α := Nat) (fun j => [(11, .agg R.toArray), (12, .int .i64 j)]) (fun _ => H)
    (fun j => j ≤ 2 ∧ ∀ i, i < 256 * j → 0 ≤ W.getD i 0 ∧ W.getD i 0 ≤ 5) (fun j => 2 - j) 0 ⟨Nat.zero_le _, fun i hi => absurd hi (Nat.not_lt_zero _)⟩ (by repeat ((first | exact Le.nil _ | refine Le.cons (by (rfl)) ?_))) (fun _ hw => hw.subs (by repeat ((exact Subs.sub (by repeat ((first | exact List.Sublist.refl _ | refine List.Sublist.cons _ ?_))))))) ?_
  rintro j ⟨hj, hs⟩
  by_cases hlt : (j : Int) < 2
  · have hp := Hpj.out j (by omega)
    have Hs := Lib.hid hs
    clear hs
    have hb := Hbj.out j (by omega)
    have ho1 := neg_oj W j
    have hij := fun i h => Hij.out j i (by omega) h
    have Hij2 := Lib.hid hij
    clear hij
    generalize octs ((W.drop (256 * j)).take 256) = L at *
    repeat' ((first | (apply g_sl; (first | (apply ks_nil; refine sl_nil ?_) | (apply ks_move; refine s_move rfl rfl ?_) | (apply ks_bin; refine s_bin rfl rfl rfl ?_; ((((refine bb_of rfl ?_))))) | (apply ks_load; (((refine s_load rfl rfl ?_; refine ld_whole hb ?_)))) | (apply ks_index; (((refine s_index (c_indexArrA rfl rfl rfl (by omega) (by omega) hp) rfl ?_)))) | (apply ks_store; ((((refine c_storew rfl rfl rfl rfl (by assumption) hb (by decide) rfl ?_))))) | (apply ks_alloc; refine c_alloc rfl rfl rfl rfl (fun _ => ?_)))) | (apply sw_seq) | (apply sw_skip) | (apply sw_block) | (apply sw_region) | (refine sw_cd rfl ?_; ((apply gd_dec_t <;> intro hq <;> (try (exfalso; omega))))) | (apply at_thn)))
    refine sw_loopg (α := Nat) (fun i => [(11, .agg R.toArray), (12, .int .i64 j), (15, .agg L.toArray), (16, .int .i64 i)]) (fun _ => H)
      (fun i => i ≤ 256 ∧ ∀ k, k < 256 * j + i → 0 ≤ W.getD k 0 ∧ W.getD k 0 ≤ 5) (fun i => 256 - i) 0 ⟨Nat.zero_le _, fun k hk => Hs.out k (by omega)⟩ (by repeat ((first | exact Le.nil _ | refine Le.cons (by (rfl)) ?_))) (fun _ hw => hw.subs (by repeat ((exact Subs.sub (by repeat ((first | exact List.Sublist.refl _ | refine List.Sublist.cons _ ?_))))))) ?_
    rintro i ⟨hi, hs2⟩
    have Hs2 := Lib.hid hs2
    clear hs2
    by_cases hlt2 : (i : Int) < 256
    · have hv := Hij2.out i (by omega)
      have ho := Hoc.out (256 * j + i)
      obtain ⟨ho1, ho2⟩ := ho
      generalize hx : W.getD (256 * j + i) 0 = x at *
      by_cases hk : 0 ≤ x ∧ x ≤ 5
      · have c := fun H => ck H x true (by simpa using hk)
        repeat' ((first | (apply g_sl; (first | (apply ks_nil; refine sl_nil ?_) | (apply ks_move; refine s_move rfl rfl ?_) | (apply ks_bin; refine s_bin rfl rfl rfl ?_; (((first | (apply kb_add; (refine bb_add ⟨by omega, by omega⟩ ?_)) | refine bb_of rfl ?_)))) | (apply ks_asgn; refine s_asgn rfl rfl ?_) | (apply ks_un; refine s_un (y_un rfl rfl rfl) rfl ?_) | (apply ks_conv; (refine s_conv (c_conv (k := .i64) rfl rfl ⟨by omega, by omega⟩) rfl ?_)) | (apply ks_index; ((refine s_index (c_indexArr rfl rfl rfl (by omega) (by omega) hv) rfl ?_))) | (apply ks_fn; (refine c_callv rfl rfl rfl (c _) rfl rfl ?_)))) | (apply sw_seq) | (apply sw_skip) | (apply sw_block) | (apply sw_region) | (refine sw_cd rfl ?_; (first | (apply gd_ft) | (apply gd_dec_t <;> intro hq <;> (try (exfalso; omega))))) | (apply at_thn) | (apply at_inb)))
        refine at_meet (i + 1) ⟨⟨by omega, fun k hk2 => ?_⟩, by omega⟩ (by repeat ((first | exact Le.nil _ | refine Le.cons (by (rfl)) ?_))) (fun _ hw => hw.subs (by repeat ((exact Subs.sub (by repeat ((exact List.Sublist.refl _)))))))
        rcases Nat.lt_or_ge k (256 * j + i) with h | h
        · exact Hs2.out k h
        · obtain rfl : k = 256 * j + i := by omega
          rw [hx]; exact hk
      · have c := fun H => ck H x false (by simpa using hk)
        repeat' ((first | (apply g_sl; (first | (apply ks_nil; refine sl_nil ?_) | (apply ks_move; refine s_move rfl rfl ?_) | (apply ks_bin; refine s_bin rfl rfl rfl ?_; (((refine bb_of rfl ?_)))) | (apply ks_asgn; refine s_asgn rfl rfl ?_) | (apply ks_un; refine s_un (y_un rfl rfl rfl) rfl ?_) | (apply ks_conv; (refine s_conv (c_conv (k := .i64) rfl rfl ⟨by omega, by omega⟩) rfl ?_)) | (apply ks_index; ((refine s_index (c_indexArr rfl rfl rfl (by omega) (by omega) hv) rfl ?_))) | (apply ks_fn; (refine c_callv rfl rfl rfl (c _) rfl rfl ?_)))) | (apply sw_seq) | (apply sw_skip) | (apply sw_ret) | (apply sw_block) | (apply sw_region) | (refine sw_cd rfl ?_; (first | (apply gd_t) | (apply gd_dec_t <;> intro hq <;> (try (exfalso; omega))))) | (apply at_thn) | (apply at_thn_ret) | (apply at_inb_ret)))
        refine e_sv (by (exact .inr rfl)) rfl (by repeat ((exact List.Sublist.refl _))) ?_
        rw [negE_bad (256 * j + i) (by omega) (by rw [hx]; exact hk)]; rfl
    · obtain rfl : i = 256 := by omega
      repeat' ((first | (apply g_sl; (first | (apply ks_nil; refine sl_nil ?_) | (apply ks_move; refine s_move rfl rfl ?_) | (apply ks_bin; refine s_bin rfl rfl rfl ?_; (((first | (apply kb_add; (refine bb_add ⟨by omega, by omega⟩ ?_)) | refine bb_of rfl ?_)))))) | (apply sw_seq) | (apply sw_exit) | (apply sw_region) | (refine sw_cd rfl ?_; ((apply gd_ft))) | (apply at_thn) | (apply at_thn_exit) | (apply at_inb) | (apply at_inb_exit)))
      exact at_meet (j + 1) ⟨⟨by omega, fun k hk => Hs2.out k (by omega)⟩, by omega⟩ (by repeat ((first | exact Le.nil _ | refine Le.cons (by (rfl)) ?_))) (fun _ hw => hw.subs (by repeat ((exact Subs.sub (by repeat ((exact List.Sublist.refl _)))))))
  · obtain rfl : j = 2 := by omega
    repeat' ((first | (apply g_sl; (first | (apply ks_nil; refine sl_nil ?_) | (apply ks_bin; refine s_bin rfl rfl rfl ?_; (((refine bb_of rfl ?_)))) | (apply ks_asgn; refine s_asgn rfl rfl ?_))) | (apply sw_seq) | (apply sw_ret) | (apply sw_exit) | (apply sw_region) | (refine sw_cd rfl ?_; ((apply gd_ft))) | (apply at_thn) | (apply at_thn_exit) | (apply at_inb_exit)))
    refine e_sv (by (exact .inr rfl)) rfl (by repeat ((exact List.Sublist.refl _))) ?_
    rw [negE_ok hs]; rfl
end Go.Proofs.YtmbfechiallppaaGreatDoor
end
section
namespace Go.Fw
open Go Go.RowKit Go.Sx
/-- Where a state lies. -/
def negP (us : Bool) (opt : Int) : Nat := if us then opt.toNat else 256 + opt.toNat
theorem neg_all (W X : List Int) : (negC W X).all (·.oneCell') = true := by
  unfold negC wds octs
  rw [List.all_append, Bool.and_eq_true]
  exact ⟨by rw [List.all_map]; exact List.all_eq_true.2 fun _ _ => rfl, by rw [List.all_map]; exact List.all_eq_true.2 fun _ _ => rfl⟩
end Go.Fw
namespace Go.Proofs.YtmbfechiallppaaGreatDoor
open Go Go.RowKit Go.Fw Go.Sx
set_option maxRecDepth 100000
set_option maxHeartbeats 1000000
attribute [local irreducible] SW SL SQ AtQ SV SC BB LD PK Yields SO SOT SOA SY
attribute [local irreducible] negC
end Go.Proofs.YtmbfechiallppaaGreatDoor
end
section
namespace Go.Fw
open Go Go.RowKit Go.Sx
def tokNC (kd cmd opt : Int) (d : ByteArray) : List Value := [.int .i64 kd, .int .i64 cmd, .int .i64 opt, .string d]
abbrev tokNV (kd cmd opt : Int) (d : ByteArray) : Value := .agg (tokNC kd cmd opt d).toArray
/-- The bit of an option in a set of four words. -/
def mayB (V : List Int) (opt : Int) : Bool := V.getD (opt / 64).toNat 0 / pw (opt % 64).toNat % 2 == 1
theorem wds_at {V : List Int} (k : Nat) (h : k < V.length) : (wds V)[k]? = some (.int .u64 (V.getD k 0)) := by
  unfold wds
  rw [List.getElem?_map, List.getElem?_eq_getElem h, List.getD_eq_getElem?_getD, List.getElem?_eq_getElem h]
  rfl
theorem wds_len (V : List Int) : (wds V).length = V.length := by simp [wds]
theorem wds_one (V : List Int) : (wds V).all (·.oneCell') = true := by
  unfold wds
  rw [List.all_map]
  exact List.all_eq_true.2 fun _ _ => rfl
def w64 (x : Int) : Prop := 0 ≤ x ∧ x ≤ 18446744073709551615
theorem w64_getD {V : List Int} (h : ∀ x ∈ V, w64 x) (k : Nat) : w64 (V.getD k 0) := by
  rw [List.getD_eq_getElem?_getD]
  cases hq : V[k]? with
  | none => exact ⟨by decide, by decide⟩
  | some x => exact h x (List.mem_of_getElem? hq)
/-- What a command does. -/
def heardR (W X : List Int) (us on : Bool) (opt : Int) : Int × Int × Bool := hearN (W.getD (negP us opt) 0) on (mayB ((X.drop (if us then 0 else 4)).take 4) opt)
def heardL (W X : List Int) (us on : Bool) (opt : Int) : List Int := W.set (negP us opt) (heardR W X us on opt).1
def heardT (W X : List Int) (us on : Bool) (opt : Int) : ByteArray := strOfNums (spokeL us (heardR W X us on opt).2.1 opt)
def heardV (W X : List Int) (us on : Bool) (opt : Int) : Value := .tuple #[negV (heardL W X us on opt) X, .string (heardT W X us on opt)]
def cmdOf (us on : Bool) : Int := if us then (if on then 253 else 254) else (if on then 251 else 252)
end Go.Fw
namespace Go.Proofs.YtmbfechiallppaaGreatDoor
open Go Go.RowKit Go.Fw Go.Sx
set_option maxRecDepth 100000
set_option maxHeartbeats 1000000
attribute [local irreducible] SW SL SQ AtQ SV SC BB LD PK Yields SO SOT SOA SY
theorem neg_words {W X : List Int} (hW : W.length = 512) (k : Nat) (hk : k + 4 ≤ X.length) : take? ((negC W X).drop (512 + k)) 4 = some (wds ((X.drop k).take 4)) := by
  unfold negC octs wds
  rw [List.drop_append, List.drop_eq_nil_of_le (by simp [hW]), List.nil_append, take?_take _ _ (by simp [hW]; omega)]
  simp [hW, List.map_take, List.map_drop]
theorem bb_seqT {P : Program} {t : TypeId} {x y : Operand} {K : Value → Prop} {a b : ByteArray} (h : a = b) (hk : K (.bool true)) : BB P .eql t x y (.string a) (.string b) K := bb_seq (by rw [decide_eq_true h]; exact hk)
attribute [local irreducible] negC wds
theorem negHears_sv (G : Ctx) (H : List Ent) (W X : List Int) (us on : Bool) (kd opt : Int) (d : ByteArray) (hW : W.length = 512) (hX : X.length = 8) (hx64 : ∀ x ∈ X, w64 x) (he : negE W = 0) (ho : 0 ≤ opt ∧ opt ≤ 255) : SV Tryz.prog G 99 [negV W X, tokNV kd (cmdOf us on) opt d] H (heardV W X us on opt) := by
  obtain ⟨h3, h4⟩ := ho
  have hb := neg_b hW hX
  have hl := negC_len hW hX
  have hp : negP us opt < 512 := by unfold negP; split <;> omega
  have hv := neg_at X hW (negP us opt) hp
  have hq := negE_at he _ hp
  have hset := fun v => neg_set X hW (negP us opt) hp v
  have hb2 : ∀ v, Nat.beq ((negC W X).set (negP us opt) (.int .u8 v)).length 520 = true := fun v => by rw [List.length_set]; exact hb
  have ho2 : ∀ v, ((negC W X).set (negP us opt) (.int .u8 v)).all (·.oneCell') = true := fun v => by rw [hset]; exact neg_all _ _
  have hl2 : negP us opt < (negC W X).length := by rw [hl]; omega
  have q0 := neg_words hW (X := X) 0 (by omega)
  have q1 := neg_words hW (X := X) 4 (by omega)
  have hV : ((X.drop (if us then 0 else 4)).take 4).length = 4 := by split <;> simp [hX]
  have hwv : (wds ((X.drop (if us then 0 else 4)).take 4))[0 + (opt / 64).toNat * 1]? = some (.int .u64 (((X.drop (if us then 0 else 4)).take 4).getD (opt / 64).toNat 0)) := by
    rw [wds_at _ (by omega), Nat.zero_add, Nat.mul_one]
  have hw := w64_getD (fun x hx => hx64 x (List.mem_of_mem_drop (List.mem_of_mem_take hx))) (V := (X.drop (if us then 0 else 4)).take 4) (opt / 64).toNat
  have hk : ∀ V : List Int, V.length = 4 → Nat.beq (wds V).length 4 = true := fun V h => by rw [wds_len, h]; rfl
  have r0 := hk ((X.drop 0).take 4) (by simp [hX])
  have r1 := hk ((X.drop 4).take 4) (by simp [hX])
  have t0 := wds_one ((X.drop 0).take 4)
  have t1 := wds_one ((X.drop 4).take 4)
  have hP0 : us = true → negP us opt = 0 + opt.toNat * 1 := fun h => by rw [h]; unfold negP; simp
  have hP1 : us = false → negP us opt = 256 + opt.toNat * 1 := fun h => by rw [h]; unfold negP; simp
  unfold heardV heardL heardT heardR mayB
  clear hk he hx64
  generalize hX0 : (X.drop 0).take 4 = V0 at *
  generalize hX1 : (X.drop 4).take 4 = V1 at *
  generalize W.getD (negP us opt) 0 = x at *
  generalize hy : ((X.drop (if us then 0 else 4)).take 4).getD (opt / 64).toNat 0 = y at *
  obtain ⟨hq1, hq2⟩ := id hq
  obtain ⟨w1, w2⟩ := hw
  have hd := pdiv_bd (opt % 64).toNat w1
  obtain ⟨d1, d2⟩ := hd
  have cH := fun H => hearN_sv G H x on (y / pw (opt % 64).toNat % 2 == 1) hq
  have hbd := hearN_bd x on (y / pw (opt % 64).toNat % 2 == 1)
  generalize hearN x on (y / pw (opt % 64).toNat % 2 == 1) = r at *
  obtain ⟨s', m, e⟩ := r
  obtain ⟨b1, b2, b3, b4⟩ := hbd
  have cB := fun H => negBytes_sv G H us m opt ⟨b3, b4⟩ ⟨h3, h4⟩
  clear hW hX hV hq
  generalize negP us opt = p at *
  cases us <;> cases on
  · obtain rfl := hP1 rfl
    clear hP0 hP1
    simp only [Bool.false_eq_true, if_false] at hwv hy
    rw [hX1] at hwv
    refine sv_enter2 Tryz.func99 rfl rfl rfl rfl rfl ?_
    repeat' ((first | (apply g_sl; (first | (apply ks_nil; refine sl_nil ?_) | (apply ks_move; refine s_move rfl rfl ?_) | (apply ks_bin; refine s_bin rfl rfl rfl ?_; (((refine bb_of rfl ?_)))) | (apply ks_load; ((refine s_load rfl rfl ?_; (refine ld_cell rfl ?_)))) | (apply ks_asgn; refine s_asgn rfl rfl ?_) | (apply ks_pick; refine s_pick rfl rfl ?_; ((apply kp_f; refine pk_f rfl ?_))) | (apply ks_field; (refine s_field (c_field0 rfl rfl) rfl ?_)) | (apply ks_box; refine c_box rfl rfl rfl rfl rfl rfl (fun _ => ?_)) | (apply ks_alloc; refine c_alloc rfl rfl rfl rfl (fun _ => ?_)) | (apply ks_guard; ((refine sl_gd rfl rfl rfl rfl ?_; ((apply gd_t))))))) | (apply sw_seq) | ((fail_if_success (refine g_reg (id := 3) ?_)); apply sw_region) | (apply at_thn)))
    rename_i b2 b3 b4
    repeat' ((first | (apply g_sl; (first | (apply ks_nil; refine sl_nil ?_) | (apply ks_move; refine s_move rfl rfl ?_) | (apply ks_load; (first | (refine s_load rfl rfl ?_; (refine ld_cell rfl ?_)) | ((refine s_load rfl rfl ?_; (refine ld_whole (hb2 _) ?_))))) | (apply ks_conv; ((refine s_conv (c_conv (k := .u8) rfl rfl ⟨by omega, by omega⟩) rfl ?_))) | (apply ks_nilc; refine s_nilc (y_nilCheck rfl rfl) rfl ?_) | (apply ks_fn; ((refine c_callv rfl rfl rfl (cB _) rfl rfl ?_))) | (apply ks_store; (((first | (refine c_storew rfl rfl rfl rfl (by (first | exact t1 | exact ho2 _)) (by (first | exact r1 | exact hb2 _)) (by (rfl)) rfl ?_) | (refine c_storek rfl rfl rfl rfl rfl hl2 rfl ?_))))) | (apply ks_alloc; refine c_alloc rfl rfl rfl rfl (fun _ => ?_)))) | (apply g_sq; (first | (apply kq_nil; refine sq_nil ?_) | (apply kq_move; refine q_move rfl rfl ?_) | (apply kq_bin; refine q_bin rfl rfl rfl ?_; ((first | (refine bb_shrN (by omega) (by show (opt % 64).toNat ≤ 64; omega) ?_) | (refine bb_and1 d1 (by omega) ?_) | ((first | (apply kb_quo; refine bb_quo ⟨by omega, by omega⟩ (by omega) (by omega) ?_) | (apply kb_rem; refine bb_rem (by omega) (by omega) ?_) | refine bb_of rfl ?_))))) | (apply kq_load; (first | (refine q_load rfl rfl ?_; (refine ld_cell rfl ?_)) | ((refine q_load rfl rfl ?_; (first | refine ld_cell hv ?_ | refine ld_cell hwv ?_))))) | (apply kq_asgn; refine q_asgn rfl rfl ?_) | (apply kq_field; (refine q_field (c_field0 rfl rfl) rfl ?_)) | (apply kq_extr; refine q_extr (y_extract rfl rfl rfl) rfl ?_) | (apply kq_conv; ((refine q_conv (c_conv (k := .i64) rfl rfl ⟨by omega, by omega⟩) rfl ?_))) | (apply kq_indexA; (((refine q_indexA (c_indexP rfl rfl rfl (by omega) (by omega)) rfl ?_)))) | (apply kq_nilc; refine q_nilc (y_nilCheck rfl rfl) rfl ?_) | (apply kq_fn; (refine c_callq rfl rfl rfl (cH _) rfl rfl ?_)))) | (apply g_atso; refine so_back (k := 0) (fun _ hw => hw.subs (by repeat ((first | refine Subs.cons (by repeat constructor) ?_ | exact Subs.sub (by repeat ((first | exact List.Sublist.refl _ | refine List.Sublist.cons _ ?_))))))) ?_) | (apply g_sot; (first | (refine sot_skip rfl ?_) | (refine sot_take rfl rfl rfl rfl (by kernel_rfl) (by decide +kernel) (by decide +kernel) ?_; ((first | (apply ky_move; refine sy_val (y_move rfl rfl) ?_) | (apply ky_load; (first | (refine sy_load rfl ?_; (refine ld_cell rfl ?_)) | ((refine sy_load rfl ?_; (refine ld_part q1 rfl ?_))))) | (apply ky_asgn; refine sy_val (y_assign rfl rfl) ?_) | (apply ky_field; (refine sy_val (c_field0 rfl rfl) ?_)) | (apply ky_indexA; (((refine sy_val (c_indexP rfl rfl rfl (by omega) (by omega)) ?_))))))) | (refine sot_next rfl ?_) | (refine so_done (by decide +kernel) ?_) | (refine sot_all (by kernel_rfl) ?_))) | (apply g_soa; (first | (refine soa_end rfl) | (refine soa_no (by decide +kernel) ?_) | (refine soa_yes rfl ?_ ?_))) | (apply sw_seq) | (apply sw_skip) | (apply sw_ret) | (apply sw_region) | (refine sw_cd rfl ?_; ((apply gd_ft))) | (apply at_thn) | (((first | (refine g_reg (id := 3) ?_; refine c_drawno ((.blk b3 200 (tokNC kd (cmdOf false false) opt d) :: .blk b2 43 (negC W X) :: H)) (fun _ hw => hw.subs (by repeat ((first | refine Subs.cons (by repeat constructor) ?_ | exact Subs.sub (by repeat ((first | exact List.Sublist.refl _ | refine List.Sublist.cons _ ?_))))))) ?_) | (refine g_reg (id := 8) ?_; refine c_drawno (H) (fun _ hw => hw.subs (by repeat ((exact Subs.sub (by repeat ((first | exact List.Sublist.refl _ | refine List.Sublist.cons _ ?_))))))) ?_)))) | refine c_drawn (by kernel_rfl) ?_))
    all_goals
      refine e_scc H (by (exact .inr rfl)) rfl (by rw [List.length_set]; exact hl) rfl (fun _ hw => hw.subs (by repeat ((exact Subs.sub (by repeat ((first | exact List.Sublist.refl _ | refine List.Sublist.cons _ ?_))))))) ?_
      refine ⟨?_, rfl⟩
      rw [hset]
      rfl
  · obtain rfl := hP1 rfl
    clear hP0 hP1
    simp only [Bool.false_eq_true, if_false] at hwv hy
    rw [hX1] at hwv
    refine sv_enter2 Tryz.func99 rfl rfl rfl rfl rfl ?_
    repeat' ((first | (apply g_sl; (first | (apply ks_nil; refine sl_nil ?_) | (apply ks_move; refine s_move rfl rfl ?_) | (apply ks_bin; refine s_bin rfl rfl rfl ?_; (((refine bb_of rfl ?_)))) | (apply ks_load; ((refine s_load rfl rfl ?_; (refine ld_cell rfl ?_)))) | (apply ks_asgn; refine s_asgn rfl rfl ?_) | (apply ks_pick; refine s_pick rfl rfl ?_; (first | (apply kp_t; refine pk_t rfl ?_) | (apply kp_f; refine pk_f rfl ?_))) | (apply ks_field; (refine s_field (c_field0 rfl rfl) rfl ?_)) | (apply ks_box; refine c_box rfl rfl rfl rfl rfl rfl (fun _ => ?_)) | (apply ks_alloc; refine c_alloc rfl rfl rfl rfl (fun _ => ?_)) | (apply ks_guard; ((refine sl_gd rfl rfl rfl rfl ?_; (first | (apply gd_t) | (apply gd_tf))))))) | (apply sw_seq) | ((fail_if_success (refine g_reg (id := 3) ?_)); apply sw_region) | (apply at_thn)))
    rename_i b2 b3 b4
    repeat' ((first | (apply g_sl; (first | (apply ks_nil; refine sl_nil ?_) | (apply ks_move; refine s_move rfl rfl ?_) | (apply ks_load; (first | (refine s_load rfl rfl ?_; (refine ld_cell rfl ?_)) | ((refine s_load rfl rfl ?_; (refine ld_whole (hb2 _) ?_))))) | (apply ks_conv; ((refine s_conv (c_conv (k := .u8) rfl rfl ⟨by omega, by omega⟩) rfl ?_))) | (apply ks_nilc; refine s_nilc (y_nilCheck rfl rfl) rfl ?_) | (apply ks_fn; ((refine c_callv rfl rfl rfl (cB _) rfl rfl ?_))) | (apply ks_store; (((first | (refine c_storew rfl rfl rfl rfl (by (first | exact t1 | exact ho2 _)) (by (first | exact r1 | exact hb2 _)) (by (rfl)) rfl ?_) | (refine c_storek rfl rfl rfl rfl rfl hl2 rfl ?_))))) | (apply ks_alloc; refine c_alloc rfl rfl rfl rfl (fun _ => ?_)))) | (apply g_sq; (first | (apply kq_nil; refine sq_nil ?_) | (apply kq_move; refine q_move rfl rfl ?_) | (apply kq_bin; refine q_bin rfl rfl rfl ?_; ((first | (refine bb_shrN (by omega) (by show (opt % 64).toNat ≤ 64; omega) ?_) | (refine bb_and1 d1 (by omega) ?_) | ((first | (apply kb_quo; refine bb_quo ⟨by omega, by omega⟩ (by omega) (by omega) ?_) | (apply kb_rem; refine bb_rem (by omega) (by omega) ?_) | refine bb_of rfl ?_))))) | (apply kq_load; (first | (refine q_load rfl rfl ?_; (refine ld_cell rfl ?_)) | ((refine q_load rfl rfl ?_; (first | refine ld_cell hv ?_ | refine ld_cell hwv ?_))))) | (apply kq_asgn; refine q_asgn rfl rfl ?_) | (apply kq_field; (refine q_field (c_field0 rfl rfl) rfl ?_)) | (apply kq_extr; refine q_extr (y_extract rfl rfl rfl) rfl ?_) | (apply kq_conv; ((refine q_conv (c_conv (k := .i64) rfl rfl ⟨by omega, by omega⟩) rfl ?_))) | (apply kq_indexA; (((refine q_indexA (c_indexP rfl rfl rfl (by omega) (by omega)) rfl ?_)))) | (apply kq_nilc; refine q_nilc (y_nilCheck rfl rfl) rfl ?_) | (apply kq_fn; (refine c_callq rfl rfl rfl (cH _) rfl rfl ?_)))) | (apply g_atso; refine so_back (k := 0) (fun _ hw => hw.subs (by repeat ((first | refine Subs.cons (by repeat constructor) ?_ | exact Subs.sub (by repeat ((first | exact List.Sublist.refl _ | refine List.Sublist.cons _ ?_))))))) ?_) | (apply g_sot; (first | (refine sot_skip rfl ?_) | (refine sot_take rfl rfl rfl rfl (by kernel_rfl) (by decide +kernel) (by decide +kernel) ?_; ((first | (apply ky_move; refine sy_val (y_move rfl rfl) ?_) | (apply ky_load; (first | (refine sy_load rfl ?_; (refine ld_cell rfl ?_)) | ((refine sy_load rfl ?_; (refine ld_part q1 rfl ?_))))) | (apply ky_asgn; refine sy_val (y_assign rfl rfl) ?_) | (apply ky_field; (refine sy_val (c_field0 rfl rfl) ?_)) | (apply ky_indexA; (((refine sy_val (c_indexP rfl rfl rfl (by omega) (by omega)) ?_))))))) | (refine sot_next rfl ?_) | (refine so_done (by decide +kernel) ?_) | (refine sot_all (by kernel_rfl) ?_))) | (apply g_soa; (first | (refine soa_end rfl) | (refine soa_no (by decide +kernel) ?_) | (refine soa_yes rfl ?_ ?_))) | (apply sw_seq) | (apply sw_skip) | (apply sw_ret) | (apply sw_region) | (refine sw_cd rfl ?_; ((apply gd_ft))) | (apply at_thn) | (((first | (refine g_reg (id := 3) ?_; refine c_drawno ((.blk b3 200 (tokNC kd (cmdOf false true) opt d) :: .blk b2 43 (negC W X) :: H)) (fun _ hw => hw.subs (by repeat ((first | refine Subs.cons (by repeat constructor) ?_ | exact Subs.sub (by repeat ((first | exact List.Sublist.refl _ | refine List.Sublist.cons _ ?_))))))) ?_) | (refine g_reg (id := 8) ?_; refine c_drawno (H) (fun _ hw => hw.subs (by repeat ((exact Subs.sub (by repeat ((first | exact List.Sublist.refl _ | refine List.Sublist.cons _ ?_))))))) ?_)))) | refine c_drawn (by kernel_rfl) ?_))
    all_goals
      refine e_scc H (by (exact .inr rfl)) rfl (by rw [List.length_set]; exact hl) rfl (fun _ hw => hw.subs (by repeat ((exact Subs.sub (by repeat ((first | exact List.Sublist.refl _ | refine List.Sublist.cons _ ?_))))))) ?_
      refine ⟨?_, rfl⟩
      rw [hset]
      rfl
  · obtain rfl := hP0 rfl
    clear hP0 hP1
    simp only [if_true] at hwv hy
    rw [hX0] at hwv
    refine sv_enter2 Tryz.func99 rfl rfl rfl rfl rfl ?_
    repeat' ((first | (apply g_sl; (first | (apply ks_nil; refine sl_nil ?_) | (apply ks_move; refine s_move rfl rfl ?_) | (apply ks_bin; refine s_bin rfl rfl rfl ?_; (((refine bb_of rfl ?_)))) | (apply ks_load; ((refine s_load rfl rfl ?_; (refine ld_cell rfl ?_)))) | (apply ks_asgn; refine s_asgn rfl rfl ?_) | (apply ks_pick; refine s_pick rfl rfl ?_; ((apply kp_f; refine pk_f rfl ?_))) | (apply ks_field; (refine s_field (c_field0 rfl rfl) rfl ?_)) | (apply ks_box; refine c_box rfl rfl rfl rfl rfl rfl (fun _ => ?_)) | (apply ks_alloc; refine c_alloc rfl rfl rfl rfl (fun _ => ?_)) | (apply ks_guard; ((refine sl_gd rfl rfl rfl rfl ?_; ((apply gd_t))))))) | (apply sw_seq) | ((fail_if_success (refine g_reg (id := 3) ?_)); apply sw_region) | (apply at_thn)))
    rename_i b2 b3 b4
    repeat' ((first | (apply g_sl; (first | (apply ks_nil; refine sl_nil ?_) | (apply ks_move; refine s_move rfl rfl ?_) | (apply ks_load; (first | (refine s_load rfl rfl ?_; (refine ld_cell rfl ?_)) | ((refine s_load rfl rfl ?_; (refine ld_whole (hb2 _) ?_))))) | (apply ks_conv; ((refine s_conv (c_conv (k := .u8) rfl rfl ⟨by omega, by omega⟩) rfl ?_))) | (apply ks_nilc; refine s_nilc (y_nilCheck rfl rfl) rfl ?_) | (apply ks_fn; ((refine c_callv rfl rfl rfl (cB _) rfl rfl ?_))) | (apply ks_store; (((first | (refine c_storew rfl rfl rfl rfl (by (first | exact t1 | exact t0 | exact ho2 _)) (by (first | exact r1 | exact r0 | exact hb2 _)) (by (first | rfl | exact r1)) rfl ?_) | (refine c_storek rfl rfl rfl rfl rfl hl2 rfl ?_))))) | (apply ks_alloc; refine c_alloc rfl rfl rfl rfl (fun _ => ?_)))) | (apply g_sq; (first | (apply kq_nil; refine sq_nil ?_) | (apply kq_move; refine q_move rfl rfl ?_) | (apply kq_bin; refine q_bin rfl rfl rfl ?_; ((first | (refine bb_shrN (by omega) (by show (opt % 64).toNat ≤ 64; omega) ?_) | (refine bb_and1 d1 (by omega) ?_) | ((first | (apply kb_quo; refine bb_quo ⟨by omega, by omega⟩ (by omega) (by omega) ?_) | (apply kb_rem; refine bb_rem (by omega) (by omega) ?_) | refine bb_of rfl ?_))))) | (apply kq_load; (first | (refine q_load rfl rfl ?_; (refine ld_cell rfl ?_)) | ((refine q_load rfl rfl ?_; (first | refine ld_cell hv ?_ | refine ld_cell hwv ?_))))) | (apply kq_asgn; refine q_asgn rfl rfl ?_) | (apply kq_field; (refine q_field (c_field0 rfl rfl) rfl ?_)) | (apply kq_extr; refine q_extr (y_extract rfl rfl rfl) rfl ?_) | (apply kq_conv; ((refine q_conv (c_conv (k := .i64) rfl rfl ⟨by omega, by omega⟩) rfl ?_))) | (apply kq_indexA; (((refine q_indexA (c_indexP rfl rfl rfl (by omega) (by omega)) rfl ?_)))) | (apply kq_nilc; refine q_nilc (y_nilCheck rfl rfl) rfl ?_) | (apply kq_fn; (refine c_callq rfl rfl rfl (cH _) rfl rfl ?_)))) | (apply g_atso; refine so_back (k := 0) (fun _ hw => hw.subs (by repeat ((first | refine Subs.cons (by repeat constructor) ?_ | exact Subs.sub (by repeat ((first | exact List.Sublist.refl _ | refine List.Sublist.cons _ ?_))))))) ?_) | (apply g_sot; (first | (refine sot_skip rfl ?_) | (refine sot_take rfl rfl rfl rfl (by kernel_rfl) (by decide +kernel) (by decide +kernel) ?_; ((first | (apply ky_move; refine sy_val (y_move rfl rfl) ?_) | (apply ky_load; (first | (refine sy_load rfl ?_; (refine ld_cell rfl ?_)) | ((refine sy_load rfl ?_; (first | refine ld_part q0 rfl ?_ | refine ld_part q1 rfl ?_))))) | (apply ky_asgn; refine sy_val (y_assign rfl rfl) ?_) | (apply ky_field; (refine sy_val (c_field0 rfl rfl) ?_)) | (apply ky_indexA; (((refine sy_val (c_indexP rfl rfl rfl (by omega) (by omega)) ?_))))))) | (refine sot_next rfl ?_) | (refine so_done (by decide +kernel) ?_) | (refine sot_all (by kernel_rfl) ?_))) | (apply g_soa; (first | (refine soa_end rfl) | (refine soa_no (by decide +kernel) ?_) | (refine soa_yes rfl ?_ ?_))) | (apply sw_seq) | (apply sw_ret) | (apply sw_region) | (refine sw_cd rfl ?_; ((apply gd_t))) | (apply at_thn) | (((first | (refine g_reg (id := 5) ?_; refine c_drawno ((.blk b3 200 (tokNC kd (cmdOf true false) opt d) :: .blk b2 43 (negC W X) :: H)) (fun _ hw => hw.subs (by repeat ((first | refine Subs.cons (by repeat constructor) ?_ | exact Subs.sub (by repeat ((first | exact List.Sublist.refl _ | refine List.Sublist.cons _ ?_))))))) ?_) | (refine g_reg (id := 3) ?_; refine c_drawno ((.blk b3 200 (tokNC kd (cmdOf true false) opt d) :: .blk b2 43 (negC W X) :: H)) (fun _ hw => hw.subs (by repeat ((first | refine Subs.cons (by repeat constructor) ?_ | exact Subs.sub (by repeat ((first | exact List.Sublist.refl _ | refine List.Sublist.cons _ ?_))))))) ?_) | (refine g_reg (id := 8) ?_; refine c_drawno (H) (fun _ hw => hw.subs (by repeat ((exact Subs.sub (by repeat ((first | exact List.Sublist.refl _ | refine List.Sublist.cons _ ?_))))))) ?_)))) | refine c_drawn (by kernel_rfl) ?_))
    all_goals
      refine e_scc H (by (exact .inr rfl)) rfl (by rw [List.length_set]; exact hl) rfl (fun _ hw => hw.subs (by repeat ((exact Subs.sub (by repeat ((first | exact List.Sublist.refl _ | refine List.Sublist.cons _ ?_))))))) ?_
      refine ⟨?_, rfl⟩
      rw [hset]
      rfl
  · obtain rfl := hP0 rfl
    clear hP0 hP1
    simp only [if_true] at hwv hy
    rw [hX0] at hwv
    refine sv_enter2 Tryz.func99 rfl rfl rfl rfl rfl ?_
    repeat' ((first | (apply g_sl; (first | (apply ks_nil; refine sl_nil ?_) | (apply ks_move; refine s_move rfl rfl ?_) | (apply ks_bin; refine s_bin rfl rfl rfl ?_; (((refine bb_of rfl ?_)))) | (apply ks_load; ((refine s_load rfl rfl ?_; (refine ld_cell rfl ?_)))) | (apply ks_asgn; refine s_asgn rfl rfl ?_) | (apply ks_pick; refine s_pick rfl rfl ?_; (first | (apply kp_t; refine pk_t rfl ?_) | (apply kp_f; refine pk_f rfl ?_))) | (apply ks_field; (refine s_field (c_field0 rfl rfl) rfl ?_)) | (apply ks_box; refine c_box rfl rfl rfl rfl rfl rfl (fun _ => ?_)) | (apply ks_alloc; refine c_alloc rfl rfl rfl rfl (fun _ => ?_)) | (apply ks_guard; ((refine sl_gd rfl rfl rfl rfl ?_; (first | (apply gd_t) | (apply gd_tf))))))) | (apply sw_seq) | ((fail_if_success (refine g_reg (id := 3) ?_)); apply sw_region) | (apply at_thn)))
    rename_i b2 b3 b4
    repeat' ((first | (apply g_sl; (first | (apply ks_nil; refine sl_nil ?_) | (apply ks_move; refine s_move rfl rfl ?_) | (apply ks_load; (first | (refine s_load rfl rfl ?_; (refine ld_cell rfl ?_)) | ((refine s_load rfl rfl ?_; (refine ld_whole (hb2 _) ?_))))) | (apply ks_conv; ((refine s_conv (c_conv (k := .u8) rfl rfl ⟨by omega, by omega⟩) rfl ?_))) | (apply ks_nilc; refine s_nilc (y_nilCheck rfl rfl) rfl ?_) | (apply ks_fn; ((refine c_callv rfl rfl rfl (cB _) rfl rfl ?_))) | (apply ks_store; (((first | (refine c_storew rfl rfl rfl rfl (by (first | exact t1 | exact t0 | exact ho2 _)) (by (first | exact r1 | exact r0 | exact hb2 _)) (by (first | rfl | exact r1)) rfl ?_) | (refine c_storek rfl rfl rfl rfl rfl hl2 rfl ?_))))) | (apply ks_alloc; refine c_alloc rfl rfl rfl rfl (fun _ => ?_)))) | (apply g_sq; (first | (apply kq_nil; refine sq_nil ?_) | (apply kq_move; refine q_move rfl rfl ?_) | (apply kq_bin; refine q_bin rfl rfl rfl ?_; ((first | (refine bb_shrN (by omega) (by show (opt % 64).toNat ≤ 64; omega) ?_) | (refine bb_and1 d1 (by omega) ?_) | ((first | (apply kb_quo; refine bb_quo ⟨by omega, by omega⟩ (by omega) (by omega) ?_) | (apply kb_rem; refine bb_rem (by omega) (by omega) ?_) | refine bb_of rfl ?_))))) | (apply kq_load; (first | (refine q_load rfl rfl ?_; (refine ld_cell rfl ?_)) | ((refine q_load rfl rfl ?_; (first | refine ld_cell hv ?_ | refine ld_cell hwv ?_))))) | (apply kq_asgn; refine q_asgn rfl rfl ?_) | (apply kq_field; (refine q_field (c_field0 rfl rfl) rfl ?_)) | (apply kq_extr; refine q_extr (y_extract rfl rfl rfl) rfl ?_) | (apply kq_conv; ((refine q_conv (c_conv (k := .i64) rfl rfl ⟨by omega, by omega⟩) rfl ?_))) | (apply kq_indexA; (((refine q_indexA (c_indexP rfl rfl rfl (by omega) (by omega)) rfl ?_)))) | (apply kq_nilc; refine q_nilc (y_nilCheck rfl rfl) rfl ?_) | (apply kq_fn; (refine c_callq rfl rfl rfl (cH _) rfl rfl ?_)))) | (apply g_atso; refine so_back (k := 0) (fun _ hw => hw.subs (by repeat ((first | refine Subs.cons (by repeat constructor) ?_ | exact Subs.sub (by repeat ((first | exact List.Sublist.refl _ | refine List.Sublist.cons _ ?_))))))) ?_) | (apply g_sot; (first | (refine sot_skip rfl ?_) | (refine sot_take rfl rfl rfl rfl (by kernel_rfl) (by decide +kernel) (by decide +kernel) ?_; ((first | (apply ky_move; refine sy_val (y_move rfl rfl) ?_) | (apply ky_load; (first | (refine sy_load rfl ?_; (refine ld_cell rfl ?_)) | ((refine sy_load rfl ?_; (first | refine ld_part q0 rfl ?_ | refine ld_part q1 rfl ?_))))) | (apply ky_asgn; refine sy_val (y_assign rfl rfl) ?_) | (apply ky_field; (refine sy_val (c_field0 rfl rfl) ?_)) | (apply ky_indexA; (((refine sy_val (c_indexP rfl rfl rfl (by omega) (by omega)) ?_))))))) | (refine sot_next rfl ?_) | (refine so_done (by decide +kernel) ?_) | (refine sot_all (by kernel_rfl) ?_))) | (apply g_soa; (first | (refine soa_end rfl) | (refine soa_no (by decide +kernel) ?_) | (refine soa_yes rfl ?_ ?_))) | (apply sw_seq) | (apply sw_ret) | (apply sw_region) | (refine sw_cd rfl ?_; ((apply gd_t))) | (apply at_thn) | (((first | (refine g_reg (id := 5) ?_; refine c_drawno ((.blk b3 200 (tokNC kd (cmdOf true true) opt d) :: .blk b2 43 (negC W X) :: H)) (fun _ hw => hw.subs (by repeat ((first | refine Subs.cons (by repeat constructor) ?_ | exact Subs.sub (by repeat ((first | exact List.Sublist.refl _ | refine List.Sublist.cons _ ?_))))))) ?_) | (refine g_reg (id := 3) ?_; refine c_drawno ((.blk b3 200 (tokNC kd (cmdOf true true) opt d) :: .blk b2 43 (negC W X) :: H)) (fun _ hw => hw.subs (by repeat ((first | refine Subs.cons (by repeat constructor) ?_ | exact Subs.sub (by repeat ((first | exact List.Sublist.refl _ | refine List.Sublist.cons _ ?_))))))) ?_) | (refine g_reg (id := 8) ?_; refine c_drawno (H) (fun _ hw => hw.subs (by repeat ((exact Subs.sub (by repeat ((first | exact List.Sublist.refl _ | refine List.Sublist.cons _ ?_))))))) ?_)))) | refine c_drawn (by kernel_rfl) ?_))
    all_goals
      refine e_scc H (by (exact .inr rfl)) rfl (by rw [List.length_set]; exact hl) rfl (fun _ hw => hw.subs (by repeat ((exact Subs.sub (by repeat ((first | exact List.Sublist.refl _ | refine List.Sublist.cons _ ?_))))))) ?_
      refine ⟨?_, rfl⟩
      rw [hset]
      rfl
end Go.Proofs.YtmbfechiallppaaGreatDoor
end
section
namespace Go.Proofs.YtmbfechiallppaaGreatDoor
open Go Go.RowKit Go.Fw Go.Sx
set_option maxRecDepth 100000
set_option maxHeartbeats 2000000
def nW0 : List Int := List.replicate 512 0
def nW1 : List Int := (List.replicate 512 0).set 34 1
abbrev x34 : List Int := [17179869184, 0, 0, 0, 0, 0, 0, 0]
theorem nW0_len : nW0.length = 512 := by simp [nW0]
theorem nW1_len : nW1.length = 512 := by simp [nW1]
theorem heard_w : heardL nW0 x34 true true 34 = nW1 := by decide +kernel
theorem heard_t : heardT nW0 x34 true true 34 = ⟨#[255, 251, 34]⟩ := by decide +kernel
theorem nW0_ok : negE nW0 = 0 := by decide +kernel
theorem nW1_ok : negE nW1 = 0 := by decide +kernel
theorem nW_at : nW0.getD 31 0 = 0 ∧ nW0.getD 0 0 = 0 ∧ nW1.getD 31 0 = 0 ∧ nW1.getD 34 0 = 1 ∧ nW1.getD 257 0 = 0 ∧ nW1.getD 0 0 = 0 := by decide +kernel
theorem nW_oct : (∀ x ∈ nW0, Oct x) ∧ ∀ x ∈ nW1, Oct x := by
  have key : (∀ x ∈ nW0, 0 ≤ x ∧ x ≤ 255) ∧ ∀ x ∈ nW1, 0 ≤ x ∧ x ≤ 255 := by decide +kernel
  exact key
theorem x34_64 : ∀ x ∈ x34, w64 x := by
  have key : ∀ x ∈ x34, 0 ≤ x ∧ x ≤ 18446744073709551615 := by decide +kernel
  exact key
end Go.Proofs.YtmbfechiallppaaGreatDoor
end
section
namespace Go.Proofs.YtmbfechiallppaaGreatDoor
open Go Go.RowKit Go.Fw Go.Sx
set_option maxRecDepth 100000
set_option maxHeartbeats 2000000
attribute [local irreducible] SW SL SQ AtQ SV SC BB LD PK Yields SO SOT SOA SY negC
abbrev kAll : List Int := kSet fun _ => true
theorem do_ask (G : Ctx) (H : List Ent) (M : Int) (hM : ∀ H w, Holds G H w → w.cell? ⟨2, 0, none⟩ = some (.int .i64 M)) (s : Scr) (f : Fre s) (S P : List Value) (h : CliS G H s S P) :
    SC Tryz.prog G 7 [.agg (wkC S (negC nW0 x34) P (octs kAll) (cliX ⟨#[]⟩ false)).toArray, .agg (evC 1 askB 0 0).toArray] H fun v H' => ∃ S2 P2 E, v = .tuple #[.agg (wkC S2 (negC nW1 x34) P2 (octs kAll) (cliX ⟨#[]⟩ true)).toArray, .string (⟨#[]⟩ ++ ⟨#[255, 251, 34]⟩ ++ saidB), .int .i64 0] ∧ H' = E ++ H ∧ CliS G E s S2 P2 := by
  haveI : Len (negC nW0 x34) 520 := ⟨negC_len nW0_len rfl⟩
  haveI : Len (negC nW1 x34) 520 := ⟨negC_len nW1_len rfl⟩
  haveI : Len (octs kAll) 38 := ⟨by rw [octs_len]; exact kSet_len _⟩
  obtain ⟨a1, a2, a3, a4, a5, a6⟩ := nW_at
  refine do_gen G H M hM s s f S P (negC nW0 x34) (negC nW1 x34) (octs kAll) h ⟨#[]⟩ ⟨#[]⟩ false true _ (by decide) (negC_all _ _) (negC_all _ _) (octs_all _) (fun H' => ?_) (fun H' => ?_) _ rfl rfl (fun H' wb S' P' hS' => ?_)
  · have h := negCheck_sv G H' nW0 x34 nW0_len rfl nW_oct.1
    rwa [nW0_ok] at h
  · have h := slcCheck_sv G H' kAll (kSet_len _)
    rwa [keys_ok] at h
  · obtain ⟨hs1, na, nc, va, vc, rfl, -⟩ := hS'
    haveI : Len S' 33 := ⟨hs1.len⟩
    have hm : S'[11]? = some (.int .i64 s.modes) := by
      obtain ⟨ga, gn, gc, oa, on, oc, pa, pn, pc, X, rfl, -⟩ := hs1
      rfl
    refine sc_imp (do1_sc G H' wb S' (negC nW0 x34) _ (octs kAll) _ s.modes hm _ askB (fun H2 => bytes_sc G H2 M hM wb S' (negC nW0 x34) (negC nW1 x34) _ _ _ (octs kAll) (negC_all _ _) ⟨#[]⟩ ⟨#[255, 251, 34]⟩ (by decide) 0 0 1 (by rw [neg_at x34 nW0_len 31 (by decide), a1]) rfl (by rw [neg_at x34 nW1_len 31 (by decide), a3]) rfl (by rw [neg_at x34 nW1_len 34 (by decide), a4]) rfl (fun H3 => ?_))) fun v H'' => ?_
    · have h := negHears_sv G H3 nW0 x34 true true 3 34 ⟨#[]⟩ nW0_len rfl x34_64 nW0_ok (by decide)
      unfold heardV at h
      rwa [heard_w, heard_t] at h
    · rintro ⟨rfl, rfl⟩
      exact ⟨S', [], rfl, rfl, .inr ⟨rfl, rfl⟩⟩
end Go.Proofs.YtmbfechiallppaaGreatDoor
end
section
namespace Go.Proofs.YtmbfechiallppaaGreatDoor
open Go Go.RowKit Go.Fw Go.Sx
set_option maxRecDepth 100000
set_option maxHeartbeats 2000000
attribute [local irreducible] SW SL SQ AtQ SV SC BB LD PK Yields SO SOT SOA SY negC
theorem do_key (G : Ctx) (H : List Ent) (M : Int) (hM : ∀ H w, Holds G H w → w.cell? ⟨2, 0, none⟩ = some (.int .i64 M)) (hT : ∀ H w, Holds G H w → Lib.Utf8Tabs 0 1 w) (s : Scr) (f : Fre s) (S P : List Value) (h : CliS G H s S P) (buf : ByteArray) (hb : buf.size + 1 < 1024) (c : Nat) (hc : 32 ≤ c ∧ c ≤ 126) :
    SC Tryz.prog G 7 [.agg (wkC S (negC nW1 x34) P (octs kAll) (cliX buf true)).toArray, .agg (evC 2 ⟨#[]⟩ 0 c).toArray] H fun v H' => ∃ S2 P2 E, v = .tuple #[.agg (wkC S2 (negC nW1 x34) P2 (octs kAll) (cliX (buf ++ ⟨#[UInt8.ofNat c]⟩) true)).toArray, .string ⟨#[]⟩, .int .i64 0] ∧ H' = E ++ H ∧ CliS G E (actS s 1 c) S2 P2 := by
  haveI : Len (negC nW1 x34) 520 := ⟨negC_len nW1_len rfl⟩
  haveI : Len (octs kAll) 38 := ⟨by rw [octs_len]; exact kSet_len _⟩
  obtain ⟨a1, a2, a3, a4, a5, a6⟩ := nW_at
  refine do_gen G H M hM s (actS s 1 c) f S P (negC nW1 x34) (negC nW1 x34) (octs kAll) h buf _ true true _ (by omega) (negC_all _ _) (negC_all _ _) (octs_all _) (fun H' => ?_) (fun H' => ?_) _ rfl rfl (fun H' wb S' P' hS' => ?_)
  · have h := negCheck_sv G H' nW1 x34 nW1_len rfl nW_oct.2
    rwa [nW1_ok] at h
  · have h := slcCheck_sv G H' kAll (kSet_len _)
    rwa [keys_ok] at h
  · obtain ⟨hs1, na, nc, va, vc, rfl, -⟩ := hS'
    haveI : Len S' 33 := ⟨hs1.len⟩
    have hm : S'[11]? = some (.int .i64 s.modes) := by
      obtain ⟨ga, gn, gc, oa, on, oc, pa, pn, pc, X, rfl, -⟩ := hs1
      rfl
    refine sc_imp (do2_sc G H' wb S' (negC nW1 x34) _ (octs kAll) _ s.modes hm 0 c ⟨#[UInt8.ofNat c]⟩ (actS s 1 c) _ (fun H2 => ?_) (fun H2 hh => typed_sc G H2 M hM hT s (actS s 1 c) f wb S' (negC nW1 x34) _ _ _ kAll (kSet_len _) keys_oct buf ⟨#[]⟩ (hs1.mono hh) 0 1 0 (by rw [neg_at x34 nW1_len 0 (by decide), a6]) rfl (by rw [neg_at x34 nW1_len 34 (by decide), a4]) rfl (by rw [neg_at x34 nW1_len 257 (by decide), a5]) rfl _ _ _ _ (lineU_c buf c hc hb) _ (Nat.le_of_ble_eq_true rfl) (echo_c c hc) (Nat.le_of_ble_eq_true rfl) _ _ _ (feedU_c c hc) (Nat.le_of_ble_eq_true rfl) (.inl ⟨1, c, runP_c c hc, .inl ⟨rfl, by omega, width_c c hc⟩, rfl⟩) ⟨#[]⟩ (by decide) (.inl ⟨rfl, rfl⟩))) fun v H'' => ?_
    · have h := keyE_sv G H2 0 c 0 0 0 0 s.modes (by decide) (.inr rfl) (fun _ => by unfold isR; omega) (fun h => absurd rfl h) (by decide +kernel) (by decide +kernel) (by decide +kernel)
      rw [key_c c hc] at h
      exact h
    · rintro ⟨S2, F, rfl, rfl, hF⟩
      exact ⟨S2, F, rfl, rfl, .inl hF⟩
theorem do_enter (G : Ctx) (H : List Ent) (M : Int) (hM : ∀ H w, Holds G H w → w.cell? ⟨2, 0, none⟩ = some (.int .i64 M)) (hT : ∀ H w, Holds G H w → Lib.Utf8Tabs 0 1 w) (s : Scr) (f : Fre s) (S P : List Value) (h : CliS G H s S P) (buf : ByteArray) (hb : buf.size ≤ 500) (hp : plainT buf) :
    SC Tryz.prog G 7 [.agg (wkC S (negC nW1 x34) P (octs kAll) (cliX buf true)).toArray, .agg (evC 2 ⟨#[]⟩ 23 0).toArray] H fun v H' => ∃ S2 P2 E, v = .tuple #[.agg (wkC S2 (negC nW1 x34) P2 (octs kAll) (cliX ⟨#[]⟩ true)).toArray, .string (⟨#[]⟩ ++ (buf ++ ⟨#[13, 10]⟩)), .int .i64 0] ∧ H' = E ++ H ∧ CliS G E (indexS (homeS s)) S2 P2 := by
  haveI : Len (negC nW1 x34) 520 := ⟨negC_len nW1_len rfl⟩
  haveI : Len (octs kAll) 38 := ⟨by rw [octs_len]; exact kSet_len _⟩
  obtain ⟨a1, a2, a3, a4, a5, a6⟩ := nW_at
  refine do_gen G H M hM s (indexS (homeS s)) f S P (negC nW1 x34) (negC nW1 x34) (octs kAll) h buf _ true true _ (by omega) (negC_all _ _) (negC_all _ _) (octs_all _) (fun H' => ?_) (fun H' => ?_) _ rfl rfl (fun H' wb S' P' hS' => ?_)
  · have h := negCheck_sv G H' nW1 x34 nW1_len rfl nW_oct.2
    rwa [nW1_ok] at h
  · have h := slcCheck_sv G H' kAll (kSet_len _)
    rwa [keys_ok] at h
  · obtain ⟨hs1, na, nc, va, vc, rfl, -⟩ := hS'
    haveI : Len S' 33 := ⟨hs1.len⟩
    have hm : S'[11]? = some (.int .i64 s.modes) := by
      obtain ⟨ga, gn, gc, oa, on, oc, pa, pn, pc, X, rfl, -⟩ := hs1
      rfl
    refine sc_imp (do2_sc G H' wb S' (negC nW1 x34) _ (octs kAll) _ s.modes hm 23 0 ⟨#[13]⟩ (indexS (homeS s)) _ (fun H2 => ?_) (fun H2 hh => typed_sc G H2 M hM hT s (indexS (homeS s)) f wb S' (negC nW1 x34) _ _ _ kAll (kSet_len _) keys_oct buf ⟨#[]⟩ (hs1.mono hh) 0 1 0 (by rw [neg_at x34 nW1_len 0 (by decide), a6]) rfl (by rw [neg_at x34 nW1_len 34 (by decide), a4]) rfl (by rw [neg_at x34 nW1_len 257 (by decide), a5]) rfl _ _ _ _ (lineU_n buf (by omega)) _ (Nat.le_of_ble_eq_true rfl) echo_n (Nat.le_of_ble_eq_true rfl) _ _ _ feedU_n (Nat.le_of_ble_eq_true rfl) (.inr ⟨runP_n, rfl⟩) _ (by decide) (.inr ⟨_, _, _, _, rfl, by rw [ByteArray.size_append]; show buf.size + 1 ≤ _; omega, line_1 buf hp, by rw [ByteArray.size_append]; show buf.size + 1 ≤ _; omega, line_2 buf hp, by rw [ByteArray.size_append]; show buf.size + 2 ≤ _; omega, line_3 buf hp, by rw [ByteArray.size_append]; show buf.size + 2 ≤ _; omega, rfl⟩))) fun v H'' => ?_
    · have h := keyE_sv G H2 23 0 0 0 0 0 s.modes (by decide) (.inl (by decide)) (fun h => absurd h (by decide)) (fun _ => rfl) (by decide +kernel) (by decide +kernel) (by decide +kernel)
      exact h
    · rintro ⟨S2, F, rfl, rfl, hF⟩
      exact ⟨S2, F, rfl, rfl, .inl hF⟩
end Go.Proofs.YtmbfechiallppaaGreatDoor
end
section
namespace Go.Proofs.YtmbfechiallppaaGreatDoor
open Go Go.RowKit Go.Fw Go.Sx
set_option maxRecDepth 100000
set_option maxHeartbeats 2000000
attribute [local irreducible] SW SL SQ AtQ SV SC BB LD PK Yields SO SOT SOA SY negC
theorem bb_sneG {P : Program} {x y : Operand} {t : TypeId} {a b : ByteArray} {K : Value → Prop} (h : a = b) (hk : K (.bool false)) : BB P .neq t x y (.string a) (.string b) K := bb_sne (by rw [decide_eq_true h]; exact hk)
instance psDec : DecidableEq Ps :=
  @instDecidableEqProd _ _ inferInstance (@instDecidableEqProd _ _ inferInstance (@instDecidableEqProd _ _ inferInstance (@instDecidableEqProd _ _ inferInstance inferInstance)))
theorem runP_x1 : (runP p00 [120]).1 = p00 := by decide +kernel
theorem runP_x2 : (runP p00 [120]).2 = [(1, 120, 0, e0, [], e0)] := runP_c 120 (by decide)
theorem feedU_x : feedU ⟨#[]⟩ ⟨#[120]⟩ = (⟨#[]⟩, [120], 0) := feedU_c 120 (by decide)
theorem runS_sc (G : Ctx) (H : List Ent) (s s' : Scr) (f : Fre s) (S : List Value) (h : ScS G H s S) (A : List Ac) (ha : acts s (A.map plA) s') (aa : Option Addr) (ac : Nat) [h4 : RdC G H aa (acs A)] :
    SC Tryz.prog G 35 [.agg S.toArray, .slice aa A.length ac] H fun v H' => ∃ S' E, v = .tuple #[.agg S'.toArray, .string ⟨#[]⟩, .int .i64 0] ∧ H' = E ++ H ∧ ScS G E s' S' := by
  obtain ⟨ga, gn, gc, oa, on, oc, pa, pn, pc, X, rfl, hS⟩ := h
  refine sc_imp (run_sc G H s s' f X ga gn gc oa on oc pa pn pc hS A ha aa ac) fun v H' => ?_
  rintro ⟨ga2, gn2, gc2, oa2, on2, oc2, pa2, pn2, pc2, X2, E, rfl, rfl, hS2⟩
  exact ⟨_, E, rfl, rfl, ga2, gn2, gc2, oa2, on2, oc2, pa2, pn2, pc2, X2, rfl, hS2⟩
theorem data_x (G : Ctx) (H : List Ent) (M : Int) (hM : ∀ H w, Holds G H w → w.cell? ⟨2, 0, none⟩ = some (.int .i64 M)) (hT : ∀ H w, Holds G H w → Lib.Utf8Tabs 0 1 w)
    (s : Scr) (f : Fre s) (wb : Nat) (S N : List Value) (p0 p1 p2 : Value) (K : List Value) [hN : Len N 520] [hK : Len K 38] (buf : ByteArray) (ed : Bool) (sent : ByteArray) (h : ScS G H s S) (h0 : Int) (hh0 : N[256]? = some (.int .u8 h0)) (hh0' : (h0 == 1) = false) :
    SC Tryz.prog G 98 [.pointer (some ⟨wb, 0, none⟩), .string ⟨#[120]⟩] (.blk wb 101 (wkC S N [p0, p1, p2] K (cliW buf ed sent)) :: H) fun v H' => ∃ S' E, v = resV [] ∧ H' = .blk wb 101 (wkC S' N [p0, p1, p2] K (cliW buf ed sent)) :: (E ++ H) ∧ ScS G E (actS s 1 120) S' := by
  haveI hS : Len S 33 := ⟨h.len⟩
  have cI : ∀ H', SV Tryz.prog G 13 [.bool false, .string ⟨#[120]⟩, .bool false] H' (.tuple #[.bool false, .string ⟨#[120]⟩]) := fun H' => by
    have h := nvtIn_sv G H' false ⟨#[120]⟩ (by decide)
    rwa [show (mIn false (⟨#[120]⟩ : ByteArray).data.toList).1 = false from by decide +kernel, show strOfNums (u8s (mIn false (⟨#[120]⟩ : ByteArray).data.toList).2) = ⟨#[120]⟩ from by decide +kernel] at h
  have cF := fun H => feed_sc G H hT ⟨#[]⟩ ⟨#[120]⟩ (by decide) (by decide)
  rw [feedU_x] at cF
  dsimp only at cF
  have cP := fun (H' : List Ent) (ao : Option Addr) (co : Nat) (h4 : RdC G H' ao (ints [120])) => pFeed_sc G H' M hM 0 0 e0 e0 e0 okP_0 [120] ao 1 co rfl (by decide)
  unfold RunR at cP
  rw [show runP (0, 0, e0, e0, e0) [120] = (p00, [(1, 120, 0, e0, [], e0)]) from Prod.ext runP_x1 runP_x2] at cP
  dsimp only at cP
  have cR := fun (H' : List Ent) (hh : ∀ w, Holds G H' w → Holds G H w) (A : List Ac) (hA : A.map plA = [(1, 120, 0, e0, [], e0)]) (aa : Option Addr) (ac : Nat) (h4 : RdC G H' aa (acs A)) => runS_sc G H' s (actS s 1 120) f S (h.mono hh) A (.inl ⟨1, 120, hA, .inl ⟨rfl, by decide, width_c 120 (by decide)⟩, rfl⟩) aa ac
  have cH := fun (E0 : List Value) (H : List Ent) [HasBlk H wb 101 (wkC S N [p0, p1, p2] K (cliW buf ed sent))] => him_sv G H wb S N [p0, p1, p2] K (cliW buf ed sent) 0 (by decide) h0 hh0 false hh0'
  have hlen := wk_len (S := S) (N := N) (K := K) (P := [p0, p1, p2]) (E := cliW buf ed sent) (k := 614) rfl rfl rfl
  clear hM hT
  refine sc_enter2 Tryz.func98 rfl rfl rfl rfl rfl ?_
  repeat' (((apply sw_seq)))
  refine sw_cut1 (α := Unit) (fun _ => [(0, .pointer (some ⟨wb, 0, none⟩)), (1, .string ⟨#[120]⟩)])
    (fun _ => .blk wb 101 (wkC S N [p0, p1, p2] K (cliW buf ed sent)) :: H) (fun _ => True) ?_ ?_
  · repeat' ((first | (apply g_sl; (first | (apply ks_nil; refine sl_nil ?_) | (apply ks_load; ((refine s_load rfl rfl ?_; (refine ld_cell rfl ?_)))) | (apply ks_fn; ((first | refine c_callv rfl rfl rfl (cH [] _) rfl rfl ?_ | refine c_callv rfl rfl rfl (cI _) rfl rfl ?_))) | (apply ks_store; ((refine c_store rfl rfl rfl rfl rfl rfl rfl ?_))))) | (apply g_atso; refine so_back (k := 0) (fun _ hw => hw.subs (by repeat ((exact Subs.sub (by repeat ((first | exact List.Sublist.refl _ | refine List.Sublist.cons _ ?_))))))) ?_) | (apply g_sot; (first | (refine sot_skip rfl ?_) | (refine sot_take rfl rfl rfl rfl (by kernel_rfl) (by decide +kernel) (by decide +kernel) ?_; ((first | (apply ky_move; refine sy_val (y_move rfl rfl) ?_) | (apply ky_asgn; refine sy_val (y_assign rfl rfl) ?_) | (apply ky_field; (refine sy_val (c_field0 rfl rfl) ?_)) | (apply ky_extr; refine sy_val (y_extract rfl rfl rfl) ?_) | (apply ky_nilc; refine sy_val (y_nilCheck rfl rfl) ?_)))) | (refine sot_next rfl ?_) | (refine so_done (by decide +kernel) ?_) | (refine sot_all (by kernel_rfl) ?_))) | (apply g_soa; (first | (refine soa_end rfl) | (refine soa_no (by decide +kernel) ?_) | (refine soa_yes rfl ?_ ?_))) | ((refine g_reg (id := 0) ?_; refine c_drawnoB (b := wb) ?_))))
    all_goals exact at_meet () trivial (by repeat ((first | exact Le.nil _ | refine Le.cons (by (rfl)) ?_))) (fun _ hw => hw.subs (by repeat ((first | refine Subs.cons (by repeat constructor) ?_ | exact Subs.sub (by repeat ((exact List.Sublist.refl _)))))))
  rintro ⟨⟩ -
  repeat' ((first | (apply g_sl; (first | (apply ks_nil; refine sl_nil ?_) | (apply ks_move; refine s_move rfl rfl ?_) | (apply ks_load; ((refine s_load rfl rfl ?_; (refine ld_cell rfl ?_)))) | (apply ks_asgn; refine s_asgn rfl rfl ?_) | (apply ks_field; (refine s_field (c_field0 rfl rfl) rfl ?_)) | (apply ks_extr; refine s_extr (y_extract rfl rfl rfl) rfl ?_) | (apply ks_nilc; refine s_nilc (y_nilCheck rfl rfl) rfl ?_) | (apply ks_fn; ((refine c_call rfl rfl rfl (cF _) rfl rfl ?_; rintro _ _ ⟨ao, co, rfl, rfl⟩))) | (apply ks_store; ((refine c_store rfl rfl rfl rfl rfl rfl rfl ?_))))) | (apply sw_seq) | ((fail_if_success (refine g_reg (id := 4) ?_)); apply sw_region) | (apply at_thn)))
  refine sw_held (.blk wb 101 (wkC S N [p0, p1, p2] K (cliW buf ed sent)) :: .own 3 1 ao 1 co (ints [120]) :: H) (fun _ hw => hw) ?_
  repeat' ((first | (apply g_sl; (first | (apply ks_nil; refine sl_nil ?_) | (apply ks_move; refine s_move rfl rfl ?_) | (apply ks_load; (((refine s_load rfl rfl ?_; (refine ld_part (big_ppre rfl) rfl ?_))))) | (apply ks_asgn; refine s_asgn rfl rfl ?_) | (apply ks_field; (refine s_field (c_field0 rfl rfl) rfl ?_)) | (apply ks_extr; refine s_extr (y_extract rfl rfl rfl) rfl ?_) | (apply ks_nilc; refine s_nilc (y_nilCheck rfl rfl) rfl ?_) | (apply ks_fn; ((refine c_call rfl rfl rfl (cP _ _ _ inferInstance) rfl rfl ?_; rintro _ _ ⟨F, A, aa, ac, rfl, hlA, hA, hsl, hs2, rfl⟩))) | (apply ks_store; ((((refine c_storepV (off := 7) (vs := [.int .i64 0, .int .i64 0, .string e0, .string e0, .string e0]) rfl rfl rfl rfl rfl rfl (by rw [hlen]; exact Nat.le_of_ble_eq_true rfl) (over_pre rfl (List.cons_ne_nil _ _)) rfl ?_))))))) | (apply sw_seq) | ((fail_if_success (refine g_reg (id := 6) ?_)); apply sw_region) | (apply at_thn)))
  refine sw_held (.blk wb 101 (wkC S N [p0, p1, p2] K (cliW buf ed sent)) :: (F ++ (.own 3 1 ao 1 co (ints [120]) :: H))) (fun _ hw => hw) ?_
  have hi : RdC G (.blk wb 101 (wkC S N [p0, p1, p2] K (cliW buf ed sent)) :: (F ++ (.own 3 1 ao 1 co (ints [120]) :: H))) aa (acs A) := ⟨fun w hw => hs2.rd.here w (hw.sub (.cons _ (List.sublist_append_left F _)))⟩
  have hH : ∀ w, Holds G (.blk wb 101 (wkC S N [p0, p1, p2] K (cliW buf ed sent)) :: (F ++ (.own 3 1 ao 1 co (ints [120]) :: H))) w → Holds G H w := fun w hw => hw.sub (.cons _ ((List.sublist_cons_self _ _).trans (List.sublist_append_right F _)))
  clear cP cF
  repeat' ((first | (apply g_sl; (first | (apply ks_nil; refine sl_nil ?_) | (apply ks_move; refine s_move rfl rfl ?_) | (apply ks_load; (((refine s_load rfl rfl ?_; (refine ld_part (big_pmid rfl) rfl ?_))))) | (apply ks_asgn; refine s_asgn rfl rfl ?_) | (apply ks_field; (refine s_field (c_field0 rfl rfl) rfl ?_)) | (apply ks_extr; refine s_extr (y_extract rfl rfl rfl) rfl ?_) | (apply ks_nilc; refine s_nilc (y_nilCheck rfl rfl) rfl ?_) | (apply ks_fn; ((refine c_call rfl rfl rfl (cR _ hH A hA aa ac hi) rfl rfl ?_; rintro _ _ ⟨S', E, rfl, rfl, hS2⟩; (have hl2 := hS2.len); (have ho2 := hS2.one)))) | (apply ks_store; ((((refine c_storepV (off := 12) rfl rfl rfl rfl ho2 hl2 (by rw [hlen]; exact Nat.le_of_ble_eq_true rfl) (over_mid (m := 33) rfl hl2) rfl ?_))))))) | (apply sw_seq) | ((fail_if_success (refine g_reg (id := 7) ?_)); apply sw_region) | (apply at_thn)))
  repeat' ((first | (apply g_sl; (first | (apply ks_nil; refine sl_nil ?_) | (apply ks_move; refine s_move rfl rfl ?_) | (apply ks_bin; refine s_bin rfl rfl rfl ?_; ((refine bb_sneG rfl ?_))))) | (apply sw_skip) | (apply sw_region) | (refine sw_cd rfl ?_; ((apply gd_ft))) | (apply at_thn)))
  all_goals (skip)
  refine e_scf _ (by (exact .inl rfl)) rfl (fun _ hw => hw) ?_
  exact ⟨S', E ++ F ++ [.own 3 1 ao 1 co (ints [120])], rfl, by simp, hS2.mono (fun w hw => hw.sub ((List.sublist_append_left E F).trans (List.sublist_append_left _ _)))⟩
end Go.Proofs.YtmbfechiallppaaGreatDoor
end
section
namespace Go.Proofs.YtmbfechiallppaaGreatDoor
open Go Go.RowKit Go.Fw Go.Sx
set_option maxRecDepth 100000
set_option maxHeartbeats 2000000
attribute [local irreducible] SW SL SQ AtQ SV SC BB LD PK Yields SO SOT SOA SY negC
abbrev xT : List Tk := [(1, 0, 0, ⟨#[120]⟩)]
theorem x_out : (feedR 0 0 0 ⟨#[]⟩ false ⟨#[120]⟩).out = xT := by decide +kernel
theorem x_wire : (feedR 0 0 0 ⟨#[]⟩ false ⟨#[120]⟩).mode = 0 ∧ (feedR 0 0 0 ⟨#[]⟩ false ⟨#[120]⟩).cmd = 0 ∧ (feedR 0 0 0 ⟨#[]⟩ false ⟨#[120]⟩).opt = 0 ∧ (feedR 0 0 0 ⟨#[]⟩ false ⟨#[120]⟩).buf = [] ∧ (feedR 0 0 0 ⟨#[]⟩ false ⟨#[120]⟩).over = false := by decide +kernel
theorem bytes_x (G : Ctx) (H : List Ent) (M : Int) (hM : ∀ H w, Holds G H w → w.cell? ⟨2, 0, none⟩ = some (.int .i64 M)) (hT : ∀ H w, Holds G H w → Lib.Utf8Tabs 0 1 w)
    (s : Scr) (f : Fre s) (wb : Nat) (S N : List Value) (p0 p1 p2 : Value) (K : List Value) [hN : Len N 520] [hK : Len K 38] (buf : ByteArray) (ed : Bool) (sent : ByteArray) (h : ScS G H s S) (h0 : Int) (hh0 : N[256]? = some (.int .u8 h0)) (hh0' : (h0 == 1) = false) :
    SC Tryz.prog G 57 [.pointer (some ⟨wb, 0, none⟩), .string ⟨#[120]⟩] (.blk wb 101 (wkC S N [p0, p1, p2] K (cliW buf ed sent)) :: H) fun v H' => ∃ S' E, v = .int .i64 0 ∧ H' = .blk wb 101 (wkC S' N [p0, p1, p2] K (cliW buf ed sent)) :: (E ++ H) ∧ ScS G E (actS s 1 120) S' := by
  haveI hS : Len S 33 := ⟨h.len⟩
  have cF : ∀ H, SC Tryz.prog G 97 [wireV 0 0 0 ⟨#[]⟩ false, .string ⟨#[120]⟩] H (fun v H' => ∃ a' c', v = .tuple #[wireV 0 0 0 ⟨#[]⟩ false, .slice a' 1 c', .int .i64 0] ∧ H' = .own 200 4 a' 1 c' (toks xT) :: H) := fun H => by
    have h := feed_ok G H 0 0 0 ⟨#[]⟩ false ⟨#[120]⟩ (by decide +kernel) (by decide)
    obtain ⟨e1, e2, e3, e4, e5⟩ := x_wire
    rw [x_out] at h
    unfold wireR at h
    rw [e1, e2, e3, e4, e5, show strOfNums [] = (⟨#[]⟩ : ByteArray) from by decide +kernel] at h
    exact h
  have cD := fun H' (hh : ∀ w, Holds G H' w → Holds G H w) => data_x G H' M hM hT s f wb S N p0 p1 p2 K buf ed sent (h.mono hh) h0 hh0 hh0'
  have hlen := wk_len (S := S) (N := N) (K := K) (P := [p0, p1, p2]) (E := cliW buf ed sent) (k := 614) rfl rfl rfl
  have el0 : take? ((toks xT).drop ((0 : Int).toNat * 4)) 4 = some [.int .i64 1, .int .i64 0, .int .i64 0, .string ⟨#[120]⟩] := rfl
  have hlx : (toks xT).length = 1 * 4 := rfl
  generalize toks xT = vs at *
  clear hM hT
  refine sc_enter2 Tryz.func57 rfl rfl rfl rfl rfl ?_
  repeat' ((first | (apply g_sl; (first | (apply ks_nil; refine sl_nil ?_) | (apply ks_move; refine s_move rfl rfl ?_) | (apply ks_bin; refine s_bin rfl rfl rfl ?_; ((((refine bb_of rfl ?_))))) | (apply ks_load; ((refine s_load rfl rfl ?_; (first | refine ld_whole rfl ?_ | refine ld_part rfl rfl ?_)))) | (apply ks_asgn; refine s_asgn rfl rfl ?_) | (apply ks_field; (refine s_field (c_field0 rfl rfl) rfl ?_)) | (apply ks_extr; refine s_extr (y_extract rfl rfl rfl) rfl ?_) | (apply ks_nilc; refine s_nilc (y_nilCheck rfl rfl) rfl ?_) | (apply ks_fn; ((refine c_call rfl rfl rfl (cF _) rfl rfl ?_; rintro _ _ ⟨a1, c1, rfl, rfl⟩))) | (apply ks_bi; ((first | refine s_call (c_len rfl rfl) rfl ?_ | refine s_call (c_len_str rfl rfl) rfl ?_))) | (apply ks_store; ((first | refine c_storew rfl rfl rfl rfl rfl rfl rfl rfl ?_ | ((refine c_storepV (off := 0) (vs := [.int .i64 0, .int .i64 0, .int .i64 0, .string ⟨#[]⟩, .bool false]) rfl rfl rfl rfl rfl rfl (by rw [hlen]; exact Nat.le_of_ble_eq_true rfl) (over_pre rfl (List.cons_ne_nil _ _)) rfl ?_))))) | (apply ks_alloc; refine c_alloc rfl rfl rfl rfl (fun _ => ?_)))) | (apply sw_seq) | (apply sw_skip) | (apply sw_block) | (apply sw_region) | (refine sw_cd rfl ?_; ((apply gd_ft))) | (apply at_thn)))
  all_goals (skip)
  rename_i b5
  refine sw_held (.blk wb 101 (wkC S N [p0, p1, p2] K (cliW buf ed sent)) :: .blk b5 23 [.int .i64 0, .int .i64 0, .int .i64 0, .string ⟨#[]⟩, .bool false] :: .own 200 4 a1 1 c1 vs :: H) (fun _ hw => hw) ?_
  clear cF
  refine sw_loopN 2 (srd_succ ?_)
  repeat' ((first | (apply g_sl; (first | (apply ks_nil; refine sl_nil ?_) | (apply ks_move; refine s_move rfl rfl ?_) | (apply ks_bin; refine s_bin rfl rfl rfl ?_; ((((first | (apply kb_add; (refine bb_add ⟨by omega, by omega⟩ ?_)) | refine bb_of rfl ?_))))) | (apply ks_load; (first | (refine s_load rfl rfl ?_; (refine ld_cell rfl ?_)) | ((refine s_load rfl rfl ?_; refine ld_elems el0 rfl ?_)))) | (apply ks_asgn; refine s_asgn rfl rfl ?_) | (apply ks_field; (refine s_field (c_field0 rfl rfl) rfl ?_)) | (apply ks_indexA; (((refine s_indexA (c_indexAddr rfl rfl rfl hlx (by omega) (by omega)) rfl ?_)))) | (apply ks_fn; ((refine c_call rfl rfl rfl (sc_pullB (tb := wb) (cD _ (fun _ hw => hw.subs (by repeat ((exact Subs.sub (by repeat ((first | exact List.Sublist.refl _ | refine List.Sublist.cons _ ?_))))))))) rfl rfl ?_; rintro _ _ ⟨S', E, rfl, rfl, hS2⟩))) | (apply ks_store; ((refine c_storew rfl rfl rfl rfl rfl rfl rfl rfl ?_))) | (apply ks_alloc; refine c_alloc rfl rfl rfl rfl (fun _ => ?_)))) | (apply sw_seq) | (apply at_srd) | (apply sw_skip) | (apply sw_ret) | (apply sw_exit) | (apply sw_block) | (apply sw_region) | (refine sw_cd rfl ?_; (first | (apply gd_t) | (apply gd_ft))) | (apply at_thn) | (apply at_thn_exit) | (apply at_inb) | (apply at_inb_exit)))
  all_goals (skip)
  rename_i bq
  refine e_scf _ (by (exact .inr rfl)) rfl (fun _ hw => hw) ?_
  exact ⟨S', E ++ [.blk bq 200 [.int .i64 1, .int .i64 0, .int .i64 0, .string ⟨#[120]⟩], .blk b5 23 [.int .i64 0, .int .i64 0, .int .i64 0, .string ⟨#[]⟩, .bool false], .own 200 4 a1 1 c1 vs], rfl, by simp, hS2.mono (fun w hw => hw.sub (List.sublist_append_left E _))⟩
theorem typed_e (G : Ctx) (H : List Ent) (M : Int) (hM : ∀ H w, Holds G H w → w.cell? ⟨2, 0, none⟩ = some (.int .i64 M)) (hT : ∀ H w, Holds G H w → Lib.Utf8Tabs 0 1 w)
    (s s' : Scr) (f : Fre s) (wb : Nat) (S N : List Value) (p0 p1 p2 : Value) (K : List Value) [hN : Len N 520] [hK : Len K 38] (buf : ByteArray) (sent : ByteArray) (h : ScS G H s S)
    (u0 h1 : Int) (hu0 : N[0]? = some (.int .u8 u0)) (hu0' : (u0 == 1) = false) (hh1 : N[257]? = some (.int .u8 h1)) (hh1' : (h1 == 1) = false)
    (d d2 d3 : ByteArray) (hd : d.size ≤ 4000) (e2 : strOfNums (u8s (d.data.toList.flatMap outB)) = d2) (hd2 : d2.size ≤ 4000000) (e3 : escS d2 = d3) (hd3 : d3.size ≤ 8000000) (hz : sent.size ≤ 4000000)
    (d1 : ByteArray) (hd1 : (⟨(d.data.toList.flatMap (fun b => if b = 13 then [13, 10] else [b])).toArray⟩ : ByteArray) = d1) (hd1' : d1.size ≤ 8000) (r : ByteArray) (L : List Int) (e : Int) (hf : feedU ⟨#[]⟩ d1 = (r, L, e)) (hL : L.length ≤ 100000) (ha : acts s (runP p00 L).2 s') :
    SC Tryz.prog G 58 [.pointer (some ⟨wb, 0, none⟩), .string d, .int .i64 0] (.blk wb 101 (wkC S N [p0, p1, p2] K (cliW buf false sent)) :: H) fun v H' => ∃ S' E, v = .int .i64 0 ∧ H' = .blk wb 101 (wkC S' N [p0, p1, p2] K (cliW buf false (sent ++ d3))) :: (E ++ H) ∧ ScS G E s' S' := by
  haveI hS : Len S 33 := ⟨h.len⟩
  have cD := fun H' (hh : ∀ w, Holds G H' w → Holds G H w) => display_sc G H' M hM hT s s' f wb S N p0 p1 p2 K buf false (sent ++ d3) (h.mono hh) d d1 hd hd1 hd1' r L e hf hL ha
  have cI := fun (H : List Ent) [HasBlk H wb 101 (wkC S N [p0, p1, p2] K (cliW buf false (sent ++ d3)))] => him_sv G H wb S N [p0, p1, p2] K (cliW buf false (sent ++ d3)) 1 (by decide) h1 hh1 false hh1'
  have cX := fun H => text_sc G H M hM wb S N p0 p1 p2 K buf false sent u0 hu0 hu0' d d2 d3 (by omega) e2 hd2 e3 hz hd3
  clear hf hd1 hL ha hT hM
  refine sc_enter3 Tryz.func58 rfl rfl rfl rfl rfl ?_
  repeat' ((first | (apply g_sl; (first | (apply ks_nil; refine sl_nil ?_) | (apply ks_move; refine s_move rfl rfl ?_) | (apply ks_bin; refine s_bin rfl rfl rfl ?_; (((refine bb_of rfl ?_)))) | (apply ks_load; ((refine s_load rfl rfl ?_; (refine ld_cell (big_post rfl (big_post rfl (big_post rfl rfl))) ?_)))) | (apply ks_asgn; refine s_asgn rfl rfl ?_) | (apply ks_pick; refine s_pick rfl rfl ?_; ((apply kp_f; refine pk_f rfl ?_))) | (apply ks_field; (refine s_field (c_field0 rfl rfl) rfl ?_)) | (apply ks_un; refine s_un (y_un rfl rfl rfl) rfl ?_) | (apply ks_nilc; refine s_nilc (y_nilCheck rfl rfl) rfl ?_) | (apply ks_fn; ((first | (refine c_call rfl rfl rfl (sc_pullB (tb := wb) (cX _)) rfl rfl ?_; rintro _ _ ⟨rfl, rfl⟩) | refine c_callv rfl rfl rfl (cI _) rfl rfl ?_ | (refine c_call rfl rfl rfl (sc_pullB (tb := wb) (cD _ (fun _ hw => hw.subs (by repeat ((exact Subs.sub (by repeat ((exact List.Sublist.refl _))))))))) rfl rfl ?_; rintro _ _ ⟨S', E, rfl, rfl, hS2⟩)))) | (apply ks_guard; ((refine sl_gd rfl rfl rfl rfl ?_; ((apply gd_ft))))))) | (apply sw_seq) | (apply sw_skip) | (apply sw_ret) | (apply sw_region) | (refine sw_cd rfl ?_; (first | (apply gd_t) | (apply gd_ft))) | (apply at_thn)))
  all_goals (skip)
  refine e_scf _ (by (exact .inr rfl)) rfl (fun _ hw => hw) ?_
  exact ⟨S', E, rfl, rfl, hS2⟩
end Go.Proofs.YtmbfechiallppaaGreatDoor
end
section
namespace Go.Proofs.YtmbfechiallppaaGreatDoor
open Go Go.RowKit Go.Fw Go.Sx
set_option maxRecDepth 100000
set_option maxHeartbeats 2000000
attribute [local irreducible] SW SL SQ AtQ SV SC BB LD PK Yields SO SOT SOA SY negC
theorem do1x_sc (G : Ctx) (H : List Ent) (wb : Nat) (S N P K E : List Value) [hS : Len S 33] (m : Int) (hm : S[11]? = some (.int .i64 m)) (d : ByteArray) (s' : Scr) (E2 : List Value)
    (cB : ∀ H', (∀ w, Holds G H' w → Holds G H w) → SC Tryz.prog G 57 [.pointer (some ⟨wb, 0, none⟩), .string d] (.blk wb 101 (wkC S N P K E) :: H') fun v H'' => ∃ S' F, v = .int .i64 0 ∧ H'' = .blk wb 101 (wkC S' N P K E2) :: (F ++ H') ∧ ScS G F s' S') :
    SC Tryz.prog G 25 [.pointer (some ⟨wb, 0, none⟩), .agg (evC 1 d 0 0).toArray] (.blk wb 101 (wkC S N P K E) :: H) fun v H' => ∃ S' F, v = .int .i64 0 ∧ H' = .blk wb 101 (wkC S' N P K E2) :: (F ++ H) ∧ ScS G F s' S' := by
  have hv : (wkC S N P K E)[23]? = some (.int .i64 m) := by
    refine big_mid (by decide) ?_
    exact hm
  generalize wkC S N P K E = cs at *
  refine sc_enter2 Tryz.func25 rfl rfl rfl rfl rfl ?_
  repeat' ((first | (apply g_sl; (first | (apply ks_nil; refine sl_nil ?_) | (apply ks_move; refine s_move rfl rfl ?_) | (apply ks_bin; refine s_bin rfl rfl rfl ?_; (((refine bb_of rfl ?_)))) | (apply ks_load; (first | (refine s_load rfl rfl ?_; (refine ld_cell rfl ?_)) | (refine s_load rfl rfl ?_; refine ld_cell hv ?_))) | (apply ks_asgn; refine s_asgn rfl rfl ?_) | (apply ks_field; (first | refine s_field (c_field0 rfl rfl) rfl ?_ | refine s_field (c_field rfl rfl) rfl ?_)) | (apply ks_nilc; refine s_nilc (y_nilCheck rfl rfl) rfl ?_) | (apply ks_fn; ((refine c_call rfl rfl rfl (sc_pullB (tb := wb) (cB _ (fun _ hw => hw.subs (by repeat ((exact Subs.sub (by repeat ((first | exact List.Sublist.refl _ | refine List.Sublist.cons _ ?_))))))))) rfl rfl ?_; rintro _ _ ⟨S', F, rfl, rfl, hS2⟩))) | (apply ks_box; refine c_box rfl rfl rfl rfl rfl rfl (fun _ => ?_)))) | (apply sw_seq) | (apply sw_ret) | (apply sw_block) | (apply sw_region) | (refine sw_cd rfl ?_; ((apply gd_t))) | (apply at_thn) | (apply at_thn_ret) | (apply at_inb_ret)))
  all_goals (skip)
  rename_i b3
  refine e_scf _ (by (exact .inr rfl)) rfl (fun _ hw => hw) ?_
  exact ⟨S', F ++ [.blk b3 69 (evC 1 d 0 0)], rfl, by simp, hS2.mono (fun w hw => hw.sub (List.sublist_append_left F _))⟩
abbrev z8 : List Int := [0, 0, 0, 0, 0, 0, 0, 0]
theorem nWz_at : nW0.getD 256 0 = 0 ∧ nW0.getD 257 0 = 0 := by decide +kernel
theorem do_x (G : Ctx) (H : List Ent) (M : Int) (hM : ∀ H w, Holds G H w → w.cell? ⟨2, 0, none⟩ = some (.int .i64 M)) (hT : ∀ H w, Holds G H w → Lib.Utf8Tabs 0 1 w) (s : Scr) (f : Fre s) (S P : List Value) (h : CliS G H s S P) :
    SC Tryz.prog G 7 [.agg (wkC S (negC nW0 z8) P (octs kAll) (cliX ⟨#[]⟩ false)).toArray, .agg (evC 1 ⟨#[120]⟩ 0 0).toArray] H fun v H' => ∃ S2 P2 E, v = .tuple #[.agg (wkC S2 (negC nW0 z8) P2 (octs kAll) (cliX ⟨#[]⟩ false)).toArray, .string ⟨#[]⟩, .int .i64 0] ∧ H' = E ++ H ∧ CliS G E (actS s 1 120) S2 P2 := by
  haveI : Len (negC nW0 z8) 520 := ⟨negC_len nW0_len rfl⟩
  haveI : Len (octs kAll) 38 := ⟨by rw [octs_len]; exact kSet_len _⟩
  obtain ⟨a1, a2⟩ := nWz_at
  refine do_gen G H M hM s (actS s 1 120) f S P (negC nW0 z8) (negC nW0 z8) (octs kAll) h ⟨#[]⟩ ⟨#[]⟩ false false _ (by decide) (negC_all _ _) (negC_all _ _) (octs_all _) (fun H' => ?_) (fun H' => ?_) _ rfl rfl (fun H' wb S' P' hS' => ?_)
  · have h := negCheck_sv G H' nW0 z8 nW0_len rfl nW_oct.1
    rwa [nW0_ok] at h
  · have h := slcCheck_sv G H' kAll (kSet_len _)
    rwa [keys_ok] at h
  · obtain ⟨hs1, na, nc, va, vc, rfl, -⟩ := hS'
    haveI : Len S' 33 := ⟨hs1.len⟩
    have hm : S'[11]? = some (.int .i64 s.modes) := by
      obtain ⟨ga, gn, gc, oa, on, oc, pa, pn, pc, X, rfl, -⟩ := hs1
      rfl
    refine sc_imp (do1x_sc G H' wb S' (negC nW0 z8) _ (octs kAll) _ s.modes hm ⟨#[120]⟩ (actS s 1 120) _ (fun H2 hh => bytes_x G H2 M hM hT s f wb S' (negC nW0 z8) _ _ _ (octs kAll) ⟨#[]⟩ false ⟨#[]⟩ (hs1.mono hh) 0 (by rw [neg_at z8 nW0_len 256 (by decide), a1]) rfl)) fun v H'' => ?_
    rintro ⟨S2, F, rfl, rfl, hF⟩
    exact ⟨S2, F, rfl, rfl, .inl hF⟩
theorem do_y (G : Ctx) (H : List Ent) (M : Int) (hM : ∀ H w, Holds G H w → w.cell? ⟨2, 0, none⟩ = some (.int .i64 M)) (hT : ∀ H w, Holds G H w → Lib.Utf8Tabs 0 1 w) (s : Scr) (f : Fre s) (S P : List Value) (h : CliS G H s S P) :
    SC Tryz.prog G 7 [.agg (wkC S (negC nW0 z8) P (octs kAll) (cliX ⟨#[]⟩ false)).toArray, .agg (evC 2 ⟨#[]⟩ 0 121).toArray] H fun v H' => ∃ S2 P2 E, v = .tuple #[.agg (wkC S2 (negC nW0 z8) P2 (octs kAll) (cliX ⟨#[]⟩ false)).toArray, .string (⟨#[]⟩ ++ ⟨#[121]⟩), .int .i64 0] ∧ H' = E ++ H ∧ CliS G E (actS s 1 121) S2 P2 := by
  haveI : Len (negC nW0 z8) 520 := ⟨negC_len nW0_len rfl⟩
  haveI : Len (octs kAll) 38 := ⟨by rw [octs_len]; exact kSet_len _⟩
  obtain ⟨a1, a2⟩ := nWz_at
  obtain ⟨b1, b2, b3, b4, b5, b6⟩ := nW_at
  refine do_gen G H M hM s (actS s 1 121) f S P (negC nW0 z8) (negC nW0 z8) (octs kAll) h ⟨#[]⟩ ⟨#[]⟩ false false _ (by decide) (negC_all _ _) (negC_all _ _) (octs_all _) (fun H' => ?_) (fun H' => ?_) _ rfl rfl (fun H' wb S' P' hS' => ?_)
  · have h := negCheck_sv G H' nW0 z8 nW0_len rfl nW_oct.1
    rwa [nW0_ok] at h
  · have h := slcCheck_sv G H' kAll (kSet_len _)
    rwa [keys_ok] at h
  · obtain ⟨hs1, na, nc, va, vc, rfl, -⟩ := hS'
    haveI : Len S' 33 := ⟨hs1.len⟩
    have hm : S'[11]? = some (.int .i64 s.modes) := by
      obtain ⟨ga, gn, gc, oa, on, oc, pa, pn, pc, X, rfl, -⟩ := hs1
      rfl
    have e2 : strOfNums (u8s ((⟨#[121]⟩ : ByteArray).data.toList.flatMap outB)) = ⟨#[121]⟩ := by decide +kernel
    have e3 : escS ⟨#[121]⟩ = ⟨#[121]⟩ := by decide +kernel
    refine sc_imp (do2_sc G H' wb S' (negC nW0 z8) _ (octs kAll) _ s.modes hm 0 121 ⟨#[121]⟩ (actS s 1 121) _ (fun H2 => ?_) (fun H2 hh => typed_e G H2 M hM hT s (actS s 1 121) f wb S' (negC nW0 z8) _ _ _ (octs kAll) ⟨#[]⟩ ⟨#[]⟩ (hs1.mono hh) 0 0 (by rw [neg_at z8 nW0_len 0 (by decide), b2]) rfl (by rw [neg_at z8 nW0_len 257 (by decide), a2]) rfl ⟨#[121]⟩ _ _ (Nat.le_of_ble_eq_true rfl) e2 (Nat.le_of_ble_eq_true rfl) e3 (Nat.le_of_ble_eq_true rfl) (by decide) _ (echo_c 121 (by decide)) (Nat.le_of_ble_eq_true rfl) _ _ _ (feedU_c 121 (by decide)) (Nat.le_of_ble_eq_true rfl) (.inl ⟨1, 121, runP_c 121 (by decide), .inl ⟨rfl, by decide, width_c 121 (by decide)⟩, rfl⟩))) fun v H'' => ?_
    · have h := keyE_sv G H2 0 121 0 0 0 0 s.modes (by decide) (.inr rfl) (fun _ => by unfold isR; omega) (fun h => absurd rfl h) (by decide +kernel) (by decide +kernel) (by decide +kernel)
      rw [show plainB 0 121 0 0 = ⟨#[121]⟩ from key_c 121 (by decide)] at h
      exact h
    · rintro ⟨S2, F, rfl, rfl, hF⟩
      exact ⟨S2, F, rfl, rfl, .inl hF⟩
end Go.Proofs.YtmbfechiallppaaGreatDoor
end
section
namespace Go.Proofs.YtmbfechiallppaaGreatDoor
open Go Go.RowKit Go.Fw Go.Sx
set_option maxRecDepth 100000
set_option maxHeartbeats 2000000
theorem sc_fact {P : Program} {G : Ctx} {H : List Ent} {g : FuncId} {args : List Value} {R R' : Value → List Ent → Prop} (h : SC P G g args H R) (hi : ∀ v H' w, R v H' → Holds G H' w → R' v H') : SC P G g args H R' := ⟨h.1, fun w hw => (h.2 w hw).mono fun _ w' ⟨v, H', h1, h2, h3⟩ => ⟨v, H', h1, h2, hi v H' w' h3 h2⟩⟩
attribute [local irreducible] SW SL SQ AtQ SV SC BB LD PK Yields SO SOT SOA SY negC
theorem evBytes_sv (G : Ctx) (H : List Ent) (d : ByteArray) : SV Tryz.prog G 8 [.string d] H (.agg (evC 1 d 0 0).toArray) := by
  refine sv_enter1 Tryz.func8 rfl rfl rfl rfl rfl ?_
  repeat' ((first | (apply g_sl; (first | (apply ks_nil; refine sl_nil ?_) | (apply ks_move; refine s_move rfl rfl ?_) | (apply ks_build; (refine s_build (c_build rfl rfl rfl) rfl ?_)) | (apply ks_store; ((refine c_storew rfl rfl rfl rfl rfl rfl rfl rfl ?_))) | (apply ks_alloc; refine c_alloc rfl rfl rfl rfl (fun _ => ?_)))) | (apply sw_seq) | (apply sw_ret) | (apply sw_region) | (apply at_thn)))
  refine e_scc (H) (by (exact .inr rfl)) rfl (by (rfl)) rfl (fun _ hw => hw.subs (by repeat ((exact Subs.sub (by repeat ((first | exact List.Sublist.refl _ | refine List.Sublist.cons _ ?_))))))) ?_
  exact ⟨rfl, rfl⟩
theorem CliS.cells {G : Ctx} {E : List Ent} {s : Scr} {S P : List Value} (h : CliS G E s S P) (N K : List Value) [hN : Len N 520] [hK : Len K 38] (hN1 : N.all (·.oneCell') = true) (hK1 : K.all (·.oneCell') = true) (buf : ByteArray) (ed : Bool) : (wkC S N P K (cliX buf ed)).length = 613 ∧ (wkC S N P K (cliX buf ed)).all (·.oneCell') = true := by
  haveI : Len S 33 := ⟨h.1.len⟩
  have hlP : P.length = 3 := by obtain ⟨_, _, _, _, h, -⟩ := h.2; rw [h]; rfl
  have hP1 : P.all (·.oneCell') = true := by obtain ⟨_, _, _, _, h, -⟩ := h.2; rw [h]; rfl
  exact ⟨wk_len hlP rfl rfl, big_all rfl h.1.one (big_all rfl hN1 (big_all hP1 hK1 rfl))⟩
theorem fresh_sc (G : Ctx) (H : List Ent) (w h : Nat) (hw : 1 ≤ w ∧ w ≤ 160) (hh : 1 ≤ h ∧ h ≤ 60) (x : Nat → Int) :
    SC Tryz.prog G 6 [.int .i64 w, .int .i64 h, .agg (endsL x).toArray] H fun v H' => ∃ S P E, v = .tuple #[.agg (wkC S (negC nW0 (endsX x)) P (octs kAll) (cliX ⟨#[]⟩ false)).toArray, .int .i64 0] ∧ H' = E ++ H ∧ CliS G E (newS w h) S P := by
  haveI : Len (negC nW0 (endsX x)) 520 := ⟨negC_len nW0_len rfl⟩
  haveI : Len (octs kAll) 38 := ⟨by rw [octs_len]; exact kSet_len _⟩
  have hz := cliZ_len
  have hcn : (newS w h).C.length = w * h := by show (List.replicate _ _).length = _; rw [List.length_replicate]
  have hdn : (newS w h).D.length = w * h := by show (List.replicate _ _).length = _; rw [List.length_replicate]
  have hE : ∀ (ga oa : Option Addr) (oc : Nat) (na : Option Addr) (nc : Nat) (xa : Option Addr) (xc : Nat), w * h ≤ oc → CliS G [.own 143 4 xa 0 xc (vrs []), .own 9 1 na 1 nc (strs [xterm]), .own 104 4 oa (w * h) oc (qds (newS w h).D), .own 104 4 ga (w * h) (w * h) (qds (newS w h).C)] (newS w h) (scnC (newS w h) ga (w * h) (w * h) oa (w * h) oc none 0 0) (cliP na 1 nc 0 xa 0 xc) := by
    intro ga oa oc na nc xa xc ho
    refine ⟨⟨ga, w * h, w * h, oa, w * h, oc, none, 0, 0, [], rfl, ⟨inferInstance, inferInstance, ⟨fun w _ => At.nil w none⟩, fun _ hx => (nomatch hx), rfl, hcn.symm, hdn.symm, rfl, Nat.le_refl _, ho⟩⟩, na, nc, xa, xc, rfl, inferInstance, inferInstance, inferInstance⟩
  have hnew : ∀ (S : List Value) (na : Option Addr) (nc : Nat) (xa : Option Addr) (xc : Nat), newC S x na 1 nc xa 0 xc = wkC S (negC nW0 (endsX x)) (cliP na 1 nc 0 xa 0 xc) (octs kAll) (cliX ⟨#[]⟩ false) := fun S na nc xa xc => by
    unfold newC wkC nW0
    rw [show cliE = cliX ⟨#[]⟩ false from rfl]
    unfold big
    rw [List.append_assoc, List.nil_append]
  have cN0 := fun (H : List Ent) (a : Option Addr) (c : Nat) (h1 : RdC G H a [.string ⟨#[88, 84, 69, 82, 77]⟩]) (h2 : RdC G H none (vrs [])) => cliNew_ok (h1 := h1) G H w h hw hh [xterm] a 1 c [] none 0 0 x rfl (fun y hy => by rw [List.mem_singleton] at hy; subst hy; decide) (by decide) rfl (by decide) (by decide +kernel) (by decide +kernel)
    (fun H a c _ _ => by
      have h := sortsCheck_sv G H [xterm] a 1 c 0 rfl (fun y hy => by rw [List.mem_singleton] at hy; subst hy; decide) (by decide)
      exact h)
    (fun H _ => envWrite_sv G H [] none 0 0 rfl rfl (by decide))
  have cN : ∀ (H : List Ent) (a : Option Addr) (c : Nat), RdC G H a [.string ⟨#[88, 84, 69, 82, 77]⟩] → RdC G H none (vrs []) → SC Tryz.prog G 22 [.int .i64 w, .int .i64 h, .slice a 1 c, .slice none 0 0, .agg (endsL x).toArray] H fun v H' => ∃ S P E, v = .tuple #[.agg (wkC S (negC nW0 (endsX x)) P (octs kAll) (cliX ⟨#[]⟩ false)).toArray, .int .i64 0] ∧ H' = E ++ H ∧ CliS G E (newS w h) S P := fun H a c h1 h2 => sc_fact (cN0 H a c h1 h2) (by
    rintro v H' w0 ⟨ga, oa, oc, na, nc, xa, xc, rfl, rfl⟩ hw0
    have hoc : w * h ≤ oc := (capOwn (G := G) (e := 104) (sz := 4) (xs := qds (newS w h).D) (H := .own 104 4 ga (w * h) (w * h) (qds (newS w h).C) :: H)).here w0 hw0.drop.drop
    exact ⟨_, _, _, by rw [hnew], rfl, hE ga oa oc na nc xa xc hoc⟩)
  clear cN0 hE hnew
  refine sc_enter3 Tryz.func6 rfl rfl rfl rfl rfl ?_
  repeat' ((first | (apply g_sl; (first | (apply ks_nil; refine sl_nil ?_) | (apply ks_asgn; refine s_asgn rfl rfl ?_) | (apply ks_box; refine c_box rfl rfl rfl rfl rfl rfl (fun _ => ?_)) | (apply ks_alloc; refine c_alloc rfl rfl rfl rfl (fun _ => ?_)))) | (apply sw_seq) | ((fail_if_success (refine g_reg (id := 1) ?_)); apply sw_region) | (apply at_thn)))
  haveI hv0 : ∀ H, RdC G H none (vrs []) := fun H => ⟨fun _ _ => .inl rfl⟩
  clear hcn hdn
  generalize newS w h = s0 at *
  rename_i b5 b6
  repeat' ((first | (apply g_sl; (first | (apply ks_nil; refine sl_nil ?_) | (apply ks_move; refine s_move rfl rfl ?_) | (apply ks_load; ((refine s_load rfl rfl ?_; (refine ld_whole rfl ?_)))) | (apply ks_asgn; refine s_asgn rfl rfl ?_) | (apply ks_extr; refine s_extr (y_extract rfl rfl rfl) rfl ?_) | (apply ks_fn; ((refine c_call rfl rfl rfl (cN _ _ _ inferInstance (hv0 _)) rfl rfl ?_; rintro _ _ ⟨S, P, E, rfl, rfl, hE1⟩; (obtain ⟨hl, ho⟩ := hE1.cells (negC nW0 (endsX x)) (octs kAll) (negC_all _ _) (octs_all _) ⟨#[]⟩ false);  (generalize hC : wkC S (negC nW0 (endsX x)) P (octs kAll) (cliX ⟨#[]⟩ false) = C at *)))) | (apply ks_store; (((refine c_storewV rfl rfl rfl rfl ho hl hz rfl ?_)))) | (apply ks_bs; (refine c_buildSlice rfl rfl rfl rfl rfl rfl rfl rfl rfl rfl (fun _ => ?_))))) | (apply sw_ret) | (apply sw_region) | (apply at_thn)))
  refine e_scc (E ++ H) (by (exact .inr rfl)) rfl hl rfl (fun _ hw => hw.sub (by repeat ((first | exact List.Sublist.refl _ | refine List.Sublist.append (List.Sublist.refl _) ?_ | refine List.Sublist.cons _ ?_)))) ⟨S, P, E, by rw [hC]; rfl, rfl, hE1⟩
theorem x_cells : (actS (newS 3 1) 1 120).C = [(120, 0, 0, 0), (32, 0, 0, 0), (32, 0, 0, 0)] := by decide +kernel
theorem lives_sv (G : Ctx) (H : List Ent) (M : Int) (hM : ∀ H w, Holds G H w → w.cell? ⟨2, 0, none⟩ = some (.int .i64 M)) (hT : ∀ H w, Holds G H w → Lib.Utf8Tabs 0 1 w) :
    SV Tryz.prog G 9 [] H (.bool true) := by
  haveI : Len (negC nW0 z8) 520 := ⟨negC_len nW0_len rfl⟩
  haveI : Len (octs kAll) 38 := ⟨by rw [octs_len]; exact kSet_len _⟩
  have f1 : Fre (newS 3 1) := Fre.new (by decide)
  have f2 : Fre (actS (newS 3 1) 1 120) := f1.act (.inl ⟨rfl, by decide, width_c 120 (by decide)⟩)
  have cF : ∀ H, SC Tryz.prog G 6 [.int .i64 3, .int .i64 1, .agg #[.int .u64 0, .int .u64 0, .int .u64 0, .int .u64 0, .int .u64 0, .int .u64 0, .int .u64 0, .int .u64 0]] H fun v H' => ∃ S P E, v = .tuple #[.agg (wkC S (negC nW0 z8) P (octs kAll) (cliX ⟨#[]⟩ false)).toArray, .int .i64 0] ∧ H' = E ++ H ∧ CliS G E (newS 3 1) S P := fun H => fresh_sc G H 3 1 (by decide) (by decide) (fun _ => 0)
  have cE := fun H => evBytes_sv G H ⟨#[120]⟩
  have cX0 := fun (H : List Ent) (S P : List Value) (E : List Ent) (hE : CliS G E (newS 3 1) S P) (hh : ∀ w, Holds G H w → Holds G E w) => do_x G H M hM hT (newS 3 1) f1 S P (hE.mono hh)
  have cY0 := fun (H : List Ent) (S P : List Value) (E : List Ent) (hE : CliS G E (actS (newS 3 1) 1 120) S P) (hh : ∀ w, Holds G H w → Holds G E w) => do_y G H M hM hT (actS (newS 3 1) 1 120) f2 S P (hE.mono hh)
  have hcell : ∀ (E : List Ent) (s : Scr) (S P : List Value) (h : CliS G E s S P), _ := fun E s S P h => h.cells (negC nW0 z8) (octs kAll) (negC_all _ _) (octs_all _) ⟨#[]⟩ false
  have hz := cliZ_len
  have hxc := x_cells
  clear f1 f2
  generalize hs1 : newS 3 1 = s1 at *
  generalize hs2 : actS s1 1 120 = s2 at *
  clear hM hT
  refine sv_enter0 Tryz.func9 rfl rfl rfl rfl rfl ?_
  repeat' ((first | (apply g_sl; (first | (apply ks_nil; refine sl_nil ?_) | (apply ks_move; refine s_move rfl rfl ?_) | (apply ks_asgn; refine s_asgn rfl rfl ?_) | (apply ks_extr; refine s_extr (y_extract rfl rfl rfl) rfl ?_) | (apply ks_build; (refine s_build (c_build rfl rfl rfl) rfl ?_)) | (apply ks_fn; ((refine c_call rfl rfl rfl (cF _) rfl rfl ?_; rintro _ _ ⟨S, P, E, rfl, rfl, hE⟩; (obtain ⟨hl, ho⟩ := hcell _ _ _ _ hE); (have cX := fun H hh => cX0 H S P E hE hh); (generalize hC : wkC S (negC nW0 z8) P (octs kAll) (cliX ⟨#[]⟩ false) = C at *)))) | (apply ks_store; (((refine c_storewV rfl rfl rfl rfl ho hl hz rfl ?_)))) | (apply ks_alloc; refine c_alloc rfl rfl rfl rfl (fun _ => ?_)))) | (apply sw_seq) | ((fail_if_success (refine g_reg (id := 2) ?_)); apply sw_region) | (apply at_thn)))
  rename_i b1
  have hlb : Nat.beq C.length 613 = true := by rw [hl]; rfl
  refine sw_cut1 (α := List Value × List Value × List Ent) (fun _ => [(1, .pointer (some ⟨b1, 0, none⟩)), (2, .int .i64 0), (3, .string ⟨#[]⟩), (4, .int .i64 0)]) (fun g => .blk b1 55 (wkC g.1 (negC nW0 z8) g.2.1 (octs kAll) (cliX ⟨#[]⟩ false)) :: (g.2.2 ++ H)) (fun g => CliS G g.2.2 s2 g.1 g.2.1) ?_ ?_
  · repeat' ((first | (apply g_sl; (first | (apply ks_nil; refine sl_nil ?_) | (apply ks_load; (((refine s_load rfl rfl ?_; refine ld_whole hlb ?_)))) | (apply ks_fn; ((first | refine c_callv rfl rfl rfl (cE _) rfl rfl ?_ | (refine c_call rfl rfl rfl (cX _ (fun _ hw => hw.sub (by repeat ((first | exact List.sublist_append_left _ _ | refine List.Sublist.cons _ ?_))))) rfl rfl ?_; rintro _ _ ⟨S2, P2, E2, rfl, rfl, hE2⟩; (obtain ⟨hl2, ho2⟩ := hcell _ _ _ _ hE2); (have cY := fun H hh => cY0 H S2 P2 E2 hE2 hh); (generalize hC2 : wkC S2 (negC nW0 z8) P2 (octs kAll) (cliX ⟨#[]⟩ false) = C2 at *))))) | (apply ks_store; ((((refine c_storewV rfl rfl rfl rfl ho2 hl2 hl rfl ?_))))))) | (apply g_atso; refine so_back (k := 0) (fun _ hw => hw.sub (by repeat ((first | exact List.Sublist.refl _ | refine List.Sublist.cons _ ?_ | refine List.Sublist.trans ?_ (List.sublist_append_right _ _))))) ?_) | (apply g_sot; (first | (refine sot_skip rfl ?_) | (refine sot_take rfl rfl rfl rfl (by kernel_rfl) (by decide +kernel) (by decide +kernel) ?_; ((first | (apply ky_move; refine sy_val (y_move rfl rfl) ?_) | (apply ky_asgn; refine sy_val (y_assign rfl rfl) ?_) | (apply ky_extr; refine sy_val (y_extract rfl rfl rfl) ?_)))) | (refine sot_next rfl ?_) | (refine so_done (by decide +kernel) ?_) | (refine sot_all (by kernel_rfl) ?_))) | (apply g_soa; (first | (refine soa_end rfl) | (refine soa_no (by decide +kernel) ?_) | (refine soa_yes rfl ?_ ?_))) | ((refine g_reg (id := 2) ?_; refine c_drawnoB (b := b1) ?_))))
    all_goals
      subst hC2
      exact at_meet (S2, P2, E2) hE2 (by repeat ((first | exact Le.nil _ | refine Le.cons (by (rfl)) ?_))) (fun _ hw => hw.sub (by repeat ((first | exact List.Sublist.refl _ | refine List.Sublist.append (List.Sublist.refl _) ?_ | refine List.Sublist.cons_cons _ ?_ | refine List.Sublist.trans ?_ (List.sublist_append_right _ _)))))
  rintro ⟨S2, P2, E2⟩ hE2
  dsimp only at hE2 ⊢
  (obtain ⟨hl2, ho2⟩ := hcell _ _ _ _ hE2)
  have cY := fun H hh => cY0 H S2 P2 E2 hE2 hh
  obtain ⟨ga, gn, gc, hS14, hgn, hr⟩ : ∃ (ga : Option Addr) (gn gc : Nat), (wkC S2 (negC nW0 z8) P2 (octs kAll) (cliX ⟨#[]⟩ false))[14]? = some (.slice ga gn gc) ∧ gn = 3 ∧ RdC G E2 ga (qds [(120, 0, 0, 0), (32, 0, 0, 0), (32, 0, 0, 0)]) := by
    obtain ⟨⟨ga, gn, gc, oa, on, oc, pa, pn, pc, X, rfl, hS⟩, -⟩ := hE2
    have h1 := hS.g
    have h2 := hS.gn'
    rw [hxc] at h1 h2
    exact ⟨ga, gn, gc, big_mid (by decide) rfl, h2, h1⟩
  subst hgn
  generalize hC2 : wkC S2 (negC nW0 z8) P2 (octs kAll) (cliX ⟨#[]⟩ false) = C2 at *
  have hlb2 : Nat.beq C2.length 613 = true := by rw [hl2]; rfl
  clear cX hlb cX0 cY0 cF
  repeat' ((first | (apply g_sl; (first | (apply ks_nil; refine sl_nil ?_) | (apply ks_move; refine s_move rfl rfl ?_) | (apply ks_load; (((refine s_load rfl rfl ?_; refine ld_whole hlb2 ?_)))) | (apply ks_asgn; refine s_asgn rfl rfl ?_) | (apply ks_extr; refine s_extr (y_extract rfl rfl rfl) rfl ?_) | (apply ks_build; (refine s_build (c_build rfl rfl rfl) rfl ?_)) | (apply ks_fn; ((refine c_call rfl rfl rfl (cY _ (fun _ hw => hw.sub (by repeat ((first | exact List.sublist_append_left _ _ | refine List.Sublist.cons _ ?_))))) rfl rfl ?_; rintro _ _ ⟨S3, P3, E3, rfl, rfl, hE3⟩; (obtain ⟨hl3, ho3⟩ := hcell _ _ _ _ hE3); (generalize hC3 : wkC S3 (negC nW0 z8) P3 (octs kAll) (cliX ⟨#[]⟩ false) = C3 at *)))) | (apply ks_store; ((((refine c_storewV rfl rfl rfl rfl ho3 hl3 hz rfl ?_))))) | (apply ks_alloc; refine c_alloc rfl rfl rfl rfl (fun _ => ?_)))) | (apply sw_seq) | ((fail_if_success (refine g_reg (id := 4) ?_)); apply sw_region) | (apply at_thn)))
  rename_i b5
  have hin : ∀ w, Holds G (.blk b5 55 C3 :: (E3 ++ .blk b1 55 C2 :: (E2 ++ H))) w → Holds G (.blk b1 55 C2 :: (E2 ++ H)) w := (fun _ hw => hw.sub (by repeat ((first | exact List.Sublist.refl _ | refine List.Sublist.cons _ ?_ | refine List.Sublist.trans ?_ (List.sublist_append_right _ _)))))
  refine sw_held _ hin ?_
  haveI hri : RdC G (.blk b1 55 C2 :: (E2 ++ H)) ga (qds [(120, 0, 0, 0), (32, 0, 0, 0), (32, 0, 0, 0)]) := ⟨fun w hw => hr.here w (hw.sub (.cons _ (List.sublist_append_left E2 H)))⟩
  have hlx : (qds [(120, 0, 0, 0), (32, 0, 0, 0), (32, 0, 0, 0)]).length = 3 * 4 := rfl
  have hel : (qds [(120, 0, 0, 0), (32, 0, 0, 0), (32, 0, 0, 0)])[(0 : Int).toNat * 4 + 0]? = some (.int .i64 120) := rfl
  generalize qds [(120, 0, 0, 0), (32, 0, 0, 0), (32, 0, 0, 0)] = vs at *
  clear hE2 hr hin cY hE3 hE
  repeat' ((first | (apply g_sl; (first | (apply ks_nil; refine sl_nil ?_) | (apply ks_move; refine s_move rfl rfl ?_) | (apply ks_bin; refine s_bin rfl rfl rfl ?_; ((first | (refine bb_seqT rfl ?_) | ((refine bb_of rfl ?_))))) | (apply ks_load; (((refine s_load rfl rfl ?_; (first | refine ld_cell hS14 ?_ | refine ld_elem hel ?_))))) | (apply ks_asgn; refine s_asgn rfl rfl ?_) | (apply ks_pick; refine s_pick rfl rfl ?_; ((apply kp_t; refine pk_t rfl ?_))) | (apply ks_field; (first | refine s_field (c_field0 rfl rfl) rfl ?_ | refine s_field (c_field rfl rfl) rfl ?_)) | (apply ks_indexA; (((refine s_indexA (c_indexAddr rfl rfl rfl hlx (by omega) (by omega)) rfl ?_)))) | (apply ks_bi; ((refine s_call (c_len rfl rfl) rfl ?_))) | (apply ks_guard; ((refine sl_gd rfl rfl rfl rfl ?_; ((apply gd_t))))) | ((refine s_field (c_fieldE rfl rfl (by rw [hlx]; decide)) rfl ?_)))) | (apply sw_ret) | (apply sw_region) | (apply at_thn)))
  all_goals (skip)
  refine e_sv (by (exact .inr rfl)) rfl (.cons _ (List.sublist_append_right E2 H)) ?_
  rfl
end Go.Proofs.YtmbfechiallppaaGreatDoor
end
