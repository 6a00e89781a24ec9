/- Texts of this claim, merged: Cli3 Utf Utf2 Utf3 Utf4 Utf6 Utf7 MaskW MaskW2 MaskW3 LineP LineC IacP NvtP IacQ Nvt Nvt2 Iac IacR IacU IacF Env Env4 Cli5 Cli6 Cli7 Cli8 Line. -/
import Derived.Test.YtmbfechiallppaaGreatDoorTl4
import Derived.WalkKit
import Derived.WalkSpells
import Derived.WalkLawsBesides
import Derived.Handy
import Derived.Lib.Hide
import Derived.Laws.BitsAllLaws
import Derived.Deep.MidRow
import Derived.Deep.WholeRow
import Derived.BigQuiet
import Derived.Laws.CopyOwn
import Derived.Deep.QuietTactic
import Derived.Laws.AppendOwnNone
import Derived.Laws.MakeOwn
import Derived.Laws.IdiomStrings
import Derived.OrdersHeld
import Derived.Lib.SliceRun
import Derived.ChangeKeysEq
import Derived.Laws.CopyRow
import Derived.Test.YtmbfechiallppaaGreatDoorRows
import Derived.Lib.AppendStr
import Derived.ArgAppend
import Derived.Laws.RangeAny
import Derived.Maps.RangeRun
import Derived.StillTailTactics
import Derived.RegionTactic
import Derived.ChangeAlike
import Derived.Lib.Replace
import Derived.Shelf.Strings.Builder1
import Derived.Shelf.Strings.Builder2
import Derived.Shelf.Strings.OnBuilder
import Derived.Shelf.Strings.Trim
import Derived.Shelf.Small.Utf8
import Derived.Shelf.Small.Strs
import Derived.Shelf.Strings.BuilderF
import Derived.Shelf.Strconv.Itoa0
import Derived.Shelf.Strconv.Itoa1
import Derived.Shelf.LaysM
import Derived.Shelf.Strconv.Itoa2
import Derived.Shelf.Strconv.Itoa3
import Derived.Shelf.Strings.Search1
import Derived.Shelf.Strings.Search2
import Derived.Shelf.Strings.Search3
import Derived.Shelf.Strings.Count
import Derived.Shelf.Strings.Shaped
import Derived.Shelf.Strings.LastIndex
import Derived.Shelf.Strings.Prefix
import Derived.Shelf.Strings.Split
import Derived.Shelf.Strings.Replace
import Derived.Shelf.Strings.Runes
import Derived.Shelf.Strings.AsciiSet
import Derived.Shelf.Bits.Mul64
import Derived.Shelf.Strings.Repeat
import Derived.Shelf.Unicode.DecodeSlow
import Derived.Shelf.Unicode.DecodeAny
import Derived.Test.YtmbfechiallppaaGreatDoorProg
import Derived.Lib.Repeat
import Derived.Lib.DecodeN
import Derived.Lib.Join
import Derived.Lib.IndexLaws
import Derived.Lib.IndexMore
import Derived.Lib.SplitLaws
import Derived.Lib.Bytealg
section
namespace Go.Proofs.YtmbfechiallppaaGreatDoor
open Go Go.RowKit Go.Fw Go.Sx
set_option maxRecDepth 100000
set_option maxHeartbeats 2000000
instance : MapT Tryz.prog 146 3 5 (.int .i64) := ⟨Tryz.underlying146, Tryz.underlying3, rfl⟩
instance : MapT Tryz.prog 270 3 3 (.int .i64) := ⟨Tryz.underlying270, Tryz.underlying3, rfl⟩
attribute [local irreducible] SW SL SQ AtQ SV SC BB LD PK Yields SO SOT SOA SY negC
/-- What may be on, eight words. -/
abbrev endsL (x : Nat → Int) : List Value := [.int .u64 (x 0), .int .u64 (x 1), .int .u64 (x 2), .int .u64 (x 3), .int .u64 (x 4), .int .u64 (x 5), .int .u64 (x 6), .int .u64 (x 7)]
abbrev endsX (x : Nat → Int) : List Int := [x 0, x 1, x 2, x 3, x 4, x 5, x 6, x 7]
/-- A new client. -/
def newC (S : List Value) (x : Nat → Int) (na : Option Addr) (nn nc : Nat) (va : Option Addr) (vn vc : Nat) : List Value :=
  big (cli0 ++ S) (negC (List.replicate 512 0) (endsX x)) (big (cliP na nn nc 0 va vn vc) (octs (kSet fun _ => true)) cliE)
theorem cliNew_ok (G : Ctx) (H : List Ent) (w h : Nat) (hw : 1 ≤ w ∧ w ≤ 160) (hh : 1 ≤ h ∧ h ≤ 60) (l : List ByteArray) (a : Option Addr) (n c : Nat) (L : List Vr) (va : Option Addr) (vn vc : Nat) (x : Nat → Int) [h1 : RdC G H a (strs l)] [h2 : RdC G H va (vrs L)]
    (hn : n = l.length) (hz : ∀ y ∈ l, y.size ≤ maxLen) (hm : n ≤ 100000000) (hvn : vn = L.length) (hvm : vn ≤ 100000000) (hs : sortsE l 0 = 0) (hv : (writeV L).2 = 0)
    (cS : ∀ (H : List Ent) (a : Option Addr) (c : Nat) [RdC G H a (strs l)] [CapC G H a n c], SV Tryz.prog G 49 [sortsV a n c 0] H (.int .i64 (sortsE l 0)))
    (cW : ∀ (H : List Ent) [RdC G H va (vrs L)], SV Tryz.prog G 50 [.slice va vn vc] H (.tuple #[.string (writeV L).1, .int .i64 (writeV L).2])) :
    SC Tryz.prog G 22 [.int .i64 w, .int .i64 h, .slice a n c, .slice va vn vc, .agg (endsL x).toArray] H fun v H' => ∃ ga oa oc na nc xa xc, v = .tuple #[.agg (newC (scnC (newS w h) ga (w * h) (w * h) oa (w * h) oc none 0 0) x na n nc xa vn xc).toArray, .int .i64 0] ∧
      H' = .own 143 4 xa vn xc (vrs L) :: .own 9 1 na n nc (strs l) :: .own 104 4 oa (w * h) oc (qds (newS w h).D) :: .own 104 4 ga (w * h) (w * h) (qds (newS w h).C) :: H := by
  rw [hs] at cS
  rw [hv] at cW
  have cN := fun H => scrNew_sc G H w h hw hh
  have hls : (strs l).length = n * 1 := by simp [strs, hn]
  have hlv : (vrs L).length = vn * 4 := by unfold vrs; rw [fm_len, hvn]
  have hos := strs_one l
  have hov := vrs_one L
  have cC1 := fun (H : List Ent) [RdC G H a (strs l)] => cloneS_sc G H a n c hls hos hm
  have cC2 := fun (H : List Ent) [RdC G H va (vrs L)] => cloneV_sc G H va vn vc hlv hov hvm
  generalize (newS w h).C = SC' at *
  generalize (newS w h).D = SD' at *
  clear hs hv hn hvn
  generalize (writeV L).1 = s0 at *
  have hB := fun (na : Option Addr) (nc : Nat) (xa : Option Addr) (xc : Nat) (S : List Value) (hS : S.length = 33) => cliFill S (negC (List.replicate 512 0) (endsX x)) hS (negC_len (by simp) rfl) na n nc xa vn xc
  have hlN := negC_len (W := List.replicate 512 0) (X := endsX x) (by simp) rfl
  have hNF := negFillC (x 0) (x 1) (x 2) (x 3) (x 4) (x 5) (x 6) (x 7)
  have hone := negC_all (List.replicate 512 0) (endsX x)
  haveI hLN : Len (negC (List.replicate 512 0) (endsX x)) 520 := ⟨hlN⟩
  generalize hNd : negC (List.replicate 512 0) (endsX x) = N at *
  generalize w * h = p at *
  refine sc_enter5 Tryz.func22 rfl rfl rfl rfl rfl ?_
  repeat' ((first | (apply g_sl; (first | (apply ks_nil; refine sl_nil ?_) | (apply ks_move; refine s_move rfl rfl ?_) | (apply ks_bin; refine s_bin rfl rfl rfl ?_; (((refine bb_of rfl ?_)))) | (apply ks_asgn; refine s_asgn rfl rfl ?_) | (apply ks_extr; refine s_extr (y_extract rfl rfl rfl) rfl ?_) | (apply ks_fn; (((refine c_call rfl rfl rfl (cN _) rfl rfl ?_; rintro _ _ ⟨ga, oa, oc, rfl, rfl⟩)))) | (apply ks_store; ((refine c_storew rfl rfl rfl rfl rfl rfl rfl rfl ?_))) | (apply ks_box; refine c_box rfl rfl rfl rfl rfl rfl (fun _ => ?_)) | (apply ks_alloc; refine c_alloc rfl rfl rfl rfl (fun _ => ?_)))) | (apply sw_seq) | (apply sw_skip) | ((fail_if_success (refine g_reg (id := 4) ?_)); apply sw_region) | (refine sw_cd rfl ?_; ((apply gd_ft))) | (apply at_thn)))
  all_goals (skip)
  have hcl : ∀ (S P : List Value), S.length = 33 → P.length = 3 → (big (cli0 ++ S) N (big P keyZ cliE)).length = 613 := fun S P hS hP => by
    rw [big_len (m := 520) (k := 613) (by rw [show (big P keyZ cliE).length = 48 from big_len (m := 38) (by rw [hP]; rfl), List.length_append, hS]; rfl)]
  have hzl : cliZ.length = 613 := by unfold cliZ; exact big_len (m := 520) (by rw [show (big [Value.slice none 0 0, .int .i64 0, .slice none 0 0] keyZ cliE).length = 48 from big_len (m := 38) rfl]; rfl)
  have hal : ∀ (S P : List Value), S.all (·.oneCell') = true → P.all (·.oneCell') = true → (big (cli0 ++ S) N (big P keyZ cliE)).all (·.oneCell') = true := fun S P hS hP => big_all (by rw [List.all_append, hS]; rfl) hone (big_all hP (by decide +kernel) rfl)
  rename_i b1 b2 b3
  refine sw_cut1 (α := Nat × Option Addr × Nat × Option Addr × Nat) (fun g => [(3, .slice va vn vc), (10, .pointer (some ⟨b2, 0, none⟩)), (14, .pointer (some ⟨g.1, 0, none⟩))])
    (fun g => .blk g.1 55 (big (cli0 ++ scnC (newS w h) ga p p oa p oc none 0 0) N (big (cliP g.2.1 n g.2.2.1 0 g.2.2.2.1 vn g.2.2.2.2) keyZ cliE)) :: .own 143 4 g.2.2.2.1 vn g.2.2.2.2 (vrs L) :: .own 9 1 g.2.1 n g.2.2.1 (strs l) :: .own 104 4 oa p oc (qds SD') :: .own 104 4 ga p p (qds SC') :: .blk b2 55 cliZ :: H) (fun _ => True) ?_ ?_
  · repeat' ((first | (apply g_sl; (first | (apply ks_nil; refine sl_nil ?_) | (apply ks_fn; ((first | (refine c_call rfl rfl rfl (cC1 _) rfl rfl ?_; rintro _ _ ⟨na, nc, rfl, rfl⟩) | (refine c_call rfl rfl rfl (cC2 _) rfl rfl ?_; rintro _ _ ⟨xa, xc, rfl, rfl⟩)))) | (apply ks_store; ((((refine c_storewV rfl rfl rfl rfl (hal _ _ rfl rfl) (hcl _ _ rfl rfl) hzl rfl ?_))))) | (apply ks_alloc; refine c_alloc rfl rfl rfl rfl (fun _ => ?_)))) | (apply g_atso; refine so_back (k := 0) (fun _ hw => hw.subs (by repeat ((first | refine Subs.cons (by repeat constructor) ?_ | exact Subs.sub (by repeat ((first | exact List.Sublist.refl _ | refine List.Sublist.cons _ ?_))))))) ?_) | (apply g_sot; (first | (refine sot_skip rfl ?_) | (refine sot_take rfl rfl rfl rfl (by kernel_rfl) (by decide +kernel) (by decide +kernel) ?_; ((first | (apply ky_move; refine sy_val (y_move rfl rfl) ?_) | (apply ky_load; ((refine sy_load rfl ?_; (first | refine ld_whole rfl ?_ | refine ld_part rfl rfl ?_)))) | (apply ky_field; (refine sy_val (c_field0 rfl rfl) ?_)) | (apply ky_build; (first | refine sy_val (c_build rfl rfl rfl) ?_ | (first | (refine sy_val (c_build (h := negOff) rfl rfl hNF) ?_) | (refine sy_val (c_build (h := cliOff) rfl rfl (hB _ _ _ _ _ rfl)) ?_))))))) | (refine sot_next rfl ?_) | (refine so_done (by decide +kernel) ?_) | (refine sot_all (by kernel_rfl) ?_))) | (apply g_soa; (first | (refine soa_end rfl) | (refine soa_no (by decide +kernel) ?_) | (refine soa_yes rfl ?_ ?_))) | ((refine g_reg (id := 4) ?_; refine c_drawno _ (fun _ hw => hw) ?_))))
    all_goals
      rename_i b4
      exact at_meet (b4, na, nc, xa, xc) trivial (by repeat ((first | exact Le.nil _ | refine Le.cons (by (rfl)) ?_))) (fun _ hw => hw.subs (by repeat ((first | refine Subs.cons (by repeat constructor) ?_ | exact Subs.sub (by repeat ((first | exact List.Sublist.refl _ | refine List.Sublist.cons _ ?_)))))))
  rintro ⟨b4, na, nc, xa, xc⟩ -
  dsimp only
  repeat' ((first | (apply g_sl; (first | (apply ks_nil; refine sl_nil ?_) | (apply ks_move; refine s_move rfl rfl ?_) | (apply ks_bin; refine s_bin rfl rfl rfl ?_; ((((refine bb_of rfl ?_))))) | (apply ks_load; (((refine s_load rfl rfl ?_; refine ld_part (big_ppost (m := 520) rfl (big_ppre rfl)) rfl ?_)))) | (apply ks_asgn; refine s_asgn rfl rfl ?_) | (apply ks_field; (refine s_field (c_field0 rfl rfl) rfl ?_)) | (apply ks_extr; refine s_extr (y_extract rfl rfl rfl) rfl ?_) | (apply ks_fn; ((first | refine c_callv rfl rfl rfl (cS _ _ _) rfl rfl ?_ | refine c_callv rfl rfl rfl (cW _) rfl rfl ?_))) | (first | (refine c_makeMap rfl rfl rfl rfl (fun _ => ?_)) | (refine c_insert rfl rfl rfl rfl rfl rfl rfl ?_) | (refine c_rangeMap rfl rfl rfl rfl rfl (fun _ => ?_))))) | (apply sw_seq) | (apply sw_skip) | (apply sw_block) | ((fail_if_success (refine g_reg (id := 12) ?_)); apply sw_region) | (refine sw_cd rfl ?_; ((apply gd_ft))) | (apply at_thn)))
  all_goals (skip)
  rename_i bm it
  generalize hA : cli0 ++ scnC (newS w h) ga p p oa p oc none 0 0 = A at *
  have hAl : A.length = 45 := by rw [← hA]; rfl
  generalize hP : cliP na n nc 0 xa vn xc = P at *
  have hPl : P.length = 3 := by rw [← hP]; rfl
  have hk0 : octs (kSet fun i => (#[] : Array Nat).contains i) = keyZ := by rw [← kSet_none, kSet_congr (p := fun i => (#[] : Array Nat).contains i) (q := fun _ => false) (fun i _ => by simp)]
  refine sw_loopg (α := Array Nat) (fun seen => [(10, .pointer (some ⟨b2, 0, none⟩)), (14, .pointer (some ⟨b4, 0, none⟩)), (60, .pointer (some ⟨it, 0, none⟩))])
    (fun seen => .obj it (.mapIter (some bm) 5 seen 5) :: .obj bm (.map kEs 5) :: .blk b4 55 (big A N (big P (octs (kSet fun i => seen.contains i)) cliE)) :: .own 143 4 xa vn xc (vrs L) :: .own 9 1 na n nc (strs l) :: .own 104 4 oa p oc (qds SD') :: .own 104 4 ga p p (qds SC') :: .blk b2 55 cliZ :: H)
    (fun _ => True) kMu #[] trivial (by repeat ((first | exact Le.nil _ | refine Le.cons (by (rfl)) ?_))) (fun _ hw => by rw [hk0]; exact hw) ?_
  intro seen _
  repeat' ((first | (apply g_sl; (first | (apply ks_nil; refine sl_nil ?_) | (apply ks_asgn; refine s_asgn rfl rfl ?_) | (apply ks_extr; refine s_extr (y_extract rfl rfl rfl) rfl ?_) | (first | (refine c_nextMap rfl rfl rfl rfl rfl kOld (Nat.le_refl _) (fun y hy => ?_) (fun h0 => ?_); (obtain ⟨i, hi, rfl, hc⟩ := kLeft hy)) | (refine sl_val rfl (y_entry rfl rfl (kE_in _ hi) kNodup) rfl rfl ?_)))) | (apply sw_seq) | (apply sw_skip) | (apply sw_exit) | (apply sw_block) | ((fail_if_success (refine g_reg (id := 14) ?_)); apply sw_region) | (refine sw_cd rfl ?_; (first | (apply gd_t) | (apply gd_ft))) | (apply at_thn) | (apply at_thn_exit) | (apply at_inb_exit)))
  · have s1 := cli_key (E := cliE) hAl hlN hPl (kSet_len fun j => seen.contains j) (10 + i) (568 + 0 + ((10 + i : Nat) : Int).toNat * 1) 2 (by omega) (by omega)
    have s2 := cli_key (E := cliE) hAl hlN hPl (K := (kSet fun j => seen.contains j).set (10 + i) 2) (by rw [List.length_set]; exact kSet_len _) (29 + i) (568 + 19 + ((10 + i : Nat) : Int).toNat * 1) (kChC.getD i 0) (by omega) (by omega)
    rw [kSet_step _ i hi, kSet_congr (p := fun j => seen.contains j || j == i) (q := fun j => (seen.push i).contains j) (fun j _ => by rw [Array.contains_push])] at s2
    have l1 : 568 + 0 + ((10 + i : Nat) : Int).toNat * 1 < (big A N (big P (octs (kSet fun j => seen.contains j)) cliE)).length := by rw [cli_len hAl hlN hPl (by rw [octs_len]; exact kSet_len _) rfl]; omega
    have l2 : 568 + 19 + ((10 + i : Nat) : Int).toNat * 1 < (big A N (big P (octs ((kSet fun j => seen.contains j).set (10 + i) 2)) cliE)).length := by rw [cli_len hAl hlN hPl (by rw [octs_len, List.length_set]; exact kSet_len _) rfl]; omega
    repeat' ((first | (apply g_sl; (first | (apply ks_nil; refine sl_nil ?_) | (apply ks_move; refine s_move rfl rfl ?_) | (apply ks_field; (first | refine s_field (c_field0 rfl rfl) rfl ?_ | refine s_field (c_field rfl rfl) rfl ?_)) | (apply ks_indexA; (((refine s_indexA (c_indexP rfl rfl rfl (by omega) (by omega)) rfl ?_)))) | (apply ks_store; (((first | (refine c_storekV rfl rfl rfl rfl rfl s1 l1 rfl ?_) | (refine c_storekV rfl rfl rfl rfl rfl s2 l2 rfl ?_))))))) | (apply sw_region) | (apply at_inb)))
    exact at_meet (seen.push i) ⟨trivial, kMu_lt hi hc⟩ (by repeat ((first | exact Le.nil _ | refine Le.cons (by (rfl)) ?_))) (fun _ hw => hw.subs (by repeat ((first | refine Subs.cons (by repeat constructor) ?_ | exact Subs.sub (by repeat ((exact List.Sublist.refl _)))))))
  · have hlen := cli_len (E := cliE) hAl hlN hPl (K := octs (kSet fun i => seen.contains i)) (by rw [octs_len]; exact kSet_len _) rfl
    have hall : (big A N (big P (octs (kSet fun i => seen.contains i)) cliE)).all (·.oneCell') = true := big_all (by rw [← hA]; rfl) hone (big_all (by rw [← hP]; rfl) (octs_all _) rfl)
    have hz5 : cliZ.length = 613 := hzl
    repeat' ((first | (apply g_sl; (first | (apply ks_nil; refine sl_nil ?_) | (apply ks_load; (((refine s_load rfl rfl ?_; refine ld_whole (by rw [hlen]; rfl) ?_)))) | (apply ks_asgn; refine s_asgn rfl rfl ?_) | (apply ks_store; ((((refine c_storewV rfl rfl rfl rfl hall hlen hz5 rfl ?_))))))) | (apply sw_ret) | (apply at_thn)))
    refine e_scc (.own 143 4 xa vn xc (vrs L) :: .own 9 1 na n nc (strs l) :: .own 104 4 oa p oc (qds SD') :: .own 104 4 ga p p (qds SC') :: H) (.inr rfl) rfl hlen rfl (fun _ hw => hw.subs (by repeat ((first | refine Subs.cons (by repeat constructor) ?_ | exact Subs.sub (by repeat ((first | exact List.Sublist.refl _ | refine List.Sublist.cons _ ?_))))))) ?_
    exact ⟨ga, oa, oc, na, nc, xa, xc, by unfold newC; rw [hA, hP, hNd, kSet_congr (p := fun _ => true) (q := fun i => seen.contains i) (fun i hi => (kLeft0 h0 i hi).symm)]; rfl, rfl⟩
end Go.Proofs.YtmbfechiallppaaGreatDoor
end
section
namespace Go.Fw
open Go Go.RowKit Go.Sx
/-- How many bytes follow a first one, and the bounds of the second one. -/
def needU (c : Int) : Int × Int × Int :=
  if 194 ≤ c ∧ c ≤ 223 then (1, 128, 191) else if c = 224 then (2, 160, 191) else if c = 237 then (2, 128, 159) else if 225 ≤ c ∧ c ≤ 239 then (2, 128, 191) else if c = 240 then (3, 144, 191) else if c = 244 then (3, 128, 143) else if 241 ≤ c ∧ c ≤ 243 then (3, 128, 191) else (0, 0, 0)
/-- The longest beginning, and whether it is whole. -/
def longU (L : List Int) : Int × Bool :=
  if (needU (L.getD 0 0)).1 = 0 then (0, false)
  else if ¬ (2 ≤ L.length ∧ (needU (L.getD 0 0)).2.1 ≤ L.getD 1 0 ∧ L.getD 1 0 ≤ (needU (L.getD 0 0)).2.2) then (1, false)
  else if ¬ (2 ≤ (needU (L.getD 0 0)).1 ∧ 3 ≤ L.length ∧ 128 ≤ L.getD 2 0 ∧ L.getD 2 0 ≤ 191) then (2, decide ((needU (L.getD 0 0)).1 < 2))
  else if ¬ (3 ≤ (needU (L.getD 0 0)).1 ∧ 4 ≤ L.length ∧ 128 ≤ L.getD 3 0 ∧ L.getD 3 0 ≤ 191) then (3, decide ((needU (L.getD 0 0)).1 < 3))
  else (4, true)
/-- A beginning, not whole. -/
def partU (L : List Int) : Prop := (longU L).2 = false ∧ (longU L).1 = L.length
instance (L : List Int) : Decidable (partU L) := by unfold partU; infer_instance
theorem needU_ways (a : Int) : (194 ≤ a ∧ a ≤ 223 ∧ needU a = (1, 128, 191)) ∨ (a = 224 ∧ needU a = (2, 160, 191)) ∨ (a = 237 ∧ needU a = (2, 128, 159)) ∨ (225 ≤ a ∧ a ≤ 239 ∧ a ≠ 237 ∧ needU a = (2, 128, 191)) ∨ (a = 240 ∧ needU a = (3, 144, 191)) ∨ (a = 244 ∧ needU a = (3, 128, 143)) ∨ (241 ≤ a ∧ a ≤ 243 ∧ needU a = (3, 128, 191)) ∨ ((a < 194 ∨ 244 < a) ∧ needU a = (0, 0, 0)) := by
  unfold needU
  repeat' split
  all_goals (simp_all <;> omega)
end Go.Fw
end
section
namespace Go.Proofs.YtmbfechiallppaaGreatDoor
open Go Go.RowKit Go.Fw Go.Sx
set_option maxRecDepth 100000
set_option maxHeartbeats 1000000
attribute [local irreducible] SW SL SQ AtQ SV SC BB LD PK Yields SO SOT SOA SY
def isR (c : Int) : Prop := (0 ≤ c ∧ c ≤ 55295) ∨ (57344 ≤ c ∧ c ≤ 1114111)
instance (c : Int) : Decidable (isR c) := by unfold isR; infer_instance
theorem need_sv (G : Ctx) (H : List Ent) (c : Int) (h : 0 ≤ c ∧ c ≤ 255) : SV Tryz.prog G 69 [.int .u8 c] H (.tuple #[.int .i64 (needU c).1, .int .u8 (needU c).2.1, .int .u8 (needU c).2.2]) := by
  refine sv_enter1 Tryz.func69 rfl rfl rfl rfl rfl ?_
  rcases needU_ways c with ⟨h1, h2, hn⟩ | ⟨h1, hn⟩ | ⟨h1, hn⟩ | ⟨h1, h2, h3, hn⟩ | ⟨h1, hn⟩ | ⟨h1, hn⟩ | ⟨h1, h2, hn⟩ | ⟨h1, hn⟩
  all_goals
    rw [hn]
    clear hn
    repeat' ((first | (apply g_sl; (first | (apply ks_nil; refine sl_nil ?_) | (apply ks_move; refine s_move rfl rfl ?_) | (apply ks_bin; refine s_bin rfl rfl rfl ?_; (((refine bb_of rfl ?_)))) | (apply ks_asgn; refine s_asgn rfl rfl ?_) | (apply ks_pick; refine s_pick rfl rfl ?_; (first | (apply kp_t; refine pk_t rfl ?_) | (apply kp_f; refine pk_f rfl ?_))) | (apply ks_guard; ((refine sl_gd rfl rfl rfl rfl ?_; (first | (apply gd_t) | (apply gd_ft) | (apply gd_dec_t <;> intro hq <;> (try (exfalso; omega))))))))) | (apply sw_seq) | (apply sw_skip) | (apply sw_ret) | (apply sw_block) | (apply sw_region) | (refine sw_cd rfl ?_; (first | (apply gd_ft) | (apply gd_dec_t <;> intro hq <;> (try (exfalso; omega))))) | (apply at_thn) | (apply at_thn_ret) | (apply at_inb) | (apply at_inb_ret)))
    all_goals ((refine e_sv (by (exact .inr rfl)) rfl (by repeat ((exact List.Sublist.refl _))) ?_; rfl))
theorem longest_sv (G : Ctx) (H : List Ent) (s : ByteArray) (h : 0 < s.size) (hm : s.size ≤ 9223372036854775807) : SV Tryz.prog G 32 [.string s] H (.tuple #[.int .i64 (longU (nums s)).1, .bool (longU (nums s)).2]) := by
  have hl := nums_length s
  have hbd : ∀ k, k < s.size → 0 ≤ (nums s).getD k 0 ∧ (nums s).getD k 0 ≤ 255 := fun k hk => by
    have := nums_bound s ((nums s).getD k 0) (by
      rw [List.getD_eq_getElem?_getD, List.getElem?_eq_getElem (by omega)]
      exact List.getElem_mem _)
    exact this
  have cN := fun H => need_sv G H ((nums s).getD 0 0) (hbd 0 h)
  have e : longU (nums s) = (if (needU ((nums s).getD 0 0)).1 = 0 then (0, false)
    else if ¬ (2 ≤ s.size ∧ (needU ((nums s).getD 0 0)).2.1 ≤ (nums s).getD 1 0 ∧ (nums s).getD 1 0 ≤ (needU ((nums s).getD 0 0)).2.2) then (1, false)
    else if ¬ (2 ≤ (needU ((nums s).getD 0 0)).1 ∧ 3 ≤ s.size ∧ 128 ≤ (nums s).getD 2 0 ∧ (nums s).getD 2 0 ≤ 191) then (2, decide ((needU ((nums s).getD 0 0)).1 < 2))
    else if ¬ (3 ≤ (needU ((nums s).getD 0 0)).1 ∧ 4 ≤ s.size ∧ 128 ≤ (nums s).getD 3 0 ∧ (nums s).getD 3 0 ≤ 191) then (3, decide ((needU ((nums s).getD 0 0)).1 < 3))
    else (4, true)) := by unfold longU; rw [hl]
  rw [e]
  have hn : (needU ((nums s).getD 0 0)).1 = 0 ∨ (needU ((nums s).getD 0 0)).1 = 1 ∨ (needU ((nums s).getD 0 0)).1 = 2 ∨ (needU ((nums s).getD 0 0)).1 = 3 := by
    rcases needU_ways ((nums s).getD 0 0) with ⟨h1, h2, hn⟩ | ⟨h1, hn⟩ | ⟨h1, hn⟩ | ⟨h1, h2, h3, hn⟩ | ⟨h1, hn⟩ | ⟨h1, hn⟩ | ⟨h1, h2, hn⟩ | ⟨h1, hn⟩ <;> rw [hn] <;> simp
  have h1b := hbd 1
  have h2b := hbd 2
  have h3b := hbd 3
  generalize needU ((nums s).getD 0 0) = nd at *
  obtain ⟨m, lo, hi⟩ := nd
  dsimp only at hn cN ⊢
  clear e hbd
  have ix := fun (k : Nat) => (rfl : (nums s).getD ((k : Int)).toNat 0 = (nums s).getD k 0)
  generalize hL1 : (nums s).getD 1 0 = b1 at *
  generalize hL2 : (nums s).getD 2 0 = b2 at *
  generalize hL3 : (nums s).getD 3 0 = b3 at *
  clear ix
  have g1 : (nums s).getD (Int.toNat 1) 0 = b1 := hL1
  have g2 : (nums s).getD (Int.toNat (1 + 1)) 0 = b2 := hL2
  have g3 : (nums s).getD (Int.toNat (1 + 1 + 1)) 0 = b3 := hL3
  rcases hn with rfl | rfl | rfl | rfl
  · refine sv_enter1 Tryz.func32 rfl rfl rfl rfl rfl ?_
    repeat' ((first | (apply g_sl; (first | (apply ks_nil; refine sl_nil ?_) | (apply ks_move; refine s_move rfl rfl ?_) | (apply ks_bin; refine s_bin rfl rfl rfl ?_; (((refine bb_of rfl ?_)))) | (apply ks_asgn; refine s_asgn rfl rfl ?_) | (apply ks_extr; refine s_extr (y_extract rfl rfl rfl) rfl ?_) | (apply ks_index; ((refine s_index (c_indexNum rfl rfl rfl (by omega) (by omega)) rfl ?_))) | (apply ks_fn; (refine c_callv rfl rfl rfl (cN _) rfl rfl ?_)))) | (apply sw_seq) | (apply sw_ret) | (apply sw_region) | (refine sw_cd rfl ?_; ((apply gd_t))) | (apply at_thn) | (apply at_thn_ret)))
    all_goals ((refine e_sv (by (exact .inr rfl)) rfl (by repeat ((exact List.Sublist.refl _))) ?_; rfl))
  all_goals
    refine sv_enter1 Tryz.func32 rfl rfl rfl rfl rfl ?_
    repeat' ((first | (apply g_sl; (first | (apply ks_nil; refine sl_nil ?_) | (apply ks_move; refine s_move rfl rfl ?_) | (apply ks_bin; refine s_bin rfl rfl rfl ?_; (((refine bb_of rfl ?_)))) | (apply ks_asgn; refine s_asgn rfl rfl ?_) | (apply ks_extr; refine s_extr (y_extract rfl rfl rfl) rfl ?_) | (apply ks_index; ((refine s_index (c_indexNum rfl rfl rfl (by omega) (by omega)) rfl ?_))) | (apply ks_fn; (refine c_callv rfl rfl rfl (cN _) rfl rfl ?_)))) | (apply sw_seq) | (apply sw_skip) | (apply sw_block) | (apply sw_region) | (refine sw_cd rfl ?_; ((apply gd_ft))) | (apply at_thn)))
    all_goals (skip)
    refine sw_loopN 4 (srd_succ ?_)
    repeat' ((first | (apply g_sl; (first | (apply ks_nil; refine sl_nil ?_) | (apply ks_move; refine s_move rfl rfl ?_) | (apply ks_bin; refine s_bin rfl rfl rfl ?_; (((first | (apply kb_add; (refine bb_add ⟨by omega, by omega⟩ ?_)) | refine bb_of rfl ?_)))) | (apply ks_asgn; refine s_asgn rfl rfl ?_) | (apply ks_pick; refine s_pick rfl rfl ?_; (first | (apply kp_t; refine pk_t rfl ?_) | (apply kp_f; refine pk_f rfl ?_))) | (apply ks_index; ((refine s_index (c_indexNum rfl rfl rfl (by omega) (by omega)) rfl ?_))) | (apply ks_bi; (refine s_call (c_len_str rfl rfl) rfl ?_)) | (apply ks_guard; ((refine sl_gd rfl rfl rfl rfl ?_; (first | (apply gd_t) | (apply gd_ft) | (apply gd_dec_t <;> intro hq <;> (try (exfalso; omega))))))))) | (apply sw_seq) | (apply at_srd) | (apply sw_skip) | (apply sw_ret) | (apply sw_exit) | (apply sw_block) | (apply sw_region) | (refine sw_cd rfl ?_; (first | (apply gd_ft) | (apply gd_dec_t <;> intro hq <;> (try (exfalso; omega))))) | (apply at_thn) | (apply at_thn_exit) | (apply at_inb) | (apply at_inb_exit)))
    all_goals ((refine e_sv (by (exact .inr rfl)) rfl (by repeat ((exact List.Sublist.refl _))) ?_; simp only [resV]; (repeat' split) <;> (first | rfl | (exfalso; omega))))
/-- What Check answers. -/
def chkU (L : List Int) : Int := if L = [] ∨ partU L then 0 else 4
theorem chkU_eq {L : List Int} (h : L ≠ []) : chkU L = if (longU L).2 = false ∧ (longU L).1 = L.length then 0 else 4 := by
  unfold chkU
  by_cases hp : partU L
  · rw [if_pos (.inr hp), if_pos (show (longU L).2 = false ∧ (longU L).1 = L.length from hp)]
  · rw [if_neg (fun h2 => h2.elim h hp), if_neg (show ¬ ((longU L).2 = false ∧ (longU L).1 = L.length) from hp)]
theorem nums_nil {s : ByteArray} (h : s.size = 0) : s = ⟨#[]⟩ := nums_inj (by
  have e : nums s = [] := List.eq_nil_of_length_eq_zero (by rw [nums_length, h])
  rw [e]
  rfl)
theorem utfCheck_sv (G : Ctx) (H : List Ent) (s : ByteArray) (hm : s.size ≤ 9223372036854775807) : SV Tryz.prog G 31 [.string s] H (.int .i64 (chkU (nums s))) := by
  by_cases h0 : s.size = 0
  · have hs := nums_nil h0
    subst hs
    refine sv_enter1 Tryz.func31 rfl rfl rfl rfl rfl ?_
    repeat' ((first | (apply g_sl; (first | (apply ks_nil; refine sl_nil ?_) | (apply ks_move; refine s_move rfl rfl ?_) | (apply ks_bin; refine s_bin rfl rfl rfl ?_; ((refine bb_seq ?_))) | (apply ks_asgn; refine s_asgn rfl rfl ?_))) | (apply sw_seq) | (apply sw_ret) | (apply sw_region) | (refine sw_cd rfl ?_; ((apply gd_t))) | (apply at_thn) | (apply at_thn_ret)))
    all_goals ((refine e_sv (by (exact .inr rfl)) rfl (by repeat ((exact List.Sublist.refl _))) ?_; rfl))
  · have cL := fun H => longest_sv G H s (by omega) hm
    have hl := nums_length s
    have hne : ¬ s = ⟨#[]⟩ := fun h => h0 (by rw [h]; rfl)
    have hnn : nums s ≠ [] := fun h => h0 (by rw [← hl, h]; rfl)
    rw [chkU_eq hnn, hl]
    clear hl hnn
    generalize longU (nums s) = r at *
    obtain ⟨k, w⟩ := r
    cases w
    all_goals
      refine sv_enter1 Tryz.func31 rfl rfl rfl rfl rfl ?_
      repeat' ((first | (apply g_sl; (first | (apply ks_nil; refine sl_nil ?_) | (apply ks_move; refine s_move rfl rfl ?_) | (apply ks_bin; refine s_bin rfl rfl rfl ?_; ((first | refine bb_seq ?_ | ((refine bb_of rfl ?_))))) | (apply ks_asgn; refine s_asgn rfl rfl ?_) | (apply ks_pick; refine s_pick rfl rfl ?_; (first | (apply kp_t; refine pk_t rfl ?_) | (apply kp_f; refine pk_f rfl ?_))) | (apply ks_extr; refine s_extr (y_extract rfl rfl rfl) rfl ?_) | (apply ks_fn; (refine c_callv rfl rfl rfl (cL _) rfl rfl ?_)) | (apply ks_bi; ((refine s_call (c_len_str rfl rfl) rfl ?_))) | (apply ks_guard; ((refine sl_gd rfl rfl rfl rfl ?_; (first | (apply gd_t) | (apply gd_tf))))))) | (apply sw_seq) | (apply sw_skip) | (apply sw_ret) | (apply sw_region) | (refine sw_cd rfl ?_; (first | (apply gd_t) | (apply gd_dec_t <;> intro hq <;> (try (exfalso; omega))) | (apply gd_bne_t <;> intro hq <;> (try (exfalso; omega))))) | (apply at_thn) | (apply at_thn_ret)))
      all_goals (first | (exact absurd (by assumption) hne) | (refine e_sv (by (exact .inr rfl)) rfl (by repeat ((exact List.Sublist.refl _))) ?_; simp [resV]; try omega))
end Go.Proofs.YtmbfechiallppaaGreatDoor
end
section
namespace Go.Proofs.YtmbfechiallppaaGreatDoor
open Go Go.RowKit Go.Fw Go.Sx
set_option maxRecDepth 100000
set_option maxHeartbeats 1000000
attribute [local irreducible] SW SL SQ AtQ SV SC BB LD PK Yields SO SOT SOA SY
/-- The value of bytes, as if they were a rune's. -/
def valU (L : List Int) : Int := match L with
  | [a] => a % 128
  | [a, b] => 64 * (a % 64) + b % 64
  | [a, b, c] => 64 * (64 * (a % 32) + b % 64) + c % 64
  | [a, b, c, d] => 64 * (64 * (64 * (a % 16) + b % 64) + c % 64) + d % 64
  | _ => 0
end Go.Proofs.YtmbfechiallppaaGreatDoor
end
section
namespace Go.Proofs.YtmbfechiallppaaGreatDoor
open Go Go.RowKit Go.Fw Go.Sx
set_option maxRecDepth 100000
set_option maxHeartbeats 1000000
attribute [local irreducible] SW SL SQ AtQ SV SC BB LD PK Yields SO SOT SOA SY
theorem strOf_size (a : List Int) : (strOfNums a).size = a.length := by
  show (⟨(a.map fun n => UInt8.ofNat n.toNat).toArray⟩ : ByteArray).size = _
  simp [ByteArray.size]
theorem encode_sv (G : Ctx) (H : List Ent) (xs : List Int) (a : Option Addr) (n c : Nat) {vs : List Value} [h1 : RdC G H a vs] (hv : vs = ints xs) (hn : n = xs.length) (hm : xs.length ≤ 20000000) : SV Tryz.prog G 20 [.slice a n c] H (.string (strOfNums (encL xs))) := by
  subst hv
  exact sv_of_calls (callee_of Tryz.func20 rfl rfl) fun w hw => encode_any xs a n c w hn hm (h1.here w hw)
end Go.Proofs.YtmbfechiallppaaGreatDoor
end
section
namespace Go.Proofs.YtmbfechiallppaaGreatDoor
open Go Go.RowKit Go.Fw Go.Sx
theorem get_nums (s : ByteArray) (k : Nat) (h : k < s.size) : (((s.get! k).toNat : Nat) : Int) = (nums s).getD k 0 := by
  have h2 : k < s.data.size := h
  have e : s.get! k = s.data[k] := by
    cases s with
    | mk d => exact getElem!_pos d k h2
  rw [e]
  unfold nums
  rw [List.getD_eq_getElem?_getD, List.getElem?_map, Array.getElem?_toList, Array.getElem?_eq_getElem h2]
  rfl
theorem val_t2 {L : List Int} (h : 2 ≤ L.length) : valU (L.take 2) = 64 * (L.getD 0 0 % 64) + L.getD 1 0 % 64 := by
  match L, h with
  | a :: b :: r, _ => rfl
theorem val_t3 {L : List Int} (h : 3 ≤ L.length) : valU (L.take 3) = 64 * (64 * (L.getD 0 0 % 32) + L.getD 1 0 % 64) + L.getD 2 0 % 64 := by
  match L, h with
  | a :: b :: c :: r, _ => rfl
theorem val_t4 {L : List Int} (h : 4 ≤ L.length) : valU (L.take 4) = 64 * (64 * (64 * (L.getD 0 0 % 16) + L.getD 1 0 % 64) + L.getD 2 0 % 64) + L.getD 3 0 % 64 := by
  match L, h with
  | a :: b :: c :: d :: r, _ => rfl
theorem dec_whole (s : ByteArray) (h : (longU (nums s)).2 = true) : (((Lib.decodeGo s).1 : Nat) : Int) = valU ((nums s).take (longU (nums s)).1.toNat) := by
  have hl := nums_length s
  have g := get_nums s
  have v2 := val_t2 (L := nums s)
  have v3 := val_t3 (L := nums s)
  have v4 := val_t4 (L := nums s)
  unfold longU at h ⊢
  generalize hn0 : needU ((nums s).getD 0 0) = nu at *
  have hw := needU_ways ((nums s).getD 0 0)
  rw [hn0] at hw
  have g0 := g 0
  have g1 := g 1
  have g2 := g 2
  have g3 := g 3
  rw [hl] at *
  by_cases h1 : nu.1 = 0
  · rw [if_pos h1] at h; cases h
  · rw [if_neg h1] at h ⊢
    by_cases h2 : ¬ (2 ≤ s.size ∧ nu.2.1 ≤ (nums s).getD 1 0 ∧ (nums s).getD 1 0 ≤ nu.2.2)
    · rw [if_pos h2] at h; cases h
    · rw [if_neg h2] at h ⊢
      have h2 := Classical.not_not.1 h2
      have hs0 : ¬ s.size = 0 := by omega
      unfold Lib.decodeGo
      rw [if_neg hs0]
      rw [Lib.decode_at, Nat.sub_zero]
      simp only [Nat.zero_add]
      generalize (s.get! 0).toNat = x0 at *
      generalize (s.get! 1).toNat = x1 at *
      generalize (s.get! 2).toNat = x2 at *
      generalize (s.get! 3).toNat = x3 at *
      by_cases h3 : ¬ (2 ≤ nu.1 ∧ 3 ≤ s.size ∧ 128 ≤ (nums s).getD 2 0 ∧ (nums s).getD 2 0 ≤ 191)
      · rw [if_pos h3] at h ⊢
        rw [show ((2 : Int), decide (nu.1 < 2)).1.toNat = 2 from rfl, v2 (by omega)]
        have h := of_decide_eq_true h
        clear v2 v3 v4 g hn0
        generalize (nums s).getD 0 0 = a at *
        generalize (nums s).getD 1 0 = b at *
        generalize (nums s).getD 2 0 = c at *
        generalize (nums s).getD 3 0 = d at *
        have g0 := g0 (by omega)
        have g1 := g1 (by omega)
        have hw : 194 ≤ a ∧ a ≤ 223 ∧ nu = (1, 128, 191) := by
          rcases hw with ⟨h1, h2, hn⟩ | ⟨h1, hn⟩ | ⟨h1, hn⟩ | ⟨h1, h2, h3, hn⟩ | ⟨h1, hn⟩ | ⟨h1, hn⟩ | ⟨h1, h2, hn⟩ | ⟨h1, hn⟩
          · exact ⟨h1, h2, hn⟩
          all_goals (subst hn; (first | exact absurd rfl h1 | (simp only at h h1; omega)))
        obtain ⟨hw1, hw2, hn⟩ := hw
        subst hn
        simp only at h2
        clear h3 h h1 g2 g3 hl
        unfold Lib.decodeN
        rw [if_neg (by omega), if_pos (by omega), if_pos (by omega)]
        simp only
        omega
      · rw [if_neg h3] at h ⊢
        have h3 := Classical.not_not.1 h3
        by_cases h4 : ¬ (3 ≤ nu.1 ∧ 4 ≤ s.size ∧ 128 ≤ (nums s).getD 3 0 ∧ (nums s).getD 3 0 ≤ 191)
        · rw [if_pos h4] at h ⊢
          rw [show ((3 : Int), decide (nu.1 < 3)).1.toNat = 3 from rfl, v3 (by omega)]
          have h := of_decide_eq_true h
          clear v2 v3 v4 g hn0
          generalize (nums s).getD 0 0 = a at *
          generalize (nums s).getD 1 0 = b at *
          generalize (nums s).getD 2 0 = c at *
          generalize (nums s).getD 3 0 = d at *
          have g0 := g0 (by omega)
          have g1 := g1 (by omega)
          have g2 := g2 (by omega)
          have hw : 224 ≤ a ∧ a ≤ 239 ∧ 128 ≤ b ∧ b ≤ 191 ∧ (a = 224 → 160 ≤ b) ∧ (a = 237 → b ≤ 159) := by
            rcases hw with ⟨h1, h2, hn⟩ | ⟨h1, hn⟩ | ⟨h1, hn⟩ | ⟨h1, h2, h3, hn⟩ | ⟨h1, hn⟩ | ⟨h1, hn⟩ | ⟨h1, h2, hn⟩ | ⟨h1, hn⟩
            all_goals (subst hn; (first | exact absurd rfl h1 | (simp only at h h1 h2 h3; omega)))
          clear h4 h h1 g3 hl
          unfold Lib.decodeN
          rw [if_neg (by omega), if_neg (by omega), if_pos (by omega), if_pos (by omega)]
          simp only
          omega
        · rw [if_neg h4] at h ⊢
          have h4 := Classical.not_not.1 h4
          rw [show ((4 : Int), true).1.toNat = 4 from rfl, v4 (by omega)]
          clear v2 v3 v4 g hn0 h
          generalize (nums s).getD 0 0 = a at *
          generalize (nums s).getD 1 0 = b at *
          generalize (nums s).getD 2 0 = c at *
          generalize (nums s).getD 3 0 = d at *
          have g0 := g0 (by omega)
          have g1 := g1 (by omega)
          have g2 := g2 (by omega)
          have g3 := g3 (by omega)
          have hw : 240 ≤ a ∧ a ≤ 244 ∧ 128 ≤ b ∧ b ≤ 191 ∧ (a = 240 → 144 ≤ b) ∧ (a = 244 → b ≤ 143) := by
            rcases hw with ⟨h1, h2, hn⟩ | ⟨h1, hn⟩ | ⟨h1, hn⟩ | ⟨h1, h2, h3, hn⟩ | ⟨h1, hn⟩ | ⟨h1, hn⟩ | ⟨h1, h2, hn⟩ | ⟨h1, hn⟩
            all_goals (subst hn; (first | exact absurd rfl h1 | (simp only at h1 h2 h3 h4; omega)))
          clear h1 hl
          unfold Lib.decodeN
          rw [if_neg (by omega), if_neg (by omega), if_neg (by omega), if_pos (by omega), if_pos (by omega)]
          simp only
          omega
theorem long_bound (L : List Int) (h : L ≠ []) : 0 ≤ (longU L).1 ∧ (longU L).1 ≤ 4 ∧ (longU L).1 ≤ L.length ∧ ((longU L).2 = true → 2 ≤ (longU L).1) ∧ ((longU L).2 = false → (longU L).1 ≤ 3) := by
  have hl : 1 ≤ L.length := by cases L; exact absurd rfl h; simp
  unfold longU
  split
  · simp
  · split
    · simp; omega
    · rename_i _ h2
      have h2 := Classical.not_not.1 h2
      split
      · simp; omega
      · rename_i h3
        have h3 := Classical.not_not.1 h3
        split
        · simp; omega
        · rename_i h4
          have h4 := Classical.not_not.1 h4
          simp; omega
end Go.Proofs.YtmbfechiallppaaGreatDoor
end
section
namespace Go.Proofs.YtmbfechiallppaaGreatDoor
open Go Go.RowKit Go.Fw Go.Sx
set_option maxRecDepth 100000
set_option maxHeartbeats 1000000
/-- What the front of a text says: a number and how many bytes; nothing: more is wanted. -/
def stepU (L : List Int) : Option (Int × Nat) :=
  if L.getD 0 0 < 128 then some (L.getD 0 0, 1)
  else if (longU L).2 = true then some (valU (L.take (longU L).1.toNat), (longU L).1.toNat)
  else if 0 < (longU L).1 ∧ (longU L).1 = L.length then none
  else some (65533, (max (longU L).1 1).toNat)
def runU : Nat → List Int → List Int × List Int
  | 0, l => (l, [])
  | m + 1, l => if l = [] then ([], []) else match stepU l with
    | none => (l, [])
    | some p => ((runU m (l.drop p.2)).1, p.1 :: (runU m (l.drop p.2)).2)
theorem run_nil (m : Nat) : runU m [] = ([], []) := by cases m <;> simp [runU]
theorem run_none (m : Nat) {l : List Int} (h : l ≠ []) (h2 : stepU l = none) : runU m l = (l, []) := by
  cases m with
  | zero => rfl
  | succ m => rw [runU, if_neg h, h2]
theorem run_some {m : Nat} {l : List Int} {e : Int} {n : Nat} (hm : 0 < m) (h : l ≠ []) (h2 : stepU l = some (e, n)) : runU m l = ((runU (m - 1) (l.drop n)).1, e :: (runU (m - 1) (l.drop n)).2) := by
  obtain ⟨k, rfl⟩ : ∃ k, m = k + 1 := ⟨m - 1, by omega⟩
  rw [runU, if_neg h, h2]; rfl
def feedU (p s : ByteArray) : ByteArray × List Int × Int :=
  if chkU (nums p) ≠ 0 then (⟨#[]⟩, [], chkU (nums p)) else (strOfNums (runU (p ++ s).size (nums (p ++ s))).1, (runU (p ++ s).size (nums (p ++ s))).2, 0)
theorem nums_drop (r : ByteArray) (k : Nat) : nums (r.extract k r.size) = (nums r).drop k := by
  rw [nums_extract, ← nums_length, List.take_of_length_le (by simp)]
theorem val_bound (L : List Int) (hb : 0 ≤ L.getD 0 0) (h0 : ¬ L.getD 0 0 < 128) (h : (longU L).2 = true) (hl : L ≠ []) : 0 ≤ valU (L.take (longU L).1.toNat) ∧ valU (L.take (longU L).1.toNat) ≤ 20000000 := by
  obtain ⟨h1, h2, h3, h4, -⟩ := long_bound L hl
  have h4 := h4 h
  have hk : (longU L).1 = 2 ∨ (longU L).1 = 3 ∨ (longU L).1 = 4 := by omega
  rcases hk with hk | hk | hk
  · rw [hk] at h3 ⊢; rw [show (2 : Int).toNat = 2 from rfl, val_t2 (by omega)]; omega
  · rw [hk] at h3 ⊢; rw [show (3 : Int).toNat = 3 from rfl, val_t3 (by omega)]; omega
  · rw [hk] at h3 ⊢; rw [show (4 : Int).toNat = 4 from rfl, val_t4 (by omega)]; omega
attribute [local irreducible] SW SL SQ AtQ SV SC BB LD PK Yields SO SOT SOA SY
theorem dec_sv (G : Ctx) (H : List Ent) (hT : ∀ w, Holds G H w → Lib.Utf8Tabs 0 1 w) (s : ByteArray) : SV Tryz.prog G 33 [.string s] H (.tuple #[.int .i32 (Lib.decodeGo s).1, .int .i64 (Lib.decodeGo s).2]) :=
  sv_of_calls (callee_of Tryz.func33 rfl rfl) fun w hw => Tryz.utf8_DecodeRuneInString s w (hT w hw)
theorem feed_sc (G : Ctx) (H : List Ent) (hT : ∀ H w, Holds G H w → Lib.Utf8Tabs 0 1 w) (p s : ByteArray) (hp : p.size ≤ 2000000) (hs : s.size ≤ 2000000) : SC Tryz.prog G 15 [.string p, .string s] H (fun v H' => ∃ a' c', v = .tuple #[.string (feedU p s).1, .slice a' (feedU p s).2.1.length c', .int .i64 (feedU p s).2.2] ∧ H' = .own 3 1 a' (feedU p s).2.1.length c' (ints (feedU p s).2.1) :: H) := by
  have cC := fun H => utfCheck_sv G H p (by omega)
  have cD := fun H r => dec_sv G H (hT H) r
  have cL := fun H r h hm => longest_sv G H r h hm
  by_cases hc : chkU (nums p) ≠ 0
  · have e : feedU p s = (⟨#[]⟩, [], chkU (nums p)) := if_pos hc
    rw [e]
    generalize chkU (nums p) = q at *
    clear e
    refine sc_enter2 Tryz.func15 rfl rfl rfl rfl rfl ?_
    repeat' ((first | (apply g_sl; (first | (apply ks_nil; refine sl_nil ?_) | (apply ks_move; refine s_move rfl rfl ?_) | (apply ks_bin; refine s_bin rfl rfl rfl ?_; (((refine bb_of rfl ?_)))) | (apply ks_asgn; refine s_asgn rfl rfl ?_) | (apply ks_fn; (refine c_callv rfl rfl rfl (cC _) rfl rfl ?_)))) | (apply sw_seq) | (apply sw_ret) | (apply sw_region) | (refine sw_cd rfl ?_; ((apply gd_bne_t <;> intro hq <;> (try (exfalso; omega))))) | (apply at_thn) | (apply at_thn_ret)))
    exact e_scf (.own 3 1 none 0 0 [] :: H) (.inr rfl) rfl (fun _ hw => hw.nilrow _ _) ⟨_, _, rfl, rfl⟩
  · have e : feedU p s = (strOfNums (runU (p ++ s).size (nums (p ++ s))).1, (runU (p ++ s).size (nums (p ++ s))).2, 0) := if_neg hc
    rw [e]
    clear e
    have hc := Classical.not_not.1 hc
    rw [hc] at cC
    have hcat : p.size + s.size ≤ 9223372036854775807 := by omega
    obtain ⟨t, ht⟩ : ∃ t, p ++ s = t := ⟨_, rfl⟩
    have htz : t.size ≤ 4000000 := by rw [← ht, ByteArray.size_append]; omega
    rw [ht]
    refine sc_enter2 Tryz.func15 rfl rfl rfl rfl rfl ?_
    repeat' ((first | (apply g_sl; (first | (apply ks_nil; refine sl_nil ?_) | (apply ks_move; refine s_move rfl rfl ?_) | (apply ks_bin; refine s_bin rfl rfl rfl ?_; (first | (refine bb_catV ht hcat ?_) | ((refine bb_of rfl ?_)))) | (apply ks_asgn; refine s_asgn rfl rfl ?_) | (apply ks_fn; (refine c_callv rfl rfl rfl (cC _) rfl rfl ?_)))) | (apply sw_seq) | (apply sw_skip) | (apply sw_block) | (apply sw_region) | (refine sw_cd rfl ?_; ((apply gd_ft))) | (apply at_thn)))
    refine sw_loopg (α := Nat × ByteArray × List Int × Option Addr × Nat) (fun g => [(1, .string g.2.1), (8, .slice g.2.2.2.1 g.2.2.1.length g.2.2.2.2)]) (fun g => .own 3 1 g.2.2.2.1 g.2.2.1.length g.2.2.2.2 (ints g.2.2.1) :: H)
      (fun g => g.2.1.size ≤ g.1 ∧ g.2.2.1.length + g.2.1.size ≤ t.size ∧ runU t.size (nums t) = ((runU g.1 (nums g.2.1)).1, g.2.2.1 ++ (runU g.1 (nums g.2.1)).2)) (fun g => g.2.1.size) (t.size, t, [], none, 0) ⟨Nat.le_refl _, by simp, rfl⟩ (by repeat ((first | exact Le.nil _ | refine Le.cons (by (rfl)) ?_))) (fun _ hw => (hw.nilrow _ _).subs (by repeat ((first | refine Subs.cons (by repeat constructor) ?_ | exact Subs.sub (by repeat ((exact List.Sublist.refl _))))))) ?_
    rintro ⟨m, r, X, ao, co⟩ ⟨hr, hx, hm⟩
    dsimp only at hr hx hm ⊢
    by_cases hr0 : r = ⟨#[]⟩
    · subst hr0
      have hv : runU t.size (nums t) = ([], X) := by rw [hm, show nums ⟨#[]⟩ = [] from rfl, run_nil]; simp
      rw [hv]
      clear hm hv
      repeat' ((first | (apply g_sl; (first | (apply ks_nil; refine sl_nil ?_) | (apply ks_move; refine s_move rfl rfl ?_) | (apply ks_bin; refine s_bin rfl rfl rfl ?_; ((refine bb_sne ?_))) | (apply ks_asgn; refine s_asgn rfl rfl ?_))) | (apply sw_seq) | (apply sw_ret) | (apply sw_exit) | (apply sw_region) | (refine sw_cd rfl ?_; ((apply gd_ft))) | (apply at_thn) | (apply at_thn_exit) | (apply at_inb_exit)))
      all_goals (skip)
      exact e_sc _ (.inr rfl) rfl (List.Sublist.refl _) ⟨_, _, rfl, rfl⟩
    · have hl := nums_length r
      have hz : 0 < r.size := Nat.pos_of_ne_zero fun e => hr0 (nums_nil e)
      have hrn : nums r ≠ [] := fun e => by rw [e] at hl; simp at hl; omega
      have hb0 : 0 ≤ (nums r).getD 0 0 ∧ (nums r).getD 0 0 ≤ 255 := by
        cases hq : nums r with
        | nil => exact absurd hq hrn
        | cons x t => exact nums_bound r x (by rw [hq]; exact List.mem_cons_self)
      obtain ⟨x, hx1⟩ : ∃ x, (nums r).getD 0 0 = x := ⟨_, rfl⟩
      have hx0 : (nums r).getD (0 : Int).toNat 0 = x := hx1
      by_cases hlow : (nums r).getD 0 0 < 128
      · have hst : stepU (nums r) = some ((nums r).getD 0 0, 1) := if_pos hlow
        rw [run_some (by omega) hrn hst] at hm
        obtain ⟨r1, hr1⟩ : ∃ r1, r.extract (1 : Int).toNat (r.size : Int).toNat = r1 := ⟨_, rfl⟩
        have hn1 : nums r1 = (nums r).drop 1 := by rw [← hr1]; exact nums_drop r 1
        have hl1 : r1.size = r.size - 1 := by rw [← nums_length, hn1, List.length_drop, hl]
        rw [← hn1] at hm
        rw [hx1] at hb0 hlow hm
        have Hm := Lib.hid hm
        clear hm hst
        repeat' ((first | (apply g_sl; (first | (apply ks_nil; refine sl_nil ?_) | (apply ks_move; refine s_move rfl rfl ?_) | (apply ks_bin; refine s_bin rfl rfl rfl ?_; ((first | (refine bb_sne ?_) | ((refine bb_of rfl ?_))))) | (apply ks_asgn; refine s_asgn rfl rfl ?_) | (apply ks_index; (((refine s_index (c_indexNumV hx0 rfl rfl rfl (by omega) (by omega)) rfl ?_)))))) | (apply sw_seq) | (apply sw_skip) | (apply sw_ret) | (apply sw_exit) | (apply sw_block) | ((fail_if_success (refine g_reg (id := 8) ?_)); apply sw_region) | (refine sw_cd rfl ?_; (first | (apply gd_dec_t <;> intro hq <;> (try (exfalso; omega))) | (apply gd_not_t <;> intro hq))) | (apply at_thn) | (apply at_thn_exit) | (apply at_inb_exit)))
        all_goals (first | (exact absurd (of_decide_eq_true (by assumption)) hr0) | skip)
        refine c_drawno H (fun _ hw => hw.subs (by repeat ((exact Subs.sub (by repeat ((first | exact List.Sublist.refl _ | refine List.Sublist.cons _ ?_))))))) ?_
        repeat' ((first | (apply g_sl; (first | (apply ks_nil; refine sl_nil ?_) | (apply ks_index; (((refine s_index (c_indexNumV hx0 rfl rfl rfl (by omega) (by omega)) rfl ?_)))) | (apply ks_bi; (((refine c_append rfl rfl rfl rfl (by (rfl)) (by (rfl)) (by omega) rfl rfl (fun _ _ => ?_))))) | (apply ks_bs; (refine c_buildSlice rfl rfl rfl rfl rfl rfl rfl rfl rfl rfl (fun _ => ?_))))) | (apply g_atso; refine so_back (k := 0) (fun _ hw => hw.subs (by repeat ((exact Subs.sub (by repeat ((first | exact List.Sublist.refl _ | refine List.Sublist.cons _ ?_))))))) ?_) | (apply g_sot; (first | (refine sot_skip rfl ?_) | (refine sot_take rfl rfl rfl rfl (by kernel_rfl) (by decide +kernel) (by decide +kernel) ?_; ((first | (apply ky_move; refine sy_val (y_move rfl rfl) ?_) | (apply ky_asgn; refine sy_val (y_assign rfl rfl) ?_) | (apply ky_conv; (refine sy_val (c_conv (k := .i64) rfl rfl ⟨by omega, by omega⟩) ?_)) | (apply ky_slice; (refine sy_val (c_sliceStr rfl rfl rfl rfl (by omega) (by omega) (by omega)) ?_))))) | (refine sot_next rfl ?_) | (refine so_done (by decide +kernel) ?_) | (refine sot_all (by kernel_rfl) ?_))) | (apply g_soa; (first | (refine soa_end rfl) | (refine soa_no (by decide +kernel) ?_) | (refine soa_yes rfl ?_ ?_))) | (apply sw_exit) | (apply at_thn) | (apply at_thn_exit) | (apply at_inb_exit)))
        rename_i bx ax cx
        refine at_meet (m - 1, r1, X ++ [x], ax, cx) ⟨⟨by dsimp only; omega, by simp; omega, by dsimp only; rw [Hm.out]; simp⟩, by dsimp only; omega⟩ ?_ ?_
        · dsimp only
          rw [show (X ++ [x]).length = X.length + 1 from by simp, ← hr1]
          exact (by repeat ((first | exact Le.nil _ | refine Le.cons (by (rfl)) ?_)))
        · dsimp only
          rw [show (X ++ [x]).length = X.length + 1 from by simp, show ints (X ++ [x]) = ints X ++ [.int .i64 x] from by simp [ints]]
          exact (fun _ hw => hw.subs (by repeat ((first | refine Subs.cons (by repeat constructor) ?_ | exact Subs.sub (by repeat ((first | exact List.Sublist.refl _ | refine List.Sublist.cons _ ?_)))))))
      · have c1 := fun H => cL H r hz (by omega)
        obtain ⟨k0, k4, kl, kw, kn⟩ := long_bound (nums r) hrn
        rw [hl] at kl
        obtain ⟨k, hk⟩ : ∃ k, (longU (nums r)).1 = k := ⟨_, rfl⟩
        rw [hk] at k0 k4 kl kw kn
        have hmx : max k 1 = if k < 1 then 1 else k := by split <;> omega
        have hexp : ∀ e n, stepU (nums r) = some (e, n) → 0 < n → n ≤ r.size → ∃ r1, r.extract n r.size = r1 ∧ r1.size = r.size - n ∧ runU t.size (nums t) = ((runU (m - 1) (nums r1)).1, (X ++ [e]) ++ (runU (m - 1) (nums r1)).2) := fun e n h h1 h2 => by
          have hn1 := nums_drop r n
          refine ⟨_, rfl, by rw [← nums_length, hn1, List.length_drop, hl], ?_⟩
          rw [hm, run_some (by omega) hrn h, hn1]
          simp
        by_cases hw : (longU (nums r)).2 = true
        · have hst : stepU (nums r) = some (valU ((nums r).take k.toNat), k.toNat) := by unfold stepU; rw [if_neg hlow, if_pos hw, hk]
          have k2 := kw hw
          obtain ⟨r1, hr1, hl1, hm1⟩ := hexp _ _ hst (by omega) (by omega)
          have hv := val_bound (nums r) hb0.1 hlow hw hrn
          have c2 := fun H => cD H r
          rw [dec_whole r hw] at c2
          rw [hk] at c1 c2 hv
          rw [hw] at c1
          generalize valU ((nums r).take k.toNat) = V at *
          rw [hx1] at hlow hb0
          have hr1' : r.extract (max k 1).toNat (r.size : Int).toNat = r1 := by rw [show (max k 1).toNat = k.toNat from by omega]; exact hr1
          have Hm := Lib.hid hm1
          clear hm hst hexp kw kn hw hm1
          repeat' ((first | (apply g_sl; (first | (apply ks_nil; refine sl_nil ?_) | (apply ks_move; refine s_move rfl rfl ?_) | (apply ks_bin; refine s_bin rfl rfl rfl ?_; ((first | (refine bb_sne ?_) | ((refine bb_of rfl ?_))))) | (apply ks_asgn; refine s_asgn rfl rfl ?_) | (apply ks_extr; refine s_extr (y_extract rfl rfl rfl) rfl ?_) | (apply ks_conv; ((refine s_conv (c_conv (k := .i64) rfl rfl ⟨by omega, by omega⟩) rfl ?_))) | (apply ks_index; (((refine s_index (c_indexNumV hx0 rfl rfl rfl (by omega) (by omega)) rfl ?_)))) | (apply ks_fn; ((first | refine c_callv rfl rfl rfl (c1 _) rfl rfl ?_ | refine c_callv rfl rfl rfl (c2 _) rfl rfl ?_))) | (apply ks_bi; ((first | (refine s_call (c_max2 rfl rfl rfl) rfl ?_) | refine c_append rfl rfl rfl rfl (by (rfl)) (by (rfl)) (by omega) rfl rfl (fun _ _ => ?_)))) | (apply ks_bs; (refine c_buildSlice rfl rfl rfl rfl rfl rfl rfl rfl rfl rfl (fun _ => ?_))) | (apply ks_slice; (((refine s_slice (c_sliceStrV hr1' rfl rfl rfl rfl (by omega) (by omega) (by omega)) rfl ?_)))))) | (apply sw_seq) | (apply sw_skip) | (apply sw_ret) | (apply sw_exit) | (apply sw_block) | (apply sw_region) | (refine sw_cd rfl ?_; (first | (apply gd_t) | (apply gd_dec_t <;> intro hq <;> (try (exfalso; omega))) | (apply gd_not_t <;> intro hq))) | (apply at_thn) | (apply at_thn_exit) | (apply at_inb) | (apply at_inb_exit)))
          all_goals (first | (exact absurd (of_decide_eq_true (by assumption)) hr0) | skip)
          rename_i bx ax cx
          refine at_meet (m - 1, r1, X ++ [V], ax, cx) ⟨⟨by dsimp only; omega, by simp; omega, Hm.out⟩, by dsimp only; omega⟩ ?_ ?_
          · dsimp only
            rw [show (X ++ [V]).length = X.length + 1 from by simp]
            exact (by repeat ((first | exact Le.nil _ | refine Le.cons (by (rfl)) ?_)))
          · dsimp only
            rw [show (X ++ [V]).length = X.length + 1 from by simp, show ints (X ++ [V]) = ints X ++ [.int .i64 V] from by simp [ints]]
            exact (fun _ hw => hw.subs (by repeat ((first | refine Subs.cons (by repeat constructor) ?_ | exact Subs.sub (by repeat ((first | exact List.Sublist.refl _ | refine List.Sublist.cons _ ?_)))))))
        · have hw := Bool.eq_false_iff.2 hw
          have kn := kn hw
          rw [hk] at c1
          rw [hw] at c1
          by_cases hend : 0 < k ∧ k = r.size
          · have hst : stepU (nums r) = none := by unfold stepU; rw [if_neg hlow, if_neg (by rw [hw]; decide), hk, hl, if_pos hend]
            have hv : runU t.size (nums t) = (nums r, X) := by rw [hm, run_none _ hrn hst]; simp
            rw [hv]
            dsimp only
            rw [strOf_nums]
            rw [hx1] at hlow hb0
            obtain ⟨he1, he2⟩ := hend
            clear hm hst hexp kw kn hw hv
            repeat' ((first | (apply g_sl; (first | (apply ks_nil; refine sl_nil ?_) | (apply ks_move; refine s_move rfl rfl ?_) | (apply ks_bin; refine s_bin rfl rfl rfl ?_; ((first | (refine bb_sne ?_) | ((refine bb_of rfl ?_))))) | (apply ks_asgn; refine s_asgn rfl rfl ?_) | (apply ks_pick; refine s_pick rfl rfl ?_; ((apply kp_t; refine pk_t rfl ?_))) | (apply ks_extr; refine s_extr (y_extract rfl rfl rfl) rfl ?_) | (apply ks_index; (((refine s_index (c_indexNumV hx0 rfl rfl rfl (by omega) (by omega)) rfl ?_)))) | (apply ks_fn; (refine c_callv rfl rfl rfl (c1 _) rfl rfl ?_)) | (apply ks_bi; ((refine s_call (c_len_str rfl rfl) rfl ?_))) | (apply ks_guard; ((refine sl_gd rfl rfl rfl rfl ?_; (first | (apply gd_t) | (apply gd_dec_t <;> intro hq <;> (try (exfalso; omega))))))))) | (apply sw_seq) | (apply sw_skip) | (apply sw_ret) | (apply sw_exit) | (apply sw_block) | (apply sw_region) | (refine sw_cd rfl ?_; (first | (apply gd_ft) | (apply gd_dec_t <;> intro hq <;> (try (exfalso; omega))) | (apply gd_not_t <;> intro hq))) | (apply at_thn) | (apply at_thn_ret) | (apply at_thn_exit) | (apply at_inb_ret) | (apply at_inb_exit)))
            all_goals (first | (exact absurd (of_decide_eq_true (by assumption)) hr0) | skip)
            exact e_sc _ (.inr rfl) rfl (List.Sublist.refl _) ⟨_, _, rfl, rfl⟩
          · have hst : stepU (nums r) = some (65533, (max k 1).toNat) := by unfold stepU; rw [if_neg hlow, if_neg (by rw [hw]; decide), hk, hl, if_neg hend]
            obtain ⟨r1, hr1', hl1, hm1⟩ := hexp _ _ hst (by omega) (by omega)
            have hr1' : r.extract (max k 1).toNat (r.size : Int).toNat = r1 := hr1'
            rw [hx1] at hlow hb0
            have Hm := Lib.hid hm1
            clear hm hst hexp kw kn hw hm1
            by_cases hk0 : 0 < k
            · have hk1 : ¬ k = r.size := fun h => hend ⟨hk0, h⟩
              clear hend
              repeat' ((first | (apply g_sl; (first | (apply ks_nil; refine sl_nil ?_) | (apply ks_move; refine s_move rfl rfl ?_) | (apply ks_bin; refine s_bin rfl rfl rfl ?_; ((first | (refine bb_sne ?_) | ((refine bb_of rfl ?_))))) | (apply ks_asgn; refine s_asgn rfl rfl ?_) | (apply ks_pick; refine s_pick rfl rfl ?_; ((apply kp_t; refine pk_t rfl ?_))) | (apply ks_extr; refine s_extr (y_extract rfl rfl rfl) rfl ?_) | (apply ks_index; (((refine s_index (c_indexNumV hx0 rfl rfl rfl (by omega) (by omega)) rfl ?_)))) | (apply ks_fn; (refine c_callv rfl rfl rfl (c1 _) rfl rfl ?_)) | (apply ks_bi; ((first | (refine s_call (c_max2 rfl rfl rfl) rfl ?_) | refine s_call (c_len_str rfl rfl) rfl ?_ | refine c_append rfl rfl rfl rfl (by (rfl)) (by (rfl)) (by omega) rfl rfl (fun _ _ => ?_)))) | (apply ks_bs; (refine c_buildSlice rfl rfl rfl rfl rfl rfl rfl rfl rfl rfl (fun _ => ?_))) | (apply ks_slice; (((refine s_slice (c_sliceStrV hr1' rfl rfl rfl rfl (by omega) (by omega) (by omega)) rfl ?_)))) | (apply ks_guard; ((refine sl_gd rfl rfl rfl rfl ?_; (first | (apply gd_t) | (apply gd_dec_t <;> intro hq <;> (try (exfalso; omega))))))))) | (apply sw_seq) | (apply sw_skip) | (apply sw_ret) | (apply sw_exit) | (apply sw_block) | (apply sw_region) | (refine sw_cd rfl ?_; (first | (apply gd_ft) | (apply gd_dec_t <;> intro hq <;> (try (exfalso; omega))) | (apply gd_not_t <;> intro hq))) | (apply at_thn) | (apply at_thn_exit) | (apply at_inb) | (apply at_inb_exit)))
              all_goals (first | (exact absurd (of_decide_eq_true (by assumption)) hr0) | skip)
              rename_i bx ax cx
              refine at_meet (m - 1, r1, X ++ [65533], ax, cx) ⟨⟨by dsimp only; omega, by simp; omega, Hm.out⟩, by dsimp only; omega⟩ ?_ ?_
              · dsimp only
                rw [show (X ++ [(65533 : Int)]).length = X.length + 1 from by simp]
                exact (by repeat ((first | exact Le.nil _ | refine Le.cons (by (rfl)) ?_)))
              · dsimp only
                rw [show (X ++ [(65533 : Int)]).length = X.length + 1 from by simp, show ints (X ++ [(65533 : Int)]) = ints X ++ [.int .i64 65533] from by simp [ints]]
                exact (fun _ hw => hw.subs (by repeat ((first | refine Subs.cons (by repeat constructor) ?_ | exact Subs.sub (by repeat ((first | exact List.Sublist.refl _ | refine List.Sublist.cons _ ?_)))))))
            · clear hend
              repeat' ((first | (apply g_sl; (first | (apply ks_nil; refine sl_nil ?_) | (apply ks_move; refine s_move rfl rfl ?_) | (apply ks_bin; refine s_bin rfl rfl rfl ?_; ((first | (refine bb_sne ?_) | ((refine bb_of rfl ?_))))) | (apply ks_asgn; refine s_asgn rfl rfl ?_) | (apply ks_pick; refine s_pick rfl rfl ?_; ((apply kp_f; refine pk_f rfl ?_))) | (apply ks_extr; refine s_extr (y_extract rfl rfl rfl) rfl ?_) | (apply ks_index; (((refine s_index (c_indexNumV hx0 rfl rfl rfl (by omega) (by omega)) rfl ?_)))) | (apply ks_fn; (refine c_callv rfl rfl rfl (c1 _) rfl rfl ?_)) | (apply ks_bi; ((first | (refine s_call (c_max2 rfl rfl rfl) rfl ?_) | refine c_append rfl rfl rfl rfl (by (rfl)) (by (rfl)) (by omega) rfl rfl (fun _ _ => ?_)))) | (apply ks_bs; (refine c_buildSlice rfl rfl rfl rfl rfl rfl rfl rfl rfl rfl (fun _ => ?_))) | (apply ks_slice; (((refine s_slice (c_sliceStrV hr1' rfl rfl rfl rfl (by omega) (by omega) (by omega)) rfl ?_)))) | (apply ks_guard; ((refine sl_gd rfl rfl rfl rfl ?_; (first | (apply gd_ft) | (apply gd_dec_t <;> intro hq <;> (try (exfalso; omega))))))))) | (apply sw_seq) | (apply sw_skip) | (apply sw_ret) | (apply sw_exit) | (apply sw_block) | (apply sw_region) | (refine sw_cd rfl ?_; (first | (apply gd_ft) | (apply gd_dec_t <;> intro hq <;> (try (exfalso; omega))) | (apply gd_not_t <;> intro hq))) | (apply at_thn) | (apply at_thn_exit) | (apply at_inb) | (apply at_inb_exit)))
              all_goals (first | (exact absurd (of_decide_eq_true (by assumption)) hr0) | skip)
              rename_i bx ax cx
              refine at_meet (m - 1, r1, X ++ [65533], ax, cx) ⟨⟨by dsimp only; omega, by simp; omega, Hm.out⟩, by dsimp only; omega⟩ ?_ ?_
              · dsimp only
                rw [show (X ++ [(65533 : Int)]).length = X.length + 1 from by simp]
                exact (by repeat ((first | exact Le.nil _ | refine Le.cons (by (rfl)) ?_)))
              · dsimp only
                rw [show (X ++ [(65533 : Int)]).length = X.length + 1 from by simp, show ints (X ++ [(65533 : Int)]) = ints X ++ [.int .i64 65533] from by simp [ints]]
                exact (fun _ hw => hw.subs (by repeat ((first | refine Subs.cons (by repeat constructor) ?_ | exact Subs.sub (by repeat ((first | exact List.Sublist.refl _ | refine List.Sublist.cons _ ?_)))))))
end Go.Proofs.YtmbfechiallppaaGreatDoor
end
section
namespace Go.Fw
open Go Go.RowKit Go.Sx
theorem pw_nat (k : Nat) : pw k = ((2 ^ k : Nat) : Int) := by rw [pw_eq]; simp
end Go.Fw
end
section
namespace Go.Fw
open Go Go.RowKit Go.Sx
def wdL (X : List Int) : List Value := X.map (Value.int .u64)
theorem wdL_at {V : List Int} (k : Nat) (h : k < V.length) : (wdL V)[k]? = some (.int .u64 (V.getD k 0)) := by
  unfold wdL
  rw [List.getElem?_map, List.getElem?_eq_getElem h, List.getD_eq_getElem?_getD, List.getElem?_eq_getElem h]
  rfl
theorem wdL_len (V : List Int) : (wdL V).length = V.length := by simp [wdL]
theorem getD_b {V : List Int} {B : Int} (hB : 0 ≤ B) (h : ∀ x ∈ V, 0 ≤ x ∧ x ≤ B) (k : Nat) : 0 ≤ V.getD k 0 ∧ V.getD k 0 ≤ B := by
  rw [List.getD_eq_getElem?_getD]
  cases hq : V[k]? with
  | none => exact ⟨Int.le_refl 0, hB⟩
  | some x => exact h x (List.mem_of_getElem? hq)
/-- The bit of a byte in a mask. -/
def bitB (V : List Int) (b : Nat) : Bool := V.getD (b / 64) 0 / pw (b % 64) % 2 == 1
/-- Where a text's end of noughts begins. -/
def trN (d : ByteArray) : Nat → Nat
  | 0 => 0
  | m + 1 => if (nums d).getD m 0 = 0 then trN d m else m + 1
end Go.Fw
end
section
namespace Go.Proofs.YtmbfechiallppaaGreatDoor
open Go Go.RowKit Go.Fw Go.Sx
set_option maxRecDepth 100000
set_option maxHeartbeats 1000000
attribute [local irreducible] SW SL SQ AtQ SV SC BB LD PK Yields SO SOT SOA SY
abbrev maskV (V : List Int) : Value := .agg (wdL V).toArray
def W64 (V : List Int) : Prop := V.length = 4 ∧ ∀ x ∈ V, 0 ≤ x ∧ x ≤ 18446744073709551615
theorem maskHas_sv (G : Ctx) (H : List Ent) (V : List Int) (b : Nat) (hV : W64 V) (hb : b < 256) : SV Tryz.prog G 217 [maskV V, .int .u8 b] H (.bool (bitB V b)) := by
  obtain ⟨hl, h64⟩ := hV
  have hv : (wdL V)[0 + ((b : Int) / 64).toNat * 1]? = some (.int .u64 (V.getD (b / 64) 0)) := by
    rw [show 0 + ((b : Int) / 64).toNat * 1 = b / 64 from by omega, wdL_at _ (by omega)]
  have hw := getD_b (by decide) h64 (b / 64)
  have e : bitB V b = (V.getD (b / 64) 0 / pw ((b : Int) % 64).toNat % 2 == 1) := by
    unfold bitB
    rw [show ((b : Int) % 64).toNat = b % 64 from by omega]
  rw [e]
  clear e h64
  generalize V.getD (b / 64) 0 = x at *
  obtain ⟨w1, w2⟩ := hw
  obtain ⟨b1, b2⟩ := pdiv_bd ((b : Int) % 64).toNat w1
  refine sv_enter2 Tryz.func217 rfl rfl rfl rfl rfl ?_
  repeat' ((first | (apply g_sl; (first | (apply ks_nil; refine sl_nil ?_) | (apply ks_move; refine s_move rfl rfl ?_) | (apply ks_bin; refine s_bin rfl rfl rfl ?_; ((first | (refine bb_shrN (by omega) (by show ((b : Int) % 64).toNat ≤ 64; omega) ?_) | (refine bb_and1 b1 (by omega) ?_) | ((first | (apply kb_quo; refine bb_quo ⟨by omega, by omega⟩ (by omega) (by omega) ?_) | (apply kb_rem; refine bb_rem (by omega) (by omega) ?_) | refine bb_of rfl ?_))))) | (apply ks_load; (((refine s_load rfl rfl ?_; refine ld_cell hv ?_)))) | (apply ks_asgn; refine s_asgn rfl rfl ?_) | (apply ks_field; (refine s_field (c_field0 rfl rfl) rfl ?_)) | (apply ks_indexA; (((refine s_indexA (c_indexP rfl rfl rfl (by omega) (by omega)) rfl ?_)))) | (apply ks_box; refine c_box rfl rfl rfl rfl rfl rfl (fun _ => ?_)))) | (apply sw_seq) | (apply sw_ret) | (apply sw_region) | (apply at_thn)))
  all_goals (refine e_sv (by (exact .inr rfl)) rfl (by repeat ((first | exact List.Sublist.refl _ | refine List.Sublist.cons _ ?_))) ?_; rfl)
end Go.Proofs.YtmbfechiallppaaGreatDoor
end
section
namespace Go.Proofs.YtmbfechiallppaaGreatDoor
open Go Go.RowKit Go.Fw Go.Sx
def keyI (L : List Int) (f : Nat) : Int := if kLv L f = 0 then -1 else kCh L f
def backS (n : Nat) : ByteArray := ⟨(Lib.repeatL [8, 32, 8] n).toArray⟩
def trimS (s : ByteArray) : ByteArray := ⟨(Lib.trimRightB s.data.toList 32).toArray⟩
def lastS (s : ByteArray) : Int := Lib.lastIndexByte s 32
def wordS (s : ByteArray) : ByteArray := (trimS s).extract 0 (lastS (trimS s) + 1).toNat
abbrev TyR := ByteArray × Bool × ByteArray × ByteArray
def eraseR (s left : ByteArray) : TyR := (left, false, ⟨#[]⟩, backS (s.size - left.size))
def typedU (L : List Int) (im : Bool) (s : ByteArray) (q : Bool) (b : Int) : TyR :=
  if q = true then (if (s ++ strOfNums [b]).size = 1024 then (⟨#[]⟩, false, s ++ strOfNums [b], strOfNums [b]) else (s ++ strOfNums [b], false, ⟨#[]⟩, strOfNums [b]))
  else if b = keyI L 14 then (s, true, ⟨#[]⟩, ⟨#[]⟩)
  else if b = keyI L 10 then (if s = ⟨#[]⟩ then eraseR s s else eraseR s (s.extract 0 (s.size - 1)))
  else if b = keyI L 12 then eraseR s (wordS s)
  else if b = keyI L 11 then eraseR s ⟨#[]⟩
  else if b = keyI L 13 then (s, false, ⟨#[]⟩, ⟨#[13, 10]⟩ ++ s)
  else if (s ++ strOfNums [b]).size = 1024 ∨ b = 13 ∨ b = 10 ∨ b = keyI L 17 ∨ b = keyI L 18 ∨ im = true then (⟨#[]⟩, false, s ++ strOfNums [b], strOfNums [b])
  else (s ++ strOfNums [b], false, ⟨#[]⟩, strOfNums [b])
theorem trimS_le (s : ByteArray) : (trimS s).size ≤ s.size := by
  show (Lib.trimRightB s.data.toList 32).toArray.size ≤ _
  rw [List.size_toArray]
  unfold Lib.trimRightB
  rw [List.length_reverse]
  have := (List.dropWhile_sublist (fun x : UInt8 => x == 32) (l := s.data.toList.reverse)).length_le
  rw [List.length_reverse] at this
  exact this
theorem lastS_bd (s : ByteArray) : -1 ≤ lastS s ∧ lastS s < s.size := by
  unfold lastS
  rcases Lib.lastIndexByte_spec s 32 with ⟨h, -⟩ | ⟨i, h1, h2, -⟩
  · rw [h]; omega
  · omega
theorem backS_size (n : Nat) : (backS n).size = n * 3 := by
  show (Lib.repeatL [8, 32, 8] n).toArray.size = _
  rw [List.size_toArray, Lib.repeatL_length]; rfl
theorem s1_size (b : Int) : (strOfNums [b]).size = 1 := by show (([b].map fun n => UInt8.ofNat n.toNat).toArray).size = 1; rfl
theorem eraseR_size (s left : ByteArray) (h : left.size ≤ s.size) (hs : s.size ≤ 1023) : (eraseR s left).1.size ≤ 1023 ∧ (eraseR s left).2.2.1.size ≤ 1024 ∧ (eraseR s left).2.2.2.size ≤ 3100 := by
  have h0 : (⟨#[]⟩ : ByteArray).size = 0 := rfl
  refine ⟨by show left.size ≤ _; omega, by show (⟨#[]⟩ : ByteArray).size ≤ _; omega, ?_⟩
  show (backS (s.size - left.size)).size ≤ _
  rw [backS_size]; omega
theorem wordS_le (s : ByteArray) : (wordS s).size ≤ s.size := by
  have h1 := trimS_le s
  have h2 := lastS_bd (trimS s)
  unfold wordS
  rw [ByteArray.size_extract]; omega
theorem typedU_size (L : List Int) (im : Bool) (s : ByteArray) (q : Bool) (b : Int) (hs : s.size ≤ 1023) : (typedU L im s q b).1.size ≤ 1023 ∧ (typedU L im s q b).2.2.1.size ≤ 1024 ∧ (typedU L im s q b).2.2.2.size ≤ 3100 := by
  have h0 : (⟨#[]⟩ : ByteArray).size = 0 := rfl
  have h1 := s1_size b
  have hu : (s ++ strOfNums [b]).size = s.size + 1 := by rw [ByteArray.size_append, h1]
  have h2 : ((⟨#[13, 10]⟩ : ByteArray) ++ s).size = 2 + s.size := by rw [ByteArray.size_append]; rfl
  unfold typedU
  generalize s ++ strOfNums [b] = u at *
  generalize (⟨#[13, 10]⟩ : ByteArray) ++ s = v at *
  split
  · split
    · dsimp only; omega
    · dsimp only; omega
  split
  · dsimp only; omega
  split
  · split
    · exact eraseR_size s s (Nat.le_refl _) hs
    · exact eraseR_size s _ (by rw [ByteArray.size_extract]; omega) hs
  split
  · exact eraseR_size s _ (wordS_le s) hs
  split
  · exact eraseR_size s _ (by omega) hs
  split
  · dsimp only; omega
  split
  · dsimp only; omega
  · rename_i h
    dsimp only
    have : ¬ u.size = 1024 := fun e => h (.inl e)
    omega
/-- The editor's line, whether the next byte is quoted, the lines sent, what is shown. -/
abbrev TyS := ByteArray × Bool × List ByteArray × ByteArray
def stepT (L V : List Int) (st : TyS) (b : Int) : TyS :=
  let r := typedU L (bitB V b.toNat) st.1 st.2.1 b
  (r.1, r.2.1, (if r.2.2.1 = ⟨#[]⟩ then st.2.2.1 else st.2.2.1 ++ [r.2.2.1]), st.2.2.2 ++ r.2.2.2)
def typeU (L V : List Int) (st : TyS) (l : List Int) : TyS := l.foldl (stepT L V) st
theorem typeU_snoc (L V : List Int) (st : TyS) (s : ByteArray) (i : Nat) (h : i < s.size) : typeU L V st ((nums s).take (i + 1)) = stepT L V (typeU L V st ((nums s).take i)) ((nums s).getD i 0) := by
  unfold typeU
  rw [List.take_succ_eq_append_getElem (by rw [nums_length]; exact h), List.foldl_append, List.getD_eq_getElem?_getD, List.getElem?_eq_getElem (by rw [nums_length]; exact h)]
  rfl
theorem typeU_ok (L V : List Int) (s0 : ByteArray) (q : Bool) (s : ByteArray) (h0 : s0.size ≤ 1023) : ∀ i, i ≤ s.size → (typeU L V (s0, q, [], ⟨#[]⟩) ((nums s).take i)).1.size ≤ 1023 ∧ (typeU L V (s0, q, [], ⟨#[]⟩) ((nums s).take i)).2.2.1.length ≤ i ∧ (typeU L V (s0, q, [], ⟨#[]⟩) ((nums s).take i)).2.2.2.size ≤ i * 3100
  | 0, _ => ⟨h0, Nat.le_refl _, Nat.le_refl _⟩
  | i + 1, h => by
    have ih := typeU_ok L V s0 q s h0 i (by omega)
    rw [typeU_snoc _ _ _ _ _ (by omega)]
    generalize typeU L V (s0, q, [], ⟨#[]⟩) ((nums s).take i) = st at *
    obtain ⟨i1, i2, i3⟩ := ih
    have hz := typedU_size L (bitB V ((nums s).getD i 0).toNat) st.1 st.2.1 ((nums s).getD i 0) i1
    unfold stepT
    dsimp only
    generalize typedU L (bitB V ((nums s).getD i 0).toNat) st.1 st.2.1 ((nums s).getD i 0) = r at *
    refine ⟨hz.1, ?_, ?_⟩
    · split
      · omega
      · rw [List.length_append]; simp; omega
    · rw [ByteArray.size_append]; omega
end Go.Proofs.YtmbfechiallppaaGreatDoor
end
section
namespace Go.Proofs.YtmbfechiallppaaGreatDoor
open Go Go.RowKit Go.Fw Go.Sx
set_option maxRecDepth 100000
set_option maxHeartbeats 1000000
attribute [local irreducible] SW SL SQ AtQ SV SC BB LD PK Yields SO SOT SOA SY
theorem lineCheck_sv (G : Ctx) (H : List Ent) (s0 : ByteArray) (q : Bool) : SV Tryz.prog G 55 [.agg #[.string s0, .bool q]] H (.int .i64 (if 1024 ≤ s0.size then 2 else 0)) := by
  refine sv_enter1 Tryz.func55 rfl rfl rfl rfl rfl ?_
  repeat' ((first | (apply g_sl; (first | (apply ks_nil; refine sl_nil ?_) | (apply ks_bin; refine s_bin rfl rfl rfl ?_; (((refine bb_of rfl ?_)))) | (apply ks_load; ((refine s_load rfl rfl ?_; (refine ld_cell rfl ?_)))) | (apply ks_asgn; refine s_asgn rfl rfl ?_) | (apply ks_field; (refine s_field (c_field0 rfl rfl) rfl ?_)) | (apply ks_bi; (refine s_call (c_len_str rfl rfl) rfl ?_)) | (apply ks_box; refine c_box rfl rfl rfl rfl rfl rfl (fun _ => ?_)))) | (apply sw_seq) | (apply sw_skip) | (apply sw_ret) | (apply sw_region) | (refine sw_cd rfl ?_; ((apply gd_dec_t <;> intro hq <;> (try (exfalso; omega))))) | (apply at_thn) | (apply at_thn_ret)))
  · refine e_sv (by (exact .inr rfl)) rfl (by repeat ((first | exact List.Sublist.refl _ | refine List.Sublist.cons _ ?_))) ?_
    rw [if_pos (by omega)]
    rfl
  · refine e_sv (by (exact .inr rfl)) rfl (by repeat ((first | exact List.Sublist.refl _ | refine List.Sublist.cons _ ?_))) ?_
    rw [if_neg (by omega)]
    rfl
end Go.Proofs.YtmbfechiallppaaGreatDoor
end
section
namespace Go.Fw
open Go Go.RowKit Go.Sx
abbrev Tk := Int × Int × Int × ByteArray
def tokC (t : Tk) : List Value := [.int .i64 t.1, .int .i64 t.2.1, .int .i64 t.2.2.1, .string t.2.2.2]
instance : En tokC 4 := ⟨fun _ => rfl⟩
def toks (L : List Tk) : List Value := L.flatMap tokC
theorem toks_snoc (L : List Tk) (x : Tk) : toks (L ++ [x]) = toks L ++ tokC x := fm_snoc L x
/-- Each 255 twice. -/
def esc2 (l : List UInt8) : List UInt8 := l.flatMap fun b => if b = 255 then [255, 255] else [b]
def escS (d : ByteArray) : ByteArray := ⟨(esc2 d.data.toList).toArray⟩
theorem esc2_len (l : List UInt8) : (esc2 l).length ≤ 2 * l.length := by
  unfold esc2
  induction l with
  | nil => exact Nat.le_refl _
  | cons b l ih =>
    rw [List.flatMap_cons, List.length_append, List.length_cons]
    have : (if b = 255 then [(255 : UInt8), 255] else [b]).length ≤ 2 := by split <;> simp
    omega
theorem escS_size (d : ByteArray) : (escS d).size ≤ 2 * d.size := by
  have h : (escS d).size = (esc2 d.data.toList).length := List.size_toArray
  rw [h]; exact esc2_len _
/-- What a token is written as. -/
def tokS (k c o : Int) (d : ByteArray) : ByteArray × Int :=
  if k = 1 ∧ c = 0 ∧ o = 0 then (escS d, 0)
  else if k = 2 ∧ (240 ≤ c ∧ c ≤ 249) ∧ o = 0 ∧ d = ⟨#[]⟩ then (strOfNums [255, c], 0)
  else if k = 3 ∧ (251 ≤ c ∧ c ≤ 254) ∧ (0 ≤ o ∧ o ≤ 255) ∧ d = ⟨#[]⟩ then (strOfNums [255, c, o], 0)
  else if k = 4 ∧ c = 0 ∧ (0 ≤ o ∧ o ≤ 255) then (if d.size > 4096 then (⟨#[]⟩, 2) else (strOfNums [255, 250, o] ++ escS d ++ ⟨#[255, 240]⟩, 0))
  else (⟨#[]⟩, 1)
end Go.Fw
end
section
namespace Go.Fw
open Go Go.Lib
theorem replaceK_one (c : UInt8) (new : List UInt8) : ∀ s : List UInt8, replaceK [c] new (s.count c) s = s.flatMap (fun b => if b = c then new else [b])
  | [] => rfl
  | b :: l => by
    have ih := replaceK_one c new l
    rw [List.flatMap_cons]
    by_cases h : b = c
    · subst h
      have hi : index (b :: l) [b] = ((0 : Nat) : Int) := by unfold index; simp
      rw [List.count_cons_self, replaceK_hit _ _ _ _ _ hi, if_pos rfl, ← ih]
      simp
    · rw [List.count_cons_of_ne h, if_neg h]
      cases hc : l.count c with
      | zero =>
        rw [hc] at ih
        rw [← ih]
        rfl
      | succ k =>
        rw [hc] at ih
        obtain ⟨i, hi⟩ := index_of_count (s := l) (old := [c]) (by rw [count_one, hc]; omega)
        have hi2 : index (b :: l) [c] = ((i + 1 : Nat) : Int) := by
          unfold index
          have hp : ([c].isPrefixOf (b :: l)) = false := by simp only [List.isPrefixOf, Bool.and_true]; exact beq_eq_false_iff_ne.2 fun e => h e.symm
          rw [hp, hi]
          simp
        rw [replaceK_hit _ _ _ _ _ hi2, ← ih, replaceK_hit _ _ _ _ _ hi]
        simp
theorem replaceAll_one (c : UInt8) (new s : List UInt8) (h : [c] ≠ new) : replaceAll s [c] new = s.flatMap (fun b => if b = c then new else [b]) := by
  unfold replaceAll replace replaceNum
  rw [if_neg (by simpa using h), if_pos (.inl (by decide)), count_one, replaceK_one]
/-- A byte in the network's form. -/
def outB (b : UInt8) : List UInt8 := if b = 10 then [13, 10] else if b = 13 then [13, 0] else [b]
/-- The bytes that came in: what is pending, and what is told. -/
def mIn : Bool → List UInt8 → Bool × List UInt8
  | cr, [] => (cr, [])
  | true, c :: l => if c = 10 then ((mIn false l).1, 10 :: (mIn false l).2) else if c = 0 then ((mIn false l).1, 13 :: (mIn false l).2) else if c = 13 then ((mIn true l).1, 13 :: (mIn true l).2) else ((mIn false l).1, 13 :: c :: (mIn false l).2)
  | false, c :: l => if c = 13 then mIn true l else ((mIn false l).1, c :: (mIn false l).2)
end Go.Fw
end
section
namespace Go.Fw
open Go Go.RowKit Go.Sx
/-- A receiver: mode, command, option, whether the words are too many, the words; the data, the tokens. -/
structure Rc where
  mode : Int
  cmd : Int
  opt : Int
  over : Bool
  buf : List Int
  data : List Int
  out : List Tk
abbrev noB : ByteArray := ⟨#[]⟩
def dtok (l : List Int) : Tk := (1, 0, 0, strOfNums l)
namespace Rc
def flush (r : Rc) : Rc := if r.data = [] then r else { r with data := [], out := r.out ++ [dtok r.data] }
def tok (r : Rc) (t : Tk) : Rc := { r.flush with out := r.flush.out ++ [t] }
def sub (r : Rc) (c : Int) : Rc := if r.buf.length = 4096 then { r with buf := [], over := true } else if r.over = true then r else { r with buf := r.buf ++ [c] }
def finT (r : Rc) (c : Int) : Tk := if c = 240 then (if r.over = true then (5, 250, r.opt, noB) else (4, 0, r.opt, strOfNums r.buf)) else (5, c, r.opt, noB)
def fin (r : Rc) (c : Int) : Rc := { r.tok (r.finT c) with mode := 0, cmd := 0, opt := 0, over := false, buf := [] }
def com (r : Rc) (c : Int) : Rc :=
  if c = 255 then { r with mode := 0, data := r.data ++ [c] } else if 251 ≤ c then { r with mode := 2, cmd := c } else if c = 250 then { r with mode := 3 }
  else if 240 ≤ c then { r.tok (2, c, 0, noB) with mode := 0 } else { r.tok (5, c, 0, noB) with mode := 0 }
def take (r : Rc) (c : Int) : Rc :=
  if r.mode = 0 then (if c = 255 then { r with mode := 1 } else { r with data := r.data ++ [c] })
  else if r.mode = 1 then r.com c
  else if r.mode = 2 then { r.tok (3, r.cmd, c, noB) with mode := 0, cmd := 0 }
  else if r.mode = 3 then { r with mode := 4, opt := c }
  else if r.mode = 4 then (if c = 255 then { r with mode := 5 } else r.sub c)
  else if c = 255 then ({ r with mode := 4 } : Rc).sub c else r.fin c
/-- Within words: those so far. -/
def words (r : Rc) (m o : Int) (acc : List Int) : Rc := { r with mode := m, opt := o, over := decide (4096 < acc.length), buf := if 4096 < acc.length then [] else acc }
theorem t0 {r : Rc} (h : r.mode = 0) (c : Int) : r.take c = if c = 255 then { r with mode := 1 } else { r with data := r.data ++ [c] } := by unfold take; rw [if_pos h]
theorem t1 {r : Rc} (h : r.mode = 1) (c : Int) : r.take c = r.com c := by unfold take; rw [if_neg (by rw [h]; decide), if_pos h]
theorem t2 {r : Rc} (h : r.mode = 2) (c : Int) : r.take c = { r.tok (3, r.cmd, c, noB) with mode := 0, cmd := 0 } := by unfold take; rw [if_neg (by rw [h]; decide), if_neg (by rw [h]; decide), if_pos h]
theorem t3 {r : Rc} (h : r.mode = 3) (c : Int) : r.take c = { r with mode := 4, opt := c } := by unfold take; rw [if_neg (by rw [h]; decide), if_neg (by rw [h]; decide), if_neg (by rw [h]; decide), if_pos h]
theorem t4 {r : Rc} (h : r.mode = 4) (c : Int) : r.take c = if c = 255 then { r with mode := 5 } else r.sub c := by unfold take; rw [if_neg (by rw [h]; decide), if_neg (by rw [h]; decide), if_neg (by rw [h]; decide), if_neg (by rw [h]; decide), if_pos h]
theorem t5 {r : Rc} (h : r.mode = 5) (c : Int) : r.take c = if c = 255 then ({ r with mode := 4 } : Rc).sub c else r.fin c := by unfold take; rw [if_neg (by rw [h]; decide), if_neg (by rw [h]; decide), if_neg (by rw [h]; decide), if_neg (by rw [h]; decide), if_neg (by rw [h]; decide)]
end Rc
/-- A token is pushed. -/
def Rc.push (r : Rc) (t : Tk) : Rc := if t.1 = 1 then { r with data := r.data ++ nums t.2.2.2 } else r.tok t
theorem tok_wire (r : Rc) (t : Tk) : (r.tok t).mode = r.mode ∧ (r.tok t).cmd = r.cmd ∧ (r.tok t).opt = r.opt ∧ (r.tok t).over = r.over ∧ (r.tok t).buf = r.buf := by
  unfold Rc.tok Rc.flush
  split <;> exact ⟨rfl, rfl, rfl, rfl, rfl⟩
def Rc.opn (r : Rc) : Option Tk := if r.data = [] then none else some (dtok r.data)
theorem flush_out (r : Rc) : r.flush.out = r.out ++ r.opn.toList := by
  unfold Rc.flush Rc.opn
  split <;> simp
end Go.Fw
namespace Go.Fw
open Go Go.RowKit Go.Sx Go.Lib
end Go.Fw
end
section
namespace Go.Fw
open Go Go.RowKit Go.Sx
def u8s (l : List UInt8) : List Int := l.map fun b => (b.toNat : Int)
theorem u8s_app (a b : List UInt8) : u8s (a ++ b) = u8s a ++ u8s b := List.map_append
theorem u8s_len (l : List UInt8) : (u8s l).length = l.length := List.length_map _
theorem outB_len (l : List UInt8) : (l.flatMap outB).length ≤ 2 * l.length := by
  induction l with
  | nil => exact Nat.le_refl _
  | cons b l ih =>
    rw [List.flatMap_cons, List.length_append, List.length_cons]
    have : (outB b).length ≤ 2 := by unfold outB; split; exact Nat.le_refl _; split; exact Nat.le_refl _; exact Nat.le_succ _
    omega
theorem outB_snoc {l : List UInt8} {i : Nat} {b : UInt8} (h : l[i]? = some b) : (l.take (i + 1)).flatMap outB = (l.take i).flatMap outB ++ outB b := by
  obtain ⟨hi, rfl⟩ := List.getElem?_eq_some_iff.1 h
  rw [List.take_succ_eq_append_getElem hi, List.flatMap_append]
  simp
end Go.Fw
namespace Go.Proofs.YtmbfechiallppaaGreatDoor
open Go Go.RowKit Go.Fw Go.Sx
set_option maxRecDepth 100000
set_option maxHeartbeats 1000000
attribute [local irreducible] SW SL SQ AtQ SV SC BB LD PK Yields SO SOT SOA SY
theorem nvtOut_sv (G : Ctx) (H : List Ent) (d : ByteArray) (hd : d.size ≤ 1048576) : SV Tryz.prog G 14 [.string d, .bool false] H (.string (strOfNums (u8s (d.data.toList.flatMap outB)))) := by
  have hdl : d.data.toList.length = d.size := rfl
  have hln := fun i => outB_len (d.data.toList.take i)
  refine sv_enter2 Tryz.func14 rfl rfl rfl rfl rfl ?_
  repeat' ((first | (apply g_sl; (first | (apply ks_nil; refine sl_nil ?_) | (apply ks_move; refine s_move rfl rfl ?_) | (apply ks_asgn; refine s_asgn rfl rfl ?_) | (apply ks_bi; (refine s_call (c_len_str rfl rfl) rfl ?_)))) | (apply sw_seq) | (apply sw_skip) | (apply sw_block) | ((fail_if_success (refine g_reg (id := 5) ?_)); apply sw_region) | (refine sw_cd rfl ?_; ((apply gd_ft))) | (apply at_thn)))
  refine sw_loopg (α := Nat × Option Addr × Nat) (fun g => [(0, .string d), (5, .slice g.2.1 (u8s ((d.data.toList.take g.1).flatMap outB)).length g.2.2), (10, .int .i64 d.size), (11, .int .i64 g.1)]) (fun g => .own 5 1 g.2.1 (u8s ((d.data.toList.take g.1).flatMap outB)).length g.2.2 (octs (u8s ((d.data.toList.take g.1).flatMap outB))) :: H)
    (fun g => g.1 ≤ d.size) (fun g => d.size - g.1) (0, none, 0) (Nat.zero_le _) (by repeat ((first | exact Le.nil _ | refine Le.cons (by (rfl)) ?_))) (fun _ hw => (hw.nilrow _ _).subs (by repeat ((first | refine Subs.cons (by repeat constructor) ?_ | exact Subs.sub (by repeat ((exact List.Sublist.refl _))))))) ?_
  rintro ⟨i, ai, ci⟩ hi
  dsimp only at hi ⊢
  have hli := hln i
  rw [List.length_take] at hli
  have hul := u8s_len ((d.data.toList.take i).flatMap outB)
  by_cases hlt : (i : Int) < (d.size : Int)
  · obtain ⟨b, hb⟩ : ∃ b, d.data.toList[i]? = some b := ⟨_, List.getElem?_eq_getElem (by omega)⟩
    have hsn := outB_snoc hb
    have hnb : (nums d).getD (i : Int).toNat 0 = (b.toNat : Int) := by
      unfold nums
      rw [Int.toNat_natCast, List.getD_eq_getElem?_getD, List.getElem?_map, hb]
      rfl
    have hs0 : u8s ((d.data.toList.take (i + 1)).flatMap outB) = u8s ((d.data.toList.take i).flatMap outB) ++ u8s (outB b) := by rw [hsn, u8s_app]
    rw [← hul] at hli
    clear hln hsn hul
    generalize u8s ((d.data.toList.take i).flatMap outB) = L at *
    by_cases h10 : b = 10
    · have hs : u8s ((d.data.toList.take (i + 1)).flatMap outB) = L ++ [13, 10] := by rw [hs0, h10]; rfl
      have hv : (b.toNat : Int) = 10 := by rw [h10]; rfl
      repeat' ((first | (apply g_sl; (first | (apply ks_nil; refine sl_nil ?_) | (apply ks_move; refine s_move rfl rfl ?_) | (apply ks_bin; refine s_bin rfl rfl rfl ?_; ((((first | (apply kb_add; (refine bb_add ⟨by omega, by omega⟩ ?_)) | refine bb_of rfl ?_))))) | (apply ks_asgn; refine s_asgn rfl rfl ?_) | (apply ks_index; (((refine s_index (c_indexNum rfl rfl rfl (by omega) (by omega)) rfl ?_)))) | (apply ks_bi; ((refine c_append rfl rfl rfl rfl (by (rfl)) (by (rfl)) (by omega) rfl rfl (fun _ _ => ?_)))) | (apply ks_bs; (refine c_buildSlice rfl rfl rfl rfl rfl rfl rfl rfl rfl rfl (fun _ => ?_))))) | (apply sw_seq) | (apply sw_skip) | (apply sw_block) | (apply sw_region) | (refine sw_cd rfl ?_; ((apply gd_dec_t <;> intro hq <;> (try (exfalso; omega))))) | (apply at_thn) | (apply at_inb)))
      all_goals (skip)
      rename_i _ a2 c2
      refine at_meet (i + 1, a2, c2) ⟨by dsimp only; omega, by dsimp only; omega⟩ ?_ ?_
      · dsimp only
        rw [hs, List.length_append]
        exact (by repeat ((first | exact Le.nil _ | refine Le.cons (by (rfl)) ?_)))
      · dsimp only
        rw [hs, List.length_append, octs_app]
        exact (fun _ hw => hw.subs (by repeat ((first | refine Subs.cons (by repeat constructor) ?_ | exact Subs.sub (by repeat ((first | exact List.Sublist.refl _ | refine List.Sublist.cons _ ?_)))))))
    · have hv : ¬ (b.toNat : Int) = 10 := fun e => h10 (UInt8.toNat_inj.1 (by show b.toNat = 10; omega))
      by_cases h13 : b = 13
      · have hs : u8s ((d.data.toList.take (i + 1)).flatMap outB) = L ++ [13, 0] := by rw [hs0, h13]; rfl
        have hv3 : (b.toNat : Int) = 13 := by rw [h13]; rfl
        repeat' ((first | (apply g_sl; (first | (apply ks_nil; refine sl_nil ?_) | (apply ks_move; refine s_move rfl rfl ?_) | (apply ks_bin; refine s_bin rfl rfl rfl ?_; ((((first | (apply kb_add; (refine bb_add ⟨by omega, by omega⟩ ?_)) | refine bb_of rfl ?_))))) | (apply ks_asgn; refine s_asgn rfl rfl ?_) | (apply ks_index; (((refine s_index (c_indexNum rfl rfl rfl (by omega) (by omega)) rfl ?_)))) | (apply ks_bi; ((refine c_append rfl rfl rfl rfl (by (rfl)) (by (rfl)) (by omega) rfl rfl (fun _ _ => ?_)))) | (apply ks_bs; (refine c_buildSlice rfl rfl rfl rfl rfl rfl rfl rfl rfl rfl (fun _ => ?_))))) | (apply sw_seq) | (apply sw_skip) | (apply sw_block) | (apply sw_region) | (refine sw_cd rfl ?_; ((apply gd_dec_t <;> intro hq <;> (try (exfalso; omega))))) | (apply at_thn) | (apply at_inb)))
        all_goals (skip)
        rename_i _ a2 c2
        refine at_meet (i + 1, a2, c2) ⟨by dsimp only; omega, by dsimp only; omega⟩ ?_ ?_
        · dsimp only
          rw [hs, List.length_append]
          exact (by repeat ((first | exact Le.nil _ | refine Le.cons (by (rfl)) ?_)))
        · dsimp only
          rw [hs, List.length_append, octs_app]
          exact (fun _ hw => hw.subs (by repeat ((first | refine Subs.cons (by repeat constructor) ?_ | exact Subs.sub (by repeat ((first | exact List.Sublist.refl _ | refine List.Sublist.cons _ ?_)))))))
      · have hv3 : ¬ (b.toNat : Int) = 13 := fun e => h13 (UInt8.toNat_inj.1 (by show b.toNat = 13; omega))
        have hs : u8s ((d.data.toList.take (i + 1)).flatMap outB) = L ++ [(nums d).getD (i : Int).toNat 0] := by
          rw [hs0, hnb]
          unfold outB u8s
          rw [if_neg h10, if_neg h13]
          rfl
        repeat' ((first | (apply g_sl; (first | (apply ks_nil; refine sl_nil ?_) | (apply ks_move; refine s_move rfl rfl ?_) | (apply ks_bin; refine s_bin rfl rfl rfl ?_; ((((first | (apply kb_add; (refine bb_add ⟨by omega, by omega⟩ ?_)) | refine bb_of rfl ?_))))) | (apply ks_asgn; refine s_asgn rfl rfl ?_) | (apply ks_index; (((refine s_index (c_indexNum rfl rfl rfl (by omega) (by omega)) rfl ?_)))) | (apply ks_bi; ((refine c_append rfl rfl rfl rfl (by (rfl)) (by (rfl)) (by omega) rfl rfl (fun _ _ => ?_)))) | (apply ks_bs; (refine c_buildSlice rfl rfl rfl rfl rfl rfl rfl rfl rfl rfl (fun _ => ?_))))) | (apply sw_seq) | (apply sw_skip) | (apply sw_block) | (apply sw_region) | (refine sw_cd rfl ?_; ((apply gd_dec_t <;> intro hq <;> (try (exfalso; omega))))) | (apply at_thn) | (apply at_inb)))
        all_goals (skip)
        rename_i _ a2 c2
        refine at_meet (i + 1, a2, c2) ⟨by dsimp only; omega, by dsimp only; omega⟩ ?_ ?_
        · dsimp only
          rw [hs, List.length_append]
          exact (by repeat ((first | exact Le.nil _ | refine Le.cons (by (rfl)) ?_)))
        · dsimp only
          rw [hs, List.length_append, octs_app]
          exact (fun _ hw => hw.subs (by repeat ((first | refine Subs.cons (by repeat constructor) ?_ | exact Subs.sub (by repeat ((first | exact List.Sublist.refl _ | refine List.Sublist.cons _ ?_)))))))
  · obtain rfl : i = d.size := by omega
    rw [List.take_of_length_le (by omega)]
    repeat' ((first | (apply g_sl; (first | (apply ks_nil; refine sl_nil ?_) | (apply ks_move; refine s_move rfl rfl ?_) | (apply ks_bin; refine s_bin rfl rfl rfl ?_; (((refine bb_of rfl ?_)))) | (apply ks_asgn; refine s_asgn rfl rfl ?_) | (apply ks_conv; ((refine s_conv (c_convBs (xs := u8s (d.data.toList.flatMap outB)) rfl rfl rfl rfl) rfl ?_))))) | (apply sw_seq) | (apply sw_ret) | (apply sw_exit) | (apply sw_region) | (refine sw_cd rfl ?_; ((apply gd_dec_t <;> intro hq <;> (try (exfalso; omega))))) | (apply at_thn) | (apply at_thn_exit) | (apply at_inb_exit)))
    all_goals (refine e_sv (by (exact .inr rfl)) rfl (by repeat ((first | exact List.Sublist.refl _ | refine List.Sublist.cons _ ?_))) ?_; rfl)
theorem nvtIn_sv (G : Ctx) (H : List Ent) (cr0 : Bool) (d : ByteArray) (hd : d.size ≤ 1048577) : SV Tryz.prog G 13 [.bool cr0, .string d, .bool false] H (.tuple #[.bool (mIn cr0 d.data.toList).1, .string (strOfNums (u8s (mIn cr0 d.data.toList).2))]) := by
  have hdl : d.data.toList.length = d.size := rfl
  refine sv_enter3 Tryz.func13 rfl rfl rfl rfl rfl ?_
  repeat' ((first | (apply g_sl; (first | (apply ks_nil; refine sl_nil ?_) | (apply ks_move; refine s_move rfl rfl ?_) | (apply ks_asgn; refine s_asgn rfl rfl ?_) | (apply ks_bi; (refine s_call (c_len_str rfl rfl) rfl ?_)))) | (apply sw_seq) | (apply sw_skip) | (apply sw_block) | ((fail_if_success (refine g_reg (id := 5) ?_)); apply sw_region) | (refine sw_cd rfl ?_; ((apply gd_ft))) | (apply at_thn)))
  refine sw_loopg (α := Nat × Bool × List UInt8 × Option Addr × Nat) (fun g => [(0, .bool g.2.1), (1, .string d), (8, .slice g.2.2.2.1 (u8s g.2.2.1).length g.2.2.2.2), (17, .int .i64 d.size), (18, .int .i64 g.1)]) (fun g => .own 5 1 g.2.2.2.1 (u8s g.2.2.1).length g.2.2.2.2 (octs (u8s g.2.2.1)) :: H)
    (fun g => g.1 ≤ d.size ∧ mIn cr0 d.data.toList = ((mIn g.2.1 (d.data.toList.drop g.1)).1, g.2.2.1 ++ (mIn g.2.1 (d.data.toList.drop g.1)).2) ∧ g.2.2.1.length ≤ 2 * g.1) (fun g => d.size - g.1) (0, cr0, [], none, 0) ⟨Nat.zero_le _, rfl, Nat.le_refl _⟩ (by repeat ((first | exact Le.nil _ | refine Le.cons (by (rfl)) ?_))) (fun _ hw => (hw.nilrow _ _).subs (by repeat ((first | refine Subs.cons (by repeat constructor) ?_ | exact Subs.sub (by repeat ((exact List.Sublist.refl _))))))) ?_
  rintro ⟨i, cr, Z, ai, ci⟩ ⟨hi, hinv, hZ⟩
  dsimp only at hi hinv hZ ⊢
  have hul := u8s_len Z
  by_cases hlt : (i : Int) < (d.size : Int)
  · obtain ⟨b, hb⟩ : ∃ b, d.data.toList[i]? = some b := ⟨_, List.getElem?_eq_getElem (by omega)⟩
    have hdr : d.data.toList.drop i = b :: d.data.toList.drop (i + 1) := by
      obtain ⟨h1, rfl⟩ := List.getElem?_eq_some_iff.1 hb
      exact List.drop_eq_getElem_cons h1
    have hnb : (nums d).getD (i : Int).toNat 0 = (b.toNat : Int) := by
      unfold nums
      rw [Int.toNat_natCast, List.getD_eq_getElem?_getD, List.getElem?_map, hb]
      rfl
    have hu : ∀ v : UInt8, ¬ b = v → ¬ (b.toNat : Int) = (v.toNat : Int) := fun v h e => h (UInt8.toNat_inj.1 (by omega))
    by_cases h13 : b = 13
    · have hv : (b.toNat : Int) = 13 := by rw [h13]; rfl
      cases cr
      · have hst : mIn cr0 d.data.toList = ((mIn true (d.data.toList.drop (i + 1))).1, Z ++ (mIn true (d.data.toList.drop (i + 1))).2) := by
          rw [hinv, hdr]
          rw [mIn, if_pos h13]
        clear hinv hdr
        repeat' ((first | (apply g_sl; (first | (apply ks_nil; refine sl_nil ?_) | (apply ks_move; refine s_move rfl rfl ?_) | (apply ks_bin; refine s_bin rfl rfl rfl ?_; ((((first | (apply kb_add; (refine bb_add ⟨by omega, by omega⟩ ?_)) | refine bb_of rfl ?_))))) | (apply ks_asgn; refine s_asgn rfl rfl ?_) | (apply ks_index; (((refine s_index (c_indexNum rfl rfl rfl (by omega) (by omega)) rfl ?_)))))) | (apply sw_seq) | (apply sw_skip) | (apply sw_block) | (apply sw_region) | (refine sw_cd rfl ?_; (first | (apply gd_ft) | (apply gd_dec_t <;> intro hq <;> (try (exfalso; omega))))) | (apply at_thn) | (apply at_inb)))
        all_goals (skip)
        exact at_meet (i + 1, true, Z, ai, ci) ⟨⟨by dsimp only; omega, hst, by dsimp only; omega⟩, by dsimp only; omega⟩ (by repeat ((first | exact Le.nil _ | refine Le.cons (by (rfl)) ?_))) (fun _ hw => hw.subs (by repeat ((first | refine Subs.cons (by repeat constructor) ?_ | exact Subs.sub (by repeat ((exact List.Sublist.refl _)))))))
      · have h10 : ¬ b = 10 := by rw [h13]; decide
        have h0 : ¬ b = 0 := by rw [h13]; decide
        have hz : u8s (Z ++ [13]) = u8s Z ++ [13] := by rw [u8s_app]; rfl
        have hst : mIn cr0 d.data.toList = ((mIn true (d.data.toList.drop (i + 1))).1, (Z ++ [13]) ++ (mIn true (d.data.toList.drop (i + 1))).2) := by
          rw [hinv, hdr]
          rw [mIn, if_neg h10, if_neg h0, if_pos h13]
          simp
        clear hinv hdr
        repeat' ((first | (apply g_sl; (first | (apply ks_nil; refine sl_nil ?_) | (apply ks_move; refine s_move rfl rfl ?_) | (apply ks_bin; refine s_bin rfl rfl rfl ?_; ((((first | (apply kb_add; (refine bb_add ⟨by omega, by omega⟩ ?_)) | refine bb_of rfl ?_))))) | (apply ks_asgn; refine s_asgn rfl rfl ?_) | (apply ks_index; (((refine s_index (c_indexNum rfl rfl rfl (by omega) (by omega)) rfl ?_)))) | (apply ks_bi; ((refine c_append rfl rfl rfl rfl (by (rfl)) (by (rfl)) (by omega) rfl rfl (fun _ _ => ?_)))) | (apply ks_bs; (refine c_buildSlice rfl rfl rfl rfl rfl rfl rfl rfl rfl rfl (fun _ => ?_))))) | (apply sw_seq) | (apply sw_skip) | (apply sw_block) | (apply sw_region) | (refine sw_cd rfl ?_; (first | (apply gd_t) | (apply gd_dec_t <;> intro hq <;> (try (exfalso; omega))))) | (apply at_thn) | (apply at_inb)))
        all_goals (skip)
        rename_i a2 c2
        refine at_meet (i + 1, true, Z ++ [13], a2, c2) ⟨⟨by dsimp only; omega, hst, by dsimp only; rw [List.length_append]; (((simp only [List.length_cons, List.length_nil]; omega)))⟩, by dsimp only; omega⟩ ?_ ?_
        · dsimp only
          rw [hz, List.length_append]
          exact (by repeat ((first | exact Le.nil _ | refine Le.cons (by (rfl)) ?_)))
        · dsimp only
          rw [hz, List.length_append, octs_app]
          exact (fun _ hw => hw.subs (by repeat ((first | refine Subs.cons (by repeat constructor) ?_ | exact Subs.sub (by repeat ((first | exact List.Sublist.refl _ | refine List.Sublist.cons _ ?_)))))))
    · have hv : ¬ (b.toNat : Int) = 13 := hu 13 h13
      cases cr
      · -- plain
        have hz : u8s (Z ++ [b]) = u8s Z ++ [(nums d).getD (i : Int).toNat 0] := by rw [u8s_app]; rw [hnb]; rfl
        have hst : mIn cr0 d.data.toList = ((mIn false (d.data.toList.drop (i + 1))).1, (Z ++ [b]) ++ (mIn false (d.data.toList.drop (i + 1))).2) := by
          rw [hinv, hdr]
          rw [mIn, if_neg h13]
          simp
        clear hinv hdr
        repeat' ((first | (apply g_sl; (first | (apply ks_nil; refine sl_nil ?_) | (apply ks_move; refine s_move rfl rfl ?_) | (apply ks_bin; refine s_bin rfl rfl rfl ?_; ((((first | (apply kb_add; (refine bb_add ⟨by omega, by omega⟩ ?_)) | refine bb_of rfl ?_))))) | (apply ks_asgn; refine s_asgn rfl rfl ?_) | (apply ks_index; (((refine s_index (c_indexNum rfl rfl rfl (by omega) (by omega)) rfl ?_)))) | (apply ks_bi; ((refine c_append rfl rfl rfl rfl (by (rfl)) (by (rfl)) (by omega) rfl rfl (fun _ _ => ?_)))) | (apply ks_bs; (refine c_buildSlice rfl rfl rfl rfl rfl rfl rfl rfl rfl rfl (fun _ => ?_))))) | (apply sw_seq) | (apply sw_skip) | (apply sw_block) | (apply sw_region) | (refine sw_cd rfl ?_; (first | (apply gd_ft) | (apply gd_dec_t <;> intro hq <;> (try (exfalso; omega))))) | (apply at_thn) | (apply at_inb)))
        all_goals (skip)
        rename_i a2 c2
        refine at_meet (i + 1, false, Z ++ [b], a2, c2) ⟨⟨by dsimp only; omega, hst, by dsimp only; rw [List.length_append]; (((simp only [List.length_cons, List.length_nil]; omega)))⟩, by dsimp only; omega⟩ ?_ ?_
        · dsimp only
          rw [hz, List.length_append]
          exact (by repeat ((first | exact Le.nil _ | refine Le.cons (by (rfl)) ?_)))
        · dsimp only
          rw [hz, List.length_append, octs_app]
          exact (fun _ hw => hw.subs (by repeat ((first | refine Subs.cons (by repeat constructor) ?_ | exact Subs.sub (by repeat ((first | exact List.Sublist.refl _ | refine List.Sublist.cons _ ?_)))))))
      · by_cases h10 : b = 10
        · have hv1 : (b.toNat : Int) = 10 := by rw [h10]; rfl
          have hz : u8s (Z ++ [10]) = u8s Z ++ [10] := by rw [u8s_app]; rfl
          have hst : mIn cr0 d.data.toList = ((mIn false (d.data.toList.drop (i + 1))).1, (Z ++ [10]) ++ (mIn false (d.data.toList.drop (i + 1))).2) := by
            rw [hinv, hdr]
            rw [mIn, if_pos h10]
            simp
          clear hinv hdr
          repeat' ((first | (apply g_sl; (first | (apply ks_nil; refine sl_nil ?_) | (apply ks_move; refine s_move rfl rfl ?_) | (apply ks_bin; refine s_bin rfl rfl rfl ?_; ((((first | (apply kb_add; (refine bb_add ⟨by omega, by omega⟩ ?_)) | refine bb_of rfl ?_))))) | (apply ks_asgn; refine s_asgn rfl rfl ?_) | (apply ks_index; (((refine s_index (c_indexNum rfl rfl rfl (by omega) (by omega)) rfl ?_)))) | (apply ks_bi; ((refine c_append rfl rfl rfl rfl (by (rfl)) (by (rfl)) (by omega) rfl rfl (fun _ _ => ?_)))) | (apply ks_bs; (refine c_buildSlice rfl rfl rfl rfl rfl rfl rfl rfl rfl rfl (fun _ => ?_))))) | (apply sw_seq) | (apply sw_skip) | (apply sw_exit) | (apply sw_block) | (apply sw_region) | (refine sw_cd rfl ?_; (first | (apply gd_t) | (apply gd_dec_t <;> intro hq <;> (try (exfalso; omega))))) | (apply at_thn) | (apply at_thn_exit) | (apply at_inb_exit) | refine at_inb_pass rfl ?_))
          all_goals (skip)
          rename_i a2 c2
          refine at_meet (i + 1, false, Z ++ [10], a2, c2) ⟨⟨by dsimp only; omega, hst, by dsimp only; rw [List.length_append]; (((simp only [List.length_cons, List.length_nil]; omega)))⟩, by dsimp only; omega⟩ ?_ ?_
          · dsimp only
            rw [hz, List.length_append]
            exact (by repeat ((first | exact Le.nil _ | refine Le.cons (by (rfl)) ?_)))
          · dsimp only
            rw [hz, List.length_append, octs_app]
            exact (fun _ hw => hw.subs (by repeat ((first | refine Subs.cons (by repeat constructor) ?_ | exact Subs.sub (by repeat ((first | exact List.Sublist.refl _ | refine List.Sublist.cons _ ?_)))))))
        · have hv1 : ¬ (b.toNat : Int) = 10 := hu 10 h10
          by_cases h0 : b = 0
          · have hv2 : (b.toNat : Int) = 0 := by rw [h0]; rfl
            have hz : u8s (Z ++ [13]) = u8s Z ++ [13] := by rw [u8s_app]; rfl
            have hst : mIn cr0 d.data.toList = ((mIn false (d.data.toList.drop (i + 1))).1, (Z ++ [13]) ++ (mIn false (d.data.toList.drop (i + 1))).2) := by
              rw [hinv, hdr]
              rw [mIn, if_neg h10, if_pos h0]
              simp
            clear hinv hdr
            repeat' ((first | (apply g_sl; (first | (apply ks_nil; refine sl_nil ?_) | (apply ks_move; refine s_move rfl rfl ?_) | (apply ks_bin; refine s_bin rfl rfl rfl ?_; ((((first | (apply kb_add; (refine bb_add ⟨by omega, by omega⟩ ?_)) | refine bb_of rfl ?_))))) | (apply ks_asgn; refine s_asgn rfl rfl ?_) | (apply ks_index; (((refine s_index (c_indexNum rfl rfl rfl (by omega) (by omega)) rfl ?_)))) | (apply ks_bi; ((refine c_append rfl rfl rfl rfl (by (rfl)) (by (rfl)) (by omega) rfl rfl (fun _ _ => ?_)))) | (apply ks_bs; (refine c_buildSlice rfl rfl rfl rfl rfl rfl rfl rfl rfl rfl (fun _ => ?_))))) | (apply sw_seq) | (apply sw_skip) | (apply sw_exit) | (apply sw_block) | (apply sw_region) | (refine sw_cd rfl ?_; (first | (apply gd_t) | (apply gd_dec_t <;> intro hq <;> (try (exfalso; omega))))) | (apply at_thn) | (apply at_thn_exit) | (apply at_inb_exit) | refine at_inb_pass rfl ?_))
            all_goals (skip)
            rename_i a2 c2
            refine at_meet (i + 1, false, Z ++ [13], a2, c2) ⟨⟨by dsimp only; omega, hst, by dsimp only; rw [List.length_append]; (((simp only [List.length_cons, List.length_nil]; omega)))⟩, by dsimp only; omega⟩ ?_ ?_
            · dsimp only
              rw [hz, List.length_append]
              exact (by repeat ((first | exact Le.nil _ | refine Le.cons (by (rfl)) ?_)))
            · dsimp only
              rw [hz, List.length_append, octs_app]
              exact (fun _ hw => hw.subs (by repeat ((first | refine Subs.cons (by repeat constructor) ?_ | exact Subs.sub (by repeat ((first | exact List.Sublist.refl _ | refine List.Sublist.cons _ ?_)))))))
          · have hv2 : ¬ (b.toNat : Int) = 0 := hu 0 h0
            have hz : u8s (Z ++ [13, b]) = u8s Z ++ [13, (nums d).getD (i : Int).toNat 0] := by rw [u8s_app]; rw [hnb]; rfl
            have hst : mIn cr0 d.data.toList = ((mIn false (d.data.toList.drop (i + 1))).1, (Z ++ [13, b]) ++ (mIn false (d.data.toList.drop (i + 1))).2) := by
              rw [hinv, hdr]
              rw [mIn, if_neg h10, if_neg h0, if_neg h13]
              simp
            clear hinv hdr
            repeat' ((first | (apply g_sl; (first | (apply ks_nil; refine sl_nil ?_) | (apply ks_move; refine s_move rfl rfl ?_) | (apply ks_bin; refine s_bin rfl rfl rfl ?_; ((((first | (apply kb_add; (refine bb_add ⟨by omega, by omega⟩ ?_)) | refine bb_of rfl ?_))))) | (apply ks_asgn; refine s_asgn rfl rfl ?_) | (apply ks_index; (((refine s_index (c_indexNum rfl rfl rfl (by omega) (by omega)) rfl ?_)))) | (apply ks_bi; ((refine c_append rfl rfl rfl rfl (by (rfl)) (by (rfl)) (by omega) rfl rfl (fun _ _ => ?_)))) | (apply ks_bs; (refine c_buildSlice rfl rfl rfl rfl rfl rfl rfl rfl rfl rfl (fun _ => ?_))))) | (apply sw_seq) | (apply sw_skip) | (apply sw_block) | (apply sw_region) | (refine sw_cd rfl ?_; (first | (apply gd_t) | (apply gd_dec_t <;> intro hq <;> (try (exfalso; omega))))) | (apply at_thn) | (apply at_inb)))
            all_goals (skip)
            rename_i a2 c2
            refine at_meet (i + 1, false, Z ++ [13, b], a2, c2) ⟨⟨by dsimp only; omega, hst, by dsimp only; rw [List.length_append]; (((simp only [List.length_cons, List.length_nil]; omega)))⟩, by dsimp only; omega⟩ ?_ ?_
            · dsimp only
              rw [hz, List.length_append]
              exact (by repeat ((first | exact Le.nil _ | refine Le.cons (by (rfl)) ?_)))
            · dsimp only
              rw [hz, List.length_append, octs_app, show octs (u8s Z) ++ octs [13, (nums d).getD (i : Int).toNat 0] = (octs (u8s Z) ++ [.int .u8 13]) ++ [.int .u8 ((nums d).getD (i : Int).toNat 0)] from by simp [octs]]
              exact (fun _ hw => hw.subs (by repeat ((first | refine Subs.cons (by repeat constructor) ?_ | exact Subs.sub (by repeat ((first | exact List.Sublist.refl _ | refine List.Sublist.cons _ ?_)))))))
  · obtain rfl : i = d.size := by omega
    rw [List.drop_of_length_le (by omega)] at hinv
    have hf : mIn cr0 d.data.toList = (cr, Z) := by
      rw [hinv]
      cases cr <;> simp [mIn]
    rw [hf]
    clear hinv hf
    repeat' ((first | (apply g_sl; (first | (apply ks_nil; refine sl_nil ?_) | (apply ks_bin; refine s_bin rfl rfl rfl ?_; (((refine bb_of rfl ?_)))))) | (apply g_sq; (first | (apply kq_nil; refine sq_nil ?_) | (apply kq_move; refine q_move rfl rfl ?_) | (apply kq_asgn; refine q_asgn rfl rfl ?_) | (apply kq_conv; (((refine q_conv (c_convBs (xs := u8s Z) rfl rfl rfl rfl) rfl ?_)))))) | (apply sw_seq) | (apply sw_ret) | (apply sw_exit) | (apply sw_region) | (refine sw_cd rfl ?_; ((apply gd_dec_t <;> intro hq <;> (try (exfalso; omega))))) | (apply at_thn) | (apply at_thn_exit) | (apply at_inb_exit) | refine c_drawn (by kernel_rfl) ?_))
    all_goals (refine e_sv (by (exact .inr rfl)) rfl (by repeat ((first | exact List.Sublist.refl _ | refine List.Sublist.cons _ ?_))) ?_; rfl)
end Go.Proofs.YtmbfechiallppaaGreatDoor
end
section
namespace Go.Proofs.YtmbfechiallppaaGreatDoor
open Go Go.RowKit Go.Fw Go.Sx
set_option maxRecDepth 100000
set_option maxHeartbeats 1000000
attribute [local irreducible] SW SL SQ AtQ SV SC BB LD PK Yields SO SOT SOA SY
theorem replAll_sv (G : Ctx) (H : List Ent) (m : Int) (hm : ∀ w, Holds G H w → w.cell? ⟨2, 0, none⟩ = some (.int .i64 m)) (d : ByteArray) (hd : d.size ≤ 4000000) (c : UInt8) (new : List UInt8) (hn : new.length ≤ 2) (hne : [c] ≠ new) : SV Tryz.prog G 44 [.string d, .string ⟨#[c]⟩, .string ⟨new.toArray⟩] H (.string ⟨(d.data.toList.flatMap (fun b => if b = c then new else [b])).toArray⟩) := by
  refine sv_of_calls (callee_of Tryz.func44 rfl rfl) fun w hw => ?_
  have hc : Lib.countB d ⟨#[c]⟩ ≤ d.size := Lib.countB_le ⟨#[c]⟩ (show 1 ≤ 1 from Nat.le_refl _) d.size d (Nat.le_refl _)
  have hns : (⟨new.toArray⟩ : ByteArray).size = new.length := rfl
  have hmul : Lib.countB d ⟨#[c]⟩ * (⟨new.toArray⟩ : ByteArray).size ≤ d.size * 2 := by rw [hns]; exact Nat.mul_le_mul hc hn
  have h := Tryz.strings_ReplaceAll d ⟨#[c]⟩ ⟨new.toArray⟩ m w (by omega) (hm w hw) (show 1 ≤ 1 from Nat.le_refl _) (by omega)
  rw [show (⟨#[c]⟩ : ByteArray).data.toList = [c] from rfl, show (⟨new.toArray⟩ : ByteArray).data.toList = new from List.toList_toArray, replaceAll_one c new _ hne] at h
  exact h
end Go.Proofs.YtmbfechiallppaaGreatDoor
end
section
namespace Go.Proofs.YtmbfechiallppaaGreatDoor
open Go Go.RowKit Go.Fw Go.Sx
set_option maxRecDepth 100000
set_option maxHeartbeats 1000000
abbrev tokV (k c o : Int) (d : ByteArray) : Value := .agg #[.int .i64 k, .int .i64 c, .int .i64 o, .string d]
/-- Are two tokens the same? -/
theorem tokEqD (dd : Nat) (k c o k' c' o' : Int) (d d' : ByteArray) (b : Bool) (h : b = decide (k = k' ∧ c = c' ∧ o = o' ∧ d = d')) : EqVal Tryz.prog (dd + 1 + 1) 200 (.agg [.int .i64 k, .int .i64 c, .int .i64 o, .string d].toArray) (.agg [.int .i64 k', .int .i64 c', .int .i64 o', .string d'].toArray) b := by
  have hfs : Tryz.prog.fieldsOf 200 = (match Tryz.prog.underlying 200 with | some (.struct fs) => fs | _ => #[]) := rfl
  refine eqval_struct (d := dd + 1) (by rw [hfs, Tryz.underlying200]) (by kernel_rfl) ?_
  rw [hfs, Tryz.underlying200]
  have ne : ∀ a b : Int, ¬ a = b → EqVal Tryz.prog (dd + 1) 3 (.int .i64 a) (.int .i64 b) false := fun a b hab => by
    have := eqval_int (P := Tryz.prog) (t := 3) (d := dd) (k := .i64) a b
    rwa [show (a == b) = false from by simpa using hab] at this
  by_cases hx : k = k'
  · subst hx
    refine .eq (by decide) (u := .int .i64 k) (v := .int .i64 k) (part_one rfl) (part_one rfl) (eqself_int _) ?_
    by_cases hy : c = c'
    · subst hy
      refine .eq (by decide) (u := .int .i64 c) (v := .int .i64 c) (part_one rfl) (part_one rfl) (eqself_int _) ?_
      by_cases hz : o = o'
      · subst hz
        refine .eq (by decide) (u := .int .i64 o) (v := .int .i64 o) (part_one rfl) (part_one rfl) (eqself_int _) ?_
        by_cases hd : d = d'
        · subst hd
          rw [h, decide_eq_true ⟨rfl, rfl, rfl, rfl⟩]
          exact .eq (by decide) (u := .string d) (v := .string d) (part_one rfl) (part_one rfl) (eqself_str _) .nil
        · rw [h, decide_eq_false (by simp [hd])]
          have hs := eqval_str (P := Tryz.prog) (t := 9) (d := dd) d d'
          rw [str_beq, decide_eq_false hd] at hs
          exact .ne (by decide) (u := .string d) (v := .string d') (part_one rfl) (part_one rfl) hs
      · rw [h, decide_eq_false (by simp [hz])]
        exact .ne (by decide) (u := .int .i64 o) (v := .int .i64 o') (part_one rfl) (part_one rfl) (ne _ _ hz)
    · rw [h, decide_eq_false (by simp [hy])]
      exact .ne (by decide) (u := .int .i64 c) (v := .int .i64 c') (part_one rfl) (part_one rfl) (ne _ _ hy)
  · rw [h, decide_eq_false (by simp [hx])]
    exact .ne (by decide) (u := .int .i64 k) (v := .int .i64 k') (part_one rfl) (part_one rfl) (ne _ _ hx)
theorem tokEq (k c o k' c' o' : Int) (d d' : ByteArray) : EqVal Tryz.prog 10000 200 (.agg [.int .i64 k, .int .i64 c, .int .i64 o, .string d].toArray) (.agg [.int .i64 k', .int .i64 c', .int .i64 o', .string d'].toArray) (decide (k = k' ∧ c = c' ∧ o = o' ∧ d = d')) := tokEqD 9998 k c o k' c' o' d d' _ rfl
attribute [local irreducible] SW SL SQ AtQ SV SC BB LD PK Yields SO SOT SOA SY
theorem repl255_sv (G : Ctx) (H : List Ent) (m : Int) (hm : ∀ w, Holds G H w → w.cell? ⟨2, 0, none⟩ = some (.int .i64 m)) (d : ByteArray) (hd : d.size ≤ 4000000) : SV Tryz.prog G 44 [.string d, .string ⟨#[255]⟩, .string ⟨#[255, 255]⟩] H (.string (escS d)) :=
  replAll_sv G H m hm d hd 255 [255, 255] (Nat.le_refl _) (by decide)
theorem escape_sv (G : Ctx) (H : List Ent) (m : Int) (hm : ∀ w, Holds G H w → w.cell? ⟨2, 0, none⟩ = some (.int .i64 m)) (d : ByteArray) (hd : d.size ≤ 4000000) : SV Tryz.prog G 19 [.string d] H (.string (escS d)) := by
  have cR := repl255_sv G H m hm d hd
  refine sv_enter1 Tryz.func19 rfl rfl rfl rfl rfl ?_
  repeat' ((first | (apply g_sl; (first | (apply ks_nil; refine sl_nil ?_) | (apply ks_move; refine s_move rfl rfl ?_) | (apply ks_asgn; refine s_asgn rfl rfl ?_) | (apply ks_fn; (refine c_callv rfl rfl rfl (cR) rfl rfl ?_)))) | (apply sw_seq) | (apply sw_ret) | (apply sw_region) | (apply at_thn)))
  refine e_sv (by (exact .inr rfl)) rfl (by repeat ((exact List.Sublist.refl _))) ?_
  rfl
theorem iacWrite_sv (G : Ctx) (H : List Ent) (m : Int) (hm : ∀ H w, Holds G H w → w.cell? ⟨2, 0, none⟩ = some (.int .i64 m)) (k c o : Int) (d : ByteArray) (hd : d.size ≤ 2000000) : SV Tryz.prog G 155 [tokV k c o d] H (.tuple #[.string (tokS k c o d).1, .int .i64 (tokS k c o d).2]) := by
  have cE := fun H => escape_sv G H m (hm H) d (by omega)
  have hz := escS_size d
  have z2 : (⟨#[255, 240]⟩ : ByteArray).size = 2 := rfl
  have z4 : (⟨#[]⟩ : ByteArray).size = 0 := rfl
  have z3 : (strOfNums [255, 250, o]).size = 3 := rfl
  have hE : ByteArray.empty = (⟨#[]⟩ : ByteArray) := rfl
  unfold tokS
  by_cases hd0 : d = ⟨#[]⟩
  · subst hd0
    simp only [and_true, and_false, if_false]
    generalize escS _ = E at *
    clear hm
    refine sv_enter1 Tryz.func155 rfl rfl rfl rfl rfl ?_
    repeat' ((first | (apply g_sl; (first | (apply ks_nil; refine sl_nil ?_) | (apply ks_move; refine s_move rfl rfl ?_) | (apply ks_bin; refine s_bin rfl rfl rfl ?_; ((first | (refine bb_seq ?_) | (refine bb_eqv (tokEq _ _ _ _ _ _ _ _) (by kernel_rfl) ?_) | ((refine bb_of rfl ?_))))) | (apply ks_load; ((refine s_load rfl rfl ?_; (first | refine ld_cell rfl ?_ | refine ld_whole rfl ?_)))) | (apply ks_asgn; refine s_asgn rfl rfl ?_) | (apply ks_pick; refine s_pick rfl rfl ?_; (first | (apply kp_t; refine pk_t rfl ?_) | (apply kp_f; refine pk_f rfl ?_))) | (apply ks_field; (refine s_field (c_field0 rfl rfl) rfl ?_)) | (apply ks_build; (refine s_build (c_build rfl rfl rfl) rfl ?_)) | (apply ks_conv; ((first | (refine s_conv (c_convBs (xs := [255, 250, o]) rfl rfl rfl rfl) rfl ?_) | (refine s_conv (c_convBs (xs := [255, c]) rfl rfl rfl rfl) rfl ?_) | (refine s_conv (c_convBs (xs := [255, c, o]) rfl rfl rfl rfl) rfl ?_) | refine s_conv (c_conv (k := .u8) rfl rfl ⟨by omega, by omega⟩) rfl ?_))) | (apply ks_fn; (refine c_callv rfl rfl rfl (cE _) rfl rfl ?_)) | (apply ks_bi; ((refine s_call (c_len_str rfl rfl) rfl ?_))) | (apply ks_store; ((first | refine c_store rfl rfl rfl rfl rfl rfl rfl ?_ | refine c_storew rfl rfl rfl rfl rfl rfl rfl rfl ?_))) | (apply ks_box; refine c_box rfl rfl rfl rfl rfl rfl (fun _ => ?_)) | (apply ks_alloc; refine c_alloc rfl rfl rfl rfl (fun _ => ?_)) | (apply ks_bs; (refine c_buildSlice rfl rfl rfl rfl rfl rfl rfl rfl rfl rfl (fun _ => ?_))) | (apply ks_guard; ((refine sl_gd rfl rfl rfl rfl ?_; (first | (apply gd_t) | (apply gd_ft) | (apply gd_dec_t <;> intro hq <;> (try (exfalso; omega))))))))) | (apply g_atso; refine so_back (k := 0) (fun _ hw => hw.subs (by repeat ((first | refine Subs.cons (by repeat constructor) ?_ | exact Subs.sub (by repeat ((first | exact List.Sublist.refl _ | refine List.Sublist.cons _ ?_))))))) ?_) | (apply g_sot; (first | (refine sot_skip rfl ?_) | (refine sot_take rfl rfl rfl rfl (by kernel_rfl) (by decide +kernel) (by decide +kernel) ?_; ((first | (apply ky_bin; refine sy_bin rfl rfl ?_; (((refine bb_cat (by (try simp only [ByteArray.size_append]); omega) ?_)))) | (apply ky_load; ((refine sy_load rfl ?_; (refine ld_cell rfl ?_)))) | (apply ky_asgn; refine sy_val (y_assign rfl rfl) ?_) | (apply ky_field; (refine sy_val (c_field0 rfl rfl) ?_)) | (apply ky_conv; ((refine sy_val (c_conv (k := .u8) rfl rfl ⟨by omega, by omega⟩) ?_)))))) | (refine sot_next rfl ?_) | (refine so_done (by decide +kernel) ?_) | (refine sot_all (by kernel_rfl) ?_))) | (apply g_soa; (first | (refine soa_end rfl) | (refine soa_no (by decide +kernel) ?_) | (refine soa_yes rfl ?_ ?_))) | (apply sw_seq) | (apply sw_skip) | (apply sw_ret) | (apply sw_block) | (apply sw_region) | (refine sw_cd rfl ?_; (first | (apply gd_t) | (apply gd_ft) | (apply gd_dec_t <;> intro hq <;> (try (exfalso; omega))))) | (apply at_thn) | (apply at_thn_ret) | (apply at_inb) | (apply at_inb_ret) | ((refine g_reg (id := 14) ?_; refine c_drawno _ (fun _ hw => hw) ?_))))
    all_goals (try simp only [hE, and_true, and_false, true_and, not_true_eq_false, not_false_eq_true] at hq)
    all_goals ((refine e_sv (by (exact .inr rfl)) rfl (by repeat ((first | exact List.Sublist.refl _ | refine List.Sublist.cons _ ?_))) ?_; (repeat ((first | rw [if_pos (by omega)] | rw [if_neg (by omega)]))); rfl))
  · skip
    simp only [hd0,and_true, and_false, if_false]
    generalize escS _ = E at *
    clear hm
    refine sv_enter1 Tryz.func155 rfl rfl rfl rfl rfl ?_
    repeat' ((first | (apply g_sl; (first | (apply ks_nil; refine sl_nil ?_) | (apply ks_move; refine s_move rfl rfl ?_) | (apply ks_bin; refine s_bin rfl rfl rfl ?_; ((first | (refine bb_seq ?_) | (refine bb_eqv (tokEq _ _ _ _ _ _ _ _) (by kernel_rfl) ?_) | ((refine bb_of rfl ?_))))) | (apply ks_load; ((refine s_load rfl rfl ?_; (first | refine ld_cell rfl ?_ | refine ld_whole rfl ?_)))) | (apply ks_asgn; refine s_asgn rfl rfl ?_) | (apply ks_pick; refine s_pick rfl rfl ?_; (first | (apply kp_t; refine pk_t rfl ?_) | (apply kp_f; refine pk_f rfl ?_))) | (apply ks_field; (refine s_field (c_field0 rfl rfl) rfl ?_)) | (apply ks_build; (refine s_build (c_build rfl rfl rfl) rfl ?_)) | (apply ks_conv; ((first | (refine s_conv (c_convBs (xs := [255, 250, o]) rfl rfl rfl rfl) rfl ?_) | (refine s_conv (c_convBs (xs := [255, c]) rfl rfl rfl rfl) rfl ?_) | (refine s_conv (c_convBs (xs := [255, c, o]) rfl rfl rfl rfl) rfl ?_) | refine s_conv (c_conv (k := .u8) rfl rfl ⟨by omega, by omega⟩) rfl ?_))) | (apply ks_fn; (refine c_callv rfl rfl rfl (cE _) rfl rfl ?_)) | (apply ks_bi; ((refine s_call (c_len_str rfl rfl) rfl ?_))) | (apply ks_store; ((first | refine c_store rfl rfl rfl rfl rfl rfl rfl ?_ | refine c_storew rfl rfl rfl rfl rfl rfl rfl rfl ?_))) | (apply ks_box; refine c_box rfl rfl rfl rfl rfl rfl (fun _ => ?_)) | (apply ks_alloc; refine c_alloc rfl rfl rfl rfl (fun _ => ?_)) | (apply ks_bs; (refine c_buildSlice rfl rfl rfl rfl rfl rfl rfl rfl rfl rfl (fun _ => ?_))) | (apply ks_guard; ((refine sl_gd rfl rfl rfl rfl ?_; (first | (apply gd_t) | (apply gd_ft) | (apply gd_dec_t <;> intro hq <;> (try (exfalso; omega))))))))) | (apply g_atso; refine so_back (k := 0) (fun _ hw => hw.subs (by repeat ((first | refine Subs.cons (by repeat constructor) ?_ | exact Subs.sub (by repeat ((first | exact List.Sublist.refl _ | refine List.Sublist.cons _ ?_))))))) ?_) | (apply g_sot; (first | (refine sot_skip rfl ?_) | (refine sot_take rfl rfl rfl rfl (by kernel_rfl) (by decide +kernel) (by decide +kernel) ?_; ((first | (apply ky_bin; refine sy_bin rfl rfl ?_; (((refine bb_cat (by (try simp only [ByteArray.size_append]); omega) ?_)))) | (apply ky_load; ((refine sy_load rfl ?_; (refine ld_cell rfl ?_)))) | (apply ky_asgn; refine sy_val (y_assign rfl rfl) ?_) | (apply ky_field; (refine sy_val (c_field0 rfl rfl) ?_)) | (apply ky_conv; ((refine sy_val (c_conv (k := .u8) rfl rfl ⟨by omega, by omega⟩) ?_)))))) | (refine sot_next rfl ?_) | (refine so_done (by decide +kernel) ?_) | (refine sot_all (by kernel_rfl) ?_))) | (apply g_soa; (first | (refine soa_end rfl) | (refine soa_no (by decide +kernel) ?_) | (refine soa_yes rfl ?_ ?_))) | (apply sw_seq) | (apply sw_skip) | (apply sw_ret) | (apply sw_block) | (apply sw_region) | (refine sw_cd rfl ?_; (first | (apply gd_ft) | (apply gd_dec_t <;> intro hq <;> (try (exfalso; omega))))) | (apply at_thn) | (apply at_thn_ret) | (apply at_inb) | (apply at_inb_ret) | ((refine g_reg (id := 14) ?_; refine c_drawno _ (fun _ hw => hw) ?_))))
    all_goals (try simp only [hE, hd0, and_true, and_false, true_and, not_true_eq_false, not_false_eq_true] at hq)
    all_goals ((refine e_sv (by (exact .inr rfl)) rfl (by repeat ((first | exact List.Sublist.refl _ | refine List.Sublist.cons _ ?_))) ?_; (repeat ((first | rw [if_pos (by omega)] | rw [if_neg (by omega)]))); rfl))
end Go.Proofs.YtmbfechiallppaaGreatDoor
end
section
namespace Go.Proofs.YtmbfechiallppaaGreatDoor
open Go Go.RowKit Go.Fw Go.Sx
set_option maxRecDepth 100000
set_option maxHeartbeats 1000000
/-- The receiver's cells. -/
abbrev rcC (r : Rc) (sb : ByteArray) (ab : Option Addr) (cb : Nat) (ad : Option Addr) (cd : Nat) (al : Option Addr) (cl : Nat) : List Value :=
  [.int .i64 r.mode, .int .i64 r.cmd, .int .i64 r.opt, .string sb, .bool r.over, .slice ab r.buf.length cb, .slice ad r.data.length cd, .slice al r.out.length cl]
abbrev rcH (b : Nat) (r : Rc) (sb : ByteArray) (X : Ent) (ab : Option Addr) (cb : Nat) (ad : Option Addr) (cd : Nat) (al : Option Addr) (cl : Nat) (H : List Ent) : List Ent :=
  .blk b 245 (rcC r sb ab cb ad cd al cl) :: X :: .own 5 1 ad r.data.length cd (octs r.data) :: .own 200 4 al r.out.length cl (toks r.out) :: H
attribute [local irreducible] SW SL SQ AtQ SV SC BB LD PK Yields SO SOT SOA SY SP SPT SPA
theorem rcFlush_sc (G : Ctx) (H : List Ent) (b : Nat) (r : Rc) (sb : ByteArray) (X : Ent) (ab : Option Addr) (cb : Nat) (ad : Option Addr) (cd : Nat) (al : Option Addr) (cl : Nat) (hl : r.out.length ≤ 100000000) : SC Tryz.prog G 148 [.pointer (some ⟨b, 0, none⟩)] (rcH b r sb X ab cb ad cd al cl H) (fun v H' => ∃ a1 c1 a2 c2, v = resV [] ∧ H' = rcH b r.flush sb X ab cb a1 c1 a2 c2 H) := by
  obtain ⟨mode, cmd, opt, over, buf, data, out⟩ := r
  unfold rcH rcC
  dsimp only at hl ⊢
  by_cases hd : data = []
  · have hf : Rc.flush ⟨mode, cmd, opt, over, buf, data, out⟩ = ⟨mode, cmd, opt, over, buf, data, out⟩ := by unfold Rc.flush; rw [if_pos hd]
    rw [hf]
    have hz : data.length = 0 := by rw [hd]; rfl
    refine sc_enter1 Tryz.func148 rfl rfl rfl rfl rfl ?_
    repeat' ((first | (apply g_sl; (first | (apply ks_nil; refine sl_nil ?_) | (apply ks_move; refine s_move rfl rfl ?_) | (apply ks_bin; refine s_bin rfl rfl rfl ?_; (((refine bb_of rfl ?_)))) | (apply ks_load; ((refine s_load rfl rfl ?_; (refine ld_cell rfl ?_)))) | (apply ks_field; (refine s_field (c_field0 rfl rfl) rfl ?_)) | (apply ks_nilc; refine s_nilc (y_nilCheck rfl rfl) rfl ?_) | (apply ks_bi; (refine s_call (c_len rfl rfl) rfl ?_)))) | (apply sw_seq) | (apply sw_skip) | (apply sw_region) | (refine sw_cd rfl ?_; ((apply gd_dec_t <;> intro hq <;> (try (exfalso; omega))))) | (apply at_thn)))
    all_goals (skip)
    exact e_scf _ (by (exact .inl rfl)) rfl (fun _ hw => hw) ⟨ad, cd, al, cl, rfl, rfl⟩
  · have hf : Rc.flush ⟨mode, cmd, opt, over, buf, data, out⟩ = ⟨mode, cmd, opt, over, buf, [], out ++ [dtok data]⟩ := by unfold Rc.flush; rw [if_neg hd]
    rw [hf]
    have hz : 0 < data.length := List.length_pos_iff.2 hd
    refine sc_enter1 Tryz.func148 rfl rfl rfl rfl rfl ?_
    repeat' ((first | (apply g_sl; (first | (apply ks_nil; refine sl_nil ?_) | (apply ks_move; refine s_move rfl rfl ?_) | (apply ks_bin; refine s_bin rfl rfl rfl ?_; (((refine bb_of rfl ?_)))) | (apply ks_load; ((refine s_load rfl rfl ?_; (refine ld_cell rfl ?_)))) | (apply ks_field; (refine s_field (c_field0 rfl rfl) rfl ?_)) | (apply ks_nilc; refine s_nilc (y_nilCheck rfl rfl) rfl ?_) | (apply ks_bi; (refine s_call (c_len rfl rfl) rfl ?_)))) | (apply sw_seq) | ((fail_if_success (refine g_reg (id := 1) ?_)); apply sw_region) | (refine sw_cd rfl ?_; ((apply gd_dec_t <;> intro hq <;> (try (exfalso; omega))))) | (apply at_thn)))
    all_goals (skip)
    refine c_phase 15 (.blk b 245 [.int .i64 mode, .int .i64 cmd, .int .i64 opt, .string sb, .bool over, .slice ab buf.length cb, .slice ad data.length cd, .slice al out.length cl] :: .own 5 1 ad data.length cd (octs data) :: H) H (fun _ hw => hw.subs (by repeat ((first | refine Subs.cons (by repeat constructor) ?_ | exact Subs.sub (by repeat ((first | exact List.Sublist.refl _ | refine List.Sublist.cons _ ?_))))))) rfl ?_
    repeat' ((first | (apply g_sl; (first | (apply ks_nil; refine sl_nil ?_) | (apply ks_move; refine s_move rfl rfl ?_) | (apply ks_field; (refine s_field (c_field0 rfl rfl) rfl ?_)) | (apply ks_nilc; refine s_nilc (y_nilCheck rfl rfl) rfl ?_) | (apply ks_bi; ((refine c_append rfl rfl rfl rfl (by (rfl)) (by (rfl)) (by omega) rfl rfl (fun _ _ => ?_)))) | (apply ks_store; ((refine c_store rfl rfl rfl rfl rfl rfl rfl ?_))) | (apply ks_bs; ((refine c_bsA rfl rfl rfl rfl rfl rfl rfl rfl rfl (fun _ => ?_)))))) | (apply g_atso; refine so_back (k := 0) (fun _ hw => hw.subs (by repeat ((exact Subs.sub (by repeat ((first | exact List.Sublist.refl _ | refine List.Sublist.cons _ ?_))))))) ?_) | (apply g_atsp; refine sp_back (k := 0) (fun _ hw => hw.subs (by repeat ((first | refine Subs.cons (by repeat constructor) ?_ | exact Subs.sub (by repeat ((first | exact List.Sublist.refl _ | refine List.Sublist.cons _ ?_))))))) ?_) | (apply g_sot; (first | (refine sot_skip rfl ?_) | (refine so_done (by decide +kernel) ?_))) | (apply g_spt; (first | (refine spt_skip rfl ?_) | (refine spt_take rfl rfl rfl rfl (by kernel_rfl) (by decide +kernel) (by decide +kernel) (by decide +kernel) ?_; ((first | (apply ky_move; refine sy_val (y_move rfl rfl) ?_) | (apply ky_load; ((refine sy_load rfl ?_; (refine ld_cell rfl ?_)))) | (apply ky_field; (refine sy_val (c_field0 rfl rfl) ?_)) | (apply ky_build; (refine sy_val (c_build rfl rfl rfl) ?_)) | (apply ky_conv; ((refine sy_val (c_convBs (xs := data) rfl rfl rfl rfl) ?_))) | (apply ky_nilc; refine sy_val (y_nilCheck rfl rfl) ?_)))) | (refine spt_next rfl ?_) | (refine spt_all (by kernel_rfl) ?_))) | (apply g_spa; (first | (refine spa_end rfl) | (refine spa_no (by decide +kernel) ?_) | (refine spa_st rfl rfl ?_ ?_) | (refine spa_yes rfl rfl ?_ ?_))) | ((fail_if_success (refine g_reg (id := 99) ?_)); apply sw_region) | (apply at_thn)))
    all_goals
      rename_i bx a5 c5
      have e1 : (out ++ [dtok data]).length = out.length + 1 := by simp
      refine e_scf _ (by (exact .inl rfl)) rfl (fun _ hw => ?_) ⟨none, 0, a5, c5, rfl, rfl⟩
      dsimp only
      rw [e1, toks_snoc]
      exact (hw.nilrow 5 1).subs (by repeat ((first | refine Subs.cons (by repeat constructor) ?_ | exact Subs.sub (by repeat ((first | exact List.Sublist.refl _ | refine List.Sublist.cons _ ?_))))))
theorem rcTok_sc (G : Ctx) (H : List Ent) (b : Nat) (r : Rc) (t : Tk) (sb : ByteArray) (X : Ent) (ab : Option Addr) (cb : Nat) (ad : Option Addr) (cd : Nat) (al : Option Addr) (cl : Nat) (hl : r.out.length ≤ 90000000) : SC Tryz.prog G 204 [.pointer (some ⟨b, 0, none⟩), tokV t.1 t.2.1 t.2.2.1 t.2.2.2] (rcH b r sb X ab cb ad cd al cl H) (fun v H' => ∃ a1 c1 a2 c2, v = resV [] ∧ H' = rcH b (r.tok t) sb X ab cb a1 c1 a2 c2 H) := by
  have cF := fun H => rcFlush_sc G H b r sb X ab cb ad cd al cl (by omega)
  have hfl : r.flush.out.length ≤ 90000001 := by rw [flush_out, List.length_append]; unfold Rc.opn; split <;> simp <;> omega
  unfold Rc.tok
  generalize r.flush = f at *
  obtain ⟨mode, cmd, opt, over, buf, data, out⟩ := f
  dsimp only at hfl ⊢
  obtain ⟨t1, t2, t3, t4⟩ := t
  refine sc_enter2 Tryz.func204 rfl rfl rfl rfl rfl ?_
  repeat' ((first | (apply g_sl; (first | (apply ks_nil; refine sl_nil ?_) | (apply ks_move; refine s_move rfl rfl ?_) | (apply ks_box; refine c_box rfl rfl rfl rfl rfl rfl (fun _ => ?_)))) | (apply sw_seq) | ((fail_if_success (refine g_reg (id := 2) ?_)); apply sw_region) | (apply at_thn)))
  rename_i bx
  refine sl_heap (H' := rcH b r sb X ab cb ad cd al cl (.blk bx 200 [.int .i64 t1, .int .i64 t2, .int .i64 t3, .string t4] :: H)) (fun _ hw => by unfold rcH at hw ⊢; exact hw.subs (by repeat ((first | refine Subs.cons (by repeat constructor) ?_ | exact Subs.sub (by repeat ((exact List.Sublist.refl _))))))) ?_
  repeat' ((first | (apply g_sl; (first | (apply ks_nil; refine sl_nil ?_) | (apply ks_fn; ((refine c_call rfl rfl rfl (cF _) rfl rfl ?_; rintro _ _ ⟨a1, k1, a2, k2, rfl, rfl⟩))))) | (apply at_thn)))
  unfold rcH rcC
  dsimp only
  refine c_phase 10 (.blk b 245 [.int .i64 mode, .int .i64 cmd, .int .i64 opt, .string sb, .bool over, .slice ab buf.length cb, .slice a1 data.length k1, .slice a2 out.length k2] :: .blk bx 200 [.int .i64 t1, .int .i64 t2, .int .i64 t3, .string t4] :: H) H (fun _ hw => hw.subs (by repeat ((first | refine Subs.cons (by repeat constructor) ?_ | exact Subs.sub (by repeat ((first | exact List.Sublist.refl _ | refine List.Sublist.cons _ ?_))))))) rfl ?_
  repeat' ((first | (apply g_sl; (first | (apply ks_nil; refine sl_nil ?_) | (apply ks_bi; (refine c_append rfl rfl rfl rfl (by (rfl)) (by (rfl)) (by omega) rfl rfl (fun _ _ => ?_))) | (apply ks_store; ((refine c_store rfl rfl rfl rfl rfl rfl rfl ?_))) | (apply ks_bs; (refine c_bsA rfl rfl rfl rfl rfl rfl rfl rfl rfl (fun _ => ?_))))) | (apply g_atso; refine so_back (k := 0) (fun _ hw => hw.subs (by repeat ((exact Subs.sub (by repeat ((first | exact List.Sublist.refl _ | refine List.Sublist.cons _ ?_))))))) ?_) | (apply g_atsp; refine sp_back (k := 0) (fun _ hw => hw.subs (by repeat ((first | refine Subs.cons (by repeat constructor) ?_ | exact Subs.sub (by repeat ((first | exact List.Sublist.refl _ | refine List.Sublist.cons _ ?_))))))) ?_) | (apply g_sot; (first | (refine sot_skip rfl ?_) | (refine so_done (by decide +kernel) ?_))) | (apply g_spt; (first | (refine spt_skip rfl ?_) | (refine spt_take rfl rfl rfl rfl (by kernel_rfl) (by decide +kernel) (by decide +kernel) (by decide +kernel) ?_; ((first | (apply ky_move; refine sy_val (y_move rfl rfl) ?_) | (apply ky_load; ((refine sy_load rfl ?_; (first | refine ld_cell rfl ?_ | refine ld_whole rfl ?_)))) | (apply ky_field; (refine sy_val (c_field0 rfl rfl) ?_)) | (apply ky_nilc; refine sy_val (y_nilCheck rfl rfl) ?_)))) | (refine spt_next rfl ?_) | (refine spt_all (by kernel_rfl) ?_))) | (apply g_spa; (first | (refine spa_end rfl) | (refine spa_no (by decide +kernel) ?_) | (refine spa_st rfl rfl ?_ ?_) | (refine spa_yes rfl rfl ?_ ?_)))))
  all_goals
    rename_i bx a5 c5
    have e1 : (out ++ [((t1, t2, t3, t4) : Tk)]).length = out.length + 1 := by simp
    refine e_scf _ (by (exact .inl rfl)) rfl (fun _ hw => ?_) ⟨a1, k1, a5, c5, rfl, rfl⟩
    rw [e1, toks_snoc]
    exact hw.subs (by repeat ((first | refine Subs.cons (by repeat constructor) ?_ | exact Subs.sub (by repeat ((first | exact List.Sublist.refl _ | refine List.Sublist.cons _ ?_))))))
theorem tok_mode (r : Rc) (m : Int) (t : Tk) : ({ r with mode := m } : Rc).tok t = { r.tok t with mode := m } := by
  unfold Rc.tok Rc.flush
  split <;> rfl
theorem rcSub_sc (G : Ctx) (H : List Ent) (b : Nat) (r : Rc) (c : Int) (sb : ByteArray) (X : Ent) (ab : Option Addr) (cb : Nat) (ad : Option Addr) (cd : Nat) (al : Option Addr) (cl : Nat) (hX : BufE 5 X ab r.buf.length cb r.buf) (hl : r.buf.length ≤ 4096) : SC Tryz.prog G 205 [.pointer (some ⟨b, 0, none⟩), .int .u8 c] (rcH b r sb X ab cb ad cd al cl H) (fun v H' => ∃ X' a1 c1, BufE 5 X' a1 (r.sub c).buf.length c1 (r.sub c).buf ∧ v = resV [] ∧ H' = rcH b (r.sub c) sb X' a1 c1 ad cd al cl H) := by
  unfold rcH rcC Rc.sub
  by_cases h1 : r.buf.length = 4096
  · simp only [if_pos h1]
    refine sc_enter2 Tryz.func205 rfl rfl rfl rfl rfl ?_
    repeat' ((first | (apply g_sl; (first | (apply ks_nil; refine sl_nil ?_) | (apply ks_move; refine s_move rfl rfl ?_) | (apply ks_bin; refine s_bin rfl rfl rfl ?_; (((refine bb_of rfl ?_)))) | (apply ks_load; ((refine s_load rfl rfl ?_; (refine ld_cell rfl ?_)))) | (apply ks_field; (refine s_field (c_field0 rfl rfl) rfl ?_)) | (apply ks_un; refine s_un (y_un rfl rfl rfl) rfl ?_) | (apply ks_nilc; refine s_nilc (y_nilCheck rfl rfl) rfl ?_) | (apply ks_bi; (refine s_call (c_len rfl rfl) rfl ?_)) | (apply ks_store; ((refine c_store rfl rfl rfl rfl rfl rfl rfl ?_))))) | (apply sw_seq) | (apply sw_skip) | (apply sw_region) | (refine sw_cd rfl ?_; (first | (apply gd_ft) | (apply gd_dec_t <;> intro hq <;> (try (exfalso; omega))))) | (apply at_thn)))
    all_goals (skip)
    exact e_scf _ (by (exact .inl rfl)) rfl (fun _ hw => (hw.nilrow _ _).subs (by repeat ((first | refine Subs.cons (by repeat constructor) ?_ | exact Subs.sub (by repeat ((first | exact List.Sublist.refl _ | refine List.Sublist.cons _ ?_))))))) ⟨_, none, 0, .own none 0 0 [], rfl, rfl⟩
  · simp only [if_neg h1]
    cases ho : r.over with
    | true =>
      simp only [if_true]
      refine sc_enter2 Tryz.func205 rfl rfl rfl rfl rfl ?_
      repeat' ((first | (apply g_sl; (first | (apply ks_nil; refine sl_nil ?_) | (apply ks_move; refine s_move rfl rfl ?_) | (apply ks_bin; refine s_bin rfl rfl rfl ?_; (((refine bb_of rfl ?_)))) | (apply ks_load; ((refine s_load rfl rfl ?_; (refine ld_cell rfl ?_)))) | (apply ks_field; (refine s_field (c_field0 rfl rfl) rfl ?_)) | (apply ks_un; refine s_un (y_un rfl rfl rfl) rfl ?_) | (apply ks_nilc; refine s_nilc (y_nilCheck rfl rfl) rfl ?_) | (apply ks_bi; (refine s_call (c_len rfl rfl) rfl ?_)))) | (apply sw_seq) | (apply sw_skip) | (apply sw_region) | (refine sw_cd rfl ?_; (first | (apply gd_ft) | (apply gd_dec_t <;> intro hq <;> (try (exfalso; omega))))) | (apply at_thn)))
      all_goals (skip)
      exact e_scf _ (by first | exact .inl rfl | exact .inr rfl) rfl (fun _ hw => hw) ⟨X, ab, cb, hX, rfl, by rw [ho]⟩
    | false =>
      simp only [Bool.false_eq_true, if_false]
      refine sc_enter2 Tryz.func205 rfl rfl rfl rfl rfl ?_
      repeat' ((first | (apply g_sl; (first | (apply ks_nil; refine sl_nil ?_) | (apply ks_move; refine s_move rfl rfl ?_) | (apply ks_bin; refine s_bin rfl rfl rfl ?_; ((((refine bb_of rfl ?_))))) | (apply ks_load; ((refine s_load rfl rfl ?_; (refine ld_cell rfl ?_)))) | (apply ks_field; (refine s_field (c_field0 rfl rfl) rfl ?_)) | (apply ks_un; refine s_un (y_un rfl rfl rfl) rfl ?_) | (apply ks_nilc; refine s_nilc (y_nilCheck rfl rfl) rfl ?_) | (apply ks_bi; ((first | (refine c_appendB hX rfl rfl rfl rfl (by omega) rfl rfl (fun _ _ _ _ => ?_)) | refine s_call (c_len rfl rfl) rfl ?_))) | (apply ks_store; ((refine c_store rfl rfl rfl rfl rfl rfl rfl ?_))) | (apply ks_bs; (refine c_buildSlice rfl rfl rfl rfl rfl rfl rfl rfl rfl rfl (fun _ => ?_))))) | (apply sw_seq) | (apply sw_skip) | (apply sw_region) | (refine sw_cd rfl ?_; (first | (apply gd_t) | (apply gd_dec_t <;> intro hq <;> (try (exfalso; omega))))) | (apply at_thn)))
      all_goals (skip)
      rename_i X' a1 c1 hX'
      have e1 : (r.buf ++ [c]).length = r.buf.length + 1 := by simp
      refine e_scf _ (by (exact .inl rfl)) rfl ?_ ⟨X', a1, c1, by rw [e1]; exact hX', rfl, rfl⟩
      rw [e1]
      exact (fun _ hw => hw.subs (by repeat ((first | refine Subs.cons (by repeat constructor) ?_ | exact Subs.sub (by repeat ((first | exact List.Sublist.refl _ | refine List.Sublist.cons _ ?_)))))))
theorem rcEnd_sc (G : Ctx) (H : List Ent) (b : Nat) (r : Rc) (c : Int) (hc : 0 ≤ c ∧ c ≤ 255) (sb : ByteArray) (X : Ent) (ab : Option Addr) (cb : Nat) (ad : Option Addr) (cd : Nat) (al : Option Addr) (cl : Nat) (hX : BufE 5 X ab r.buf.length cb r.buf) (hl : r.out.length ≤ 90000000) : SC Tryz.prog G 206 [.pointer (some ⟨b, 0, none⟩), .int .u8 c] (rcH b r sb X ab cb ad cd al cl H) (fun v H' => ∃ sb' X' a0 c0 a1 c1 a2 c2, BufE 5 X' a0 (r.fin c).buf.length c0 (r.fin c).buf ∧ v = resV [] ∧ H' = rcH b (r.fin c) sb' X' a0 c0 a1 c1 a2 c2 H) := by
  haveI := fun H => hX.rd (G := G) H
  have fin : ∀ t, r.finT c = t → r.fin c = { r.tok t with mode := 0, cmd := 0, opt := 0, over := false, buf := [] } := fun t ht => by subst ht; rfl
  obtain ⟨mode, cmd, opt, over, buf, data, out⟩ := r
  dsimp only at hX hl fin ⊢
  have cT := fun H t => rcTok_sc G H b ⟨mode, cmd, opt, over, buf, data, out⟩ t sb X ab cb ad cd al cl hl
  by_cases h1 : c = 240
  · subst h1
    cases over with
    | true =>
      have hT : Rc.finT ⟨mode, cmd, opt, true, buf, data, out⟩ 240 = (5, 250, opt, noB) := rfl
      rw [fin _ hT]
      have cT1 := fun H => cT H (5, 250, opt, noB)
      generalize Rc.tok ⟨mode, cmd, opt, true, buf, data, out⟩ (5, 250, opt, noB) = q at *
      refine sc_enter2 Tryz.func206 rfl rfl rfl rfl rfl ?_
      repeat' ((first | (apply g_sl; (first | (apply ks_nil; refine sl_nil ?_) | (apply ks_move; refine s_move rfl rfl ?_) | (apply ks_bin; refine s_bin rfl rfl rfl ?_; (((refine bb_of rfl ?_)))) | (apply ks_load; ((refine s_load rfl rfl ?_; (refine ld_cell rfl ?_)))) | (apply ks_asgn; refine s_asgn rfl rfl ?_) | (apply ks_pick; refine s_pick rfl rfl ?_; ((apply kp_t; refine pk_t rfl ?_))) | (apply ks_field; (refine s_field (c_field0 rfl rfl) rfl ?_)) | (apply ks_build; (refine s_build (c_build rfl rfl rfl) rfl ?_)) | (apply ks_nilc; refine s_nilc (y_nilCheck rfl rfl) rfl ?_) | (apply ks_fn; ((refine c_call rfl rfl rfl (cT1 _) rfl rfl ?_; rintro _ _ ⟨a1, k1, a2, k2, rfl, rfl⟩))) | (apply ks_store; ((first | refine c_store rfl rfl rfl rfl rfl rfl rfl ?_ | (refine c_storep rfl rfl rfl rfl rfl rfl (Nat.le_of_ble_eq_true rfl) rfl ?_)))) | (apply ks_guard; ((refine sl_gd rfl rfl rfl rfl ?_; ((apply gd_t))))))) | (apply sw_seq) | (apply sw_block) | (apply sw_region) | (refine sw_cd rfl ?_; ((apply gd_t))) | (apply at_thn) | (apply at_inb)))
      refine e_scf _ (by (exact .inl rfl)) rfl ?_ ⟨noB, _, none, 0, a1, k1, a2, k2, .own none 0 0 [], rfl, rfl⟩
      exact fun _ hw => (hw.nilrow 5 1).subs (by repeat (first | refine Subs.cons (by repeat constructor) ?_ | exact Subs.sub (by repeat (first | exact List.Sublist.refl _ | exact List.nil_sublist _ | refine List.Sublist.cons _ ?_))))
    | false =>
      have hT : Rc.finT ⟨mode, cmd, opt, false, buf, data, out⟩ 240 = (4, 0, opt, strOfNums buf) := rfl
      rw [fin _ hT]
      have cT1 := fun H => cT H (4, 0, opt, strOfNums buf)
      generalize Rc.tok ⟨mode, cmd, opt, false, buf, data, out⟩ (4, 0, opt, strOfNums buf) = q at *
      refine sc_enter2 Tryz.func206 rfl rfl rfl rfl rfl ?_
      repeat' ((first | (apply g_sl; (first | (apply ks_nil; refine sl_nil ?_) | (apply ks_move; refine s_move rfl rfl ?_) | (apply ks_bin; refine s_bin rfl rfl rfl ?_; (((refine bb_of rfl ?_)))) | (apply ks_load; ((refine s_load rfl rfl ?_; (refine ld_cell rfl ?_)))) | (apply ks_asgn; refine s_asgn rfl rfl ?_) | (apply ks_pick; refine s_pick rfl rfl ?_; ((apply kp_t; refine pk_t rfl ?_))) | (apply ks_field; (refine s_field (c_field0 rfl rfl) rfl ?_)) | (apply ks_nilc; refine s_nilc (y_nilCheck rfl rfl) rfl ?_) | (apply ks_guard; ((refine sl_gd rfl rfl rfl rfl ?_; ((apply gd_t))))))) | (apply sw_seq) | (apply sw_block) | ((fail_if_success (refine g_reg (id := 4) ?_)); apply sw_region) | (refine sw_cd rfl ?_; (first | (apply gd_t) | (apply gd_ft))) | (apply at_thn)))
      all_goals (skip)
      refine c_phase 12 (rcH b ⟨mode, cmd, opt, false, buf, data, out⟩ sb X ab cb ad cd al cl H) H (fun _ hw => hw) rfl ?_
      repeat' ((first | (apply g_sl; (first | (apply ks_nil; refine sl_nil ?_) | (apply ks_move; refine s_move rfl rfl ?_) | (apply ks_field; (refine s_field (c_field0 rfl rfl) rfl ?_)) | (apply ks_build; (refine s_build (c_build rfl rfl rfl) rfl ?_)) | (apply ks_nilc; refine s_nilc (y_nilCheck rfl rfl) rfl ?_) | (apply ks_fn; ((refine c_call rfl rfl rfl (cT1 _) rfl rfl ?_; rintro _ _ ⟨a1, k1, a2, k2, rfl, rfl⟩))) | (apply ks_store; ((first | refine c_store rfl rfl rfl rfl rfl rfl rfl ?_ | ((refine c_storep rfl rfl rfl rfl rfl rfl (Nat.le_of_ble_eq_true rfl) rfl ?_))))))) | (apply g_atso; refine so_back (k := 0) (fun _ hw => hw.subs (by repeat ((exact Subs.sub (by repeat ((first | exact List.Sublist.refl _ | refine List.Sublist.cons _ ?_))))))) ?_) | (apply g_sot; (first | (refine sot_skip rfl ?_) | (refine so_done (by decide +kernel) ?_))) | (apply g_spt; (first | (refine spt_take rfl rfl rfl rfl (by kernel_rfl) (by decide +kernel) (by decide +kernel) (by decide +kernel) ?_; ((first | (apply ky_move; refine sy_val (y_move rfl rfl) ?_) | (apply ky_load; ((refine sy_load rfl ?_; (refine ld_cell rfl ?_)))) | (apply ky_field; (refine sy_val (c_field0 rfl rfl) ?_)) | (apply ky_build; (refine sy_val (c_build rfl rfl rfl) ?_)) | (apply ky_conv; ((refine sy_val (c_convBs (xs := buf) rfl rfl rfl rfl) ?_))) | (apply ky_nilc; refine sy_val (y_nilCheck rfl rfl) ?_)))) | (refine spt_next rfl ?_) | (refine spt_all (by kernel_rfl) ?_))) | (apply g_spa; (first | (refine spa_end rfl) | (refine spa_no (by decide +kernel) ?_) | (refine spa_st rfl rfl ?_ ?_))) | ((fail_if_success (refine g_reg (id := 99) ?_)); apply sw_region) | (apply at_thn) | (apply at_inb)))
      refine e_scf _ (by (exact .inl rfl)) rfl ?_ ⟨noB, _, none, 0, a1, k1, a2, k2, .own none 0 0 [], rfl, rfl⟩
      exact fun _ hw => (hw.nilrow 5 1).subs (by repeat ((first | refine Subs.cons (by repeat constructor) ?_ | exact Subs.sub (by repeat ((first | exact List.Sublist.refl _ | refine List.Sublist.cons _ ?_))))))
  · have hT : Rc.finT ⟨mode, cmd, opt, over, buf, data, out⟩ c = (5, c, opt, noB) := by unfold Rc.finT; rw [if_neg h1]
    rw [fin _ hT]
    have cT1 := fun H => cT H (5, c, opt, noB)
    generalize Rc.tok ⟨mode, cmd, opt, over, buf, data, out⟩ (5, c, opt, noB) = q at *
    refine sc_enter2 Tryz.func206 rfl rfl rfl rfl rfl ?_
    repeat' ((first | (apply g_sl; (first | (apply ks_nil; refine sl_nil ?_) | (apply ks_move; refine s_move rfl rfl ?_) | (apply ks_bin; refine s_bin rfl rfl rfl ?_; (((refine bb_of rfl ?_)))) | (apply ks_load; ((refine s_load rfl rfl ?_; (refine ld_cell rfl ?_)))) | (apply ks_asgn; refine s_asgn rfl rfl ?_) | (apply ks_pick; refine s_pick rfl rfl ?_; ((apply kp_f; refine pk_f rfl ?_))) | (apply ks_field; (refine s_field (c_field0 rfl rfl) rfl ?_)) | (apply ks_build; (refine s_build (c_build rfl rfl rfl) rfl ?_)) | (apply ks_conv; (refine s_conv (c_conv (k := .i64) rfl rfl ⟨by omega, by omega⟩) rfl ?_)) | (apply ks_nilc; refine s_nilc (y_nilCheck rfl rfl) rfl ?_) | (apply ks_fn; ((refine c_call rfl rfl rfl (cT1 _) rfl rfl ?_; rintro _ _ ⟨a1, k1, a2, k2, rfl, rfl⟩))) | (apply ks_store; ((first | refine c_store rfl rfl rfl rfl rfl rfl rfl ?_ | (refine c_storep rfl rfl rfl rfl rfl rfl (Nat.le_of_ble_eq_true rfl) rfl ?_)))) | (apply ks_guard; ((refine sl_gd rfl rfl rfl rfl ?_; (first | (apply gd_ft) | (apply gd_dec_t <;> intro hq <;> (try (exfalso; omega))))))))) | (apply sw_seq) | (apply sw_block) | (apply sw_region) | (refine sw_cd rfl ?_; (first | (apply gd_ft) | (apply gd_dec_t <;> intro hq <;> (try (exfalso; omega))))) | (apply at_thn) | (apply at_inb)))
    all_goals (skip)
    refine e_scf _ (by (exact .inl rfl)) rfl ?_ ⟨noB, _, none, 0, a1, k1, a2, k2, .own none 0 0 [], rfl, rfl⟩
    exact fun _ hw => (hw.nilrow 5 1).subs (by repeat ((first | refine Subs.cons (by repeat constructor) ?_ | exact Subs.sub (by repeat ((first | exact List.Sublist.refl _ | refine List.Sublist.cons _ ?_))))))
theorem rcCom_sc (G : Ctx) (H : List Ent) (b : Nat) (r : Rc) (c : Int) (hc : 0 ≤ c ∧ c ≤ 255) (sb : ByteArray) (X : Ent) (ab : Option Addr) (cb : Nat) (ad : Option Addr) (cd : Nat) (al : Option Addr) (cl : Nat) (hl : r.out.length ≤ 90000000) (hd : r.data.length ≤ 90000000) : SC Tryz.prog G 203 [.pointer (some ⟨b, 0, none⟩), .int .u8 c] (rcH b r sb X ab cb ad cd al cl H) (fun v H' => ∃ a1 c1 a2 c2, v = resV [] ∧ H' = rcH b (r.com c) sb X ab cb a1 c1 a2 c2 H) := by
  have cT := fun H t => rcTok_sc G H b { r with mode := 0 } t sb X ab cb ad cd al cl hl
  simp only [tok_mode] at cT
  unfold Rc.com
  by_cases h1 : c = 255
  · rw [if_pos h1]
    refine sc_enter2 Tryz.func203 rfl rfl rfl rfl rfl ?_
    repeat' ((first | (apply g_sl; (first | (apply ks_nil; refine sl_nil ?_) | (apply ks_move; refine s_move rfl rfl ?_) | (apply ks_bin; refine s_bin rfl rfl rfl ?_; (((refine bb_of rfl ?_)))) | (apply ks_load; ((refine s_load rfl rfl ?_; (refine ld_cell rfl ?_)))) | (apply ks_asgn; refine s_asgn rfl rfl ?_) | (apply ks_field; (refine s_field (c_field0 rfl rfl) rfl ?_)) | (apply ks_nilc; refine s_nilc (y_nilCheck rfl rfl) rfl ?_) | (apply ks_bi; (refine c_append rfl rfl rfl rfl (by (rfl)) (by (rfl)) (by omega) rfl rfl (fun _ _ => ?_))) | (apply ks_store; ((refine c_store rfl rfl rfl rfl rfl rfl rfl ?_))) | (apply ks_bs; (refine c_buildSlice rfl rfl rfl rfl rfl rfl rfl rfl rfl rfl (fun _ => ?_))))) | (apply sw_seq) | (apply sw_block) | (apply sw_region) | (refine sw_cd rfl ?_; ((apply gd_dec_t <;> intro hq <;> (try (exfalso; omega))))) | (apply at_thn) | (apply at_inb)))
    all_goals (skip)
    rename_i b9 a1 c1
    have e1 : (r.data ++ [c]).length = r.data.length + 1 := by simp
    have e2 : octs (r.data ++ [c]) = octs r.data ++ [.int .u8 c] := by simp [octs]
    refine e_scf _ (by (exact .inl rfl)) rfl ?_ ⟨a1, c1, al, cl, rfl, rfl⟩
    unfold rcH rcC
    dsimp only
    rw [e1, e2]
    exact (fun _ hw => hw.subs (by repeat ((first | refine Subs.cons (by repeat constructor) ?_ | exact Subs.sub (by repeat ((first | exact List.Sublist.refl _ | refine List.Sublist.cons _ ?_)))))))
  rw [if_neg h1]
  by_cases h2 : 251 ≤ c
  · rw [if_pos h2]
    refine sc_enter2 Tryz.func203 rfl rfl rfl rfl rfl ?_
    repeat' ((first | (apply g_sl; (first | (apply ks_nil; refine sl_nil ?_) | (apply ks_move; refine s_move rfl rfl ?_) | (apply ks_bin; refine s_bin rfl rfl rfl ?_; (((refine bb_of rfl ?_)))) | (apply ks_asgn; refine s_asgn rfl rfl ?_) | (apply ks_field; (refine s_field (c_field0 rfl rfl) rfl ?_)) | (apply ks_conv; (refine s_conv (c_conv (k := .i64) rfl rfl ⟨by omega, by omega⟩) rfl ?_)) | (apply ks_nilc; refine s_nilc (y_nilCheck rfl rfl) rfl ?_) | (apply ks_store; ((refine c_store rfl rfl rfl rfl rfl rfl rfl ?_))))) | (apply sw_seq) | (apply sw_block) | (apply sw_region) | (refine sw_cd rfl ?_; ((apply gd_dec_t <;> intro hq <;> (try (exfalso; omega))))) | (apply at_thn) | (apply at_inb)))
    all_goals (skip)
    exact e_scf _ (by (exact .inl rfl)) rfl (fun _ hw => hw) ⟨ad, cd, al, cl, rfl, rfl⟩
  rw [if_neg h2]
  by_cases h3 : c = 250
  · rw [if_pos h3]
    refine sc_enter2 Tryz.func203 rfl rfl rfl rfl rfl ?_
    repeat' ((first | (apply g_sl; (first | (apply ks_nil; refine sl_nil ?_) | (apply ks_move; refine s_move rfl rfl ?_) | (apply ks_bin; refine s_bin rfl rfl rfl ?_; (((refine bb_of rfl ?_)))) | (apply ks_asgn; refine s_asgn rfl rfl ?_) | (apply ks_field; (refine s_field (c_field0 rfl rfl) rfl ?_)) | (apply ks_nilc; refine s_nilc (y_nilCheck rfl rfl) rfl ?_) | (apply ks_store; ((refine c_store rfl rfl rfl rfl rfl rfl rfl ?_))))) | (apply sw_seq) | (apply sw_block) | (apply sw_region) | (refine sw_cd rfl ?_; ((apply gd_dec_t <;> intro hq <;> (try (exfalso; omega))))) | (apply at_thn) | (apply at_inb)))
    all_goals (skip)
    exact e_scf _ (by (exact .inl rfl)) rfl (fun _ hw => hw) ⟨ad, cd, al, cl, rfl, rfl⟩
  rw [if_neg h3]
  by_cases h4 : 240 ≤ c
  · rw [if_pos h4]
    have cT1 := fun H => cT H (2, c, 0, noB)
    refine sc_enter2 Tryz.func203 rfl rfl rfl rfl rfl ?_
    repeat' ((first | (apply g_sl; (first | (apply ks_nil; refine sl_nil ?_) | (apply ks_move; refine s_move rfl rfl ?_) | (apply ks_bin; refine s_bin rfl rfl rfl ?_; (((refine bb_of rfl ?_)))) | (apply ks_asgn; refine s_asgn rfl rfl ?_) | (apply ks_field; (refine s_field (c_field0 rfl rfl) rfl ?_)) | (apply ks_build; (refine s_build (c_build rfl rfl rfl) rfl ?_)) | (apply ks_conv; (refine s_conv (c_conv (k := .i64) rfl rfl ⟨by omega, by omega⟩) rfl ?_)) | (apply ks_nilc; refine s_nilc (y_nilCheck rfl rfl) rfl ?_) | (apply ks_fn; ((refine c_call rfl rfl rfl (cT1 _) rfl rfl ?_; rintro _ _ ⟨a1, k1, a2, k2, rfl, rfl⟩))) | (apply ks_store; ((refine c_store rfl rfl rfl rfl rfl rfl rfl ?_))))) | (apply sw_seq) | (apply sw_block) | (apply sw_region) | (refine sw_cd rfl ?_; ((apply gd_dec_t <;> intro hq <;> (try (exfalso; omega))))) | (apply at_thn) | (apply at_inb)))
    all_goals (skip)
    exact e_scf _ (by (exact .inl rfl)) rfl (fun _ hw => hw) ⟨a1, k1, a2, k2, rfl, rfl⟩
  · rw [if_neg h4]
    have cT1 := fun H => cT H (5, c, 0, noB)
    refine sc_enter2 Tryz.func203 rfl rfl rfl rfl rfl ?_
    repeat' ((first | (apply g_sl; (first | (apply ks_nil; refine sl_nil ?_) | (apply ks_move; refine s_move rfl rfl ?_) | (apply ks_bin; refine s_bin rfl rfl rfl ?_; (((refine bb_of rfl ?_)))) | (apply ks_asgn; refine s_asgn rfl rfl ?_) | (apply ks_field; (refine s_field (c_field0 rfl rfl) rfl ?_)) | (apply ks_build; (refine s_build (c_build rfl rfl rfl) rfl ?_)) | (apply ks_conv; (refine s_conv (c_conv (k := .i64) rfl rfl ⟨by omega, by omega⟩) rfl ?_)) | (apply ks_nilc; refine s_nilc (y_nilCheck rfl rfl) rfl ?_) | (apply ks_fn; ((refine c_call rfl rfl rfl (cT1 _) rfl rfl ?_; rintro _ _ ⟨a1, k1, a2, k2, rfl, rfl⟩))) | (apply ks_store; ((refine c_store rfl rfl rfl rfl rfl rfl rfl ?_))))) | (apply sw_seq) | (apply sw_block) | (apply sw_region) | (refine sw_cd rfl ?_; ((apply gd_dec_t <;> intro hq <;> (try (exfalso; omega))))) | (apply at_thn) | (apply at_inb)))
    all_goals (skip)
    exact e_scf _ (by (exact .inl rfl)) rfl (fun _ hw => hw) ⟨a1, k1, a2, k2, rfl, rfl⟩
theorem rcTake_sc (G : Ctx) (H : List Ent) (b : Nat) (r : Rc) (c : Int) (hc : 0 ≤ c ∧ c ≤ 255) (sb : ByteArray) (X : Ent) (ab : Option Addr) (cb : Nat) (ad : Option Addr) (cd : Nat) (al : Option Addr) (cl : Nat) (hX : BufE 5 X ab r.buf.length cb r.buf) (hm : 0 ≤ r.mode ∧ r.mode ≤ 5) (hb : r.buf.length ≤ 4096) (hl : r.out.length ≤ 90000000) (hd : r.data.length ≤ 90000000) : SC Tryz.prog G 147 [.pointer (some ⟨b, 0, none⟩), .int .u8 c] (rcH b r sb X ab cb ad cd al cl H) (fun v H' => ∃ sb' X' a0 c0 a1 c1 a2 c2, BufE 5 X' a0 (r.take c).buf.length c0 (r.take c).buf ∧ v = resV [] ∧ H' = rcH b (r.take c) sb' X' a0 c0 a1 c1 a2 c2 H) := by
  have cC := fun H => rcCom_sc G H b r c hc sb X ab cb ad cd al cl hl hd
  have cT := fun H => rcTok_sc G H b r (3, r.cmd, c, noB) sb X ab cb ad cd al cl hl
  have cS := fun H => rcSub_sc G H b r c sb X ab cb ad cd al cl hX hb
  have cS4 := fun H => rcSub_sc G H b { r with mode := 4 } c sb X ab cb ad cd al cl hX hb
  have cE := fun H => rcEnd_sc G H b r c hc sb X ab cb ad cd al cl hX hl
  have htb : ∀ t, (r.tok t).buf = r.buf := fun t => (tok_wire r t).2.2.2.2
  have hcb : (r.com c).buf = r.buf := by
    unfold Rc.com
    split
    · rfl
    split
    · rfl
    split
    · rfl
    split
    · exact htb (2, c, 0, noB)
    · exact htb (5, c, 0, noB)
  rcases (by omega : r.mode = 0 ∨ r.mode = 1 ∨ r.mode = 2 ∨ r.mode = 3 ∨ r.mode = 4 ∨ r.mode = 5) with h | h | h | h | h | h
  · rw [Rc.t0 h]
    by_cases h1 : c = 255
    · rw [if_pos h1]
      refine sc_enter2 Tryz.func147 rfl rfl rfl rfl rfl ?_
      repeat' ((first | (apply g_sl; (first | (apply ks_nil; refine sl_nil ?_) | (apply ks_move; refine s_move rfl rfl ?_) | (apply ks_bin; refine s_bin rfl rfl rfl ?_; (((refine bb_of rfl ?_)))) | (apply ks_load; ((refine s_load rfl rfl ?_; (refine ld_cell rfl ?_)))) | (apply ks_asgn; refine s_asgn rfl rfl ?_) | (apply ks_field; (refine s_field (c_field0 rfl rfl) rfl ?_)) | (apply ks_nilc; refine s_nilc (y_nilCheck rfl rfl) rfl ?_) | (apply ks_store; ((refine c_store rfl rfl rfl rfl rfl rfl rfl ?_))))) | (apply sw_seq) | (apply sw_block) | (apply sw_region) | (refine sw_cd rfl ?_; ((apply gd_dec_t <;> intro hq <;> (try (exfalso; omega))))) | (apply at_thn) | (apply at_inb)))
      all_goals (skip)
      exact e_scf _ (by (exact .inl rfl)) rfl (fun _ hw => hw) ⟨sb, X, ab, cb, ad, cd, al, cl, hX, rfl, rfl⟩
    · rw [if_neg h1]
      refine sc_enter2 Tryz.func147 rfl rfl rfl rfl rfl ?_
      repeat' ((first | (apply g_sl; (first | (apply ks_nil; refine sl_nil ?_) | (apply ks_move; refine s_move rfl rfl ?_) | (apply ks_bin; refine s_bin rfl rfl rfl ?_; (((refine bb_of rfl ?_)))) | (apply ks_load; ((refine s_load rfl rfl ?_; (refine ld_cell rfl ?_)))) | (apply ks_asgn; refine s_asgn rfl rfl ?_) | (apply ks_field; (refine s_field (c_field0 rfl rfl) rfl ?_)) | (apply ks_nilc; refine s_nilc (y_nilCheck rfl rfl) rfl ?_) | (apply ks_bi; (refine c_append rfl rfl rfl rfl (by (rfl)) (by (rfl)) (by omega) rfl rfl (fun _ _ => ?_))) | (apply ks_store; ((refine c_store rfl rfl rfl rfl rfl rfl rfl ?_))) | (apply ks_bs; (refine c_buildSlice rfl rfl rfl rfl rfl rfl rfl rfl rfl rfl (fun _ => ?_))))) | (apply sw_seq) | (apply sw_block) | (apply sw_region) | (refine sw_cd rfl ?_; ((apply gd_dec_t <;> intro hq <;> (try (exfalso; omega))))) | (apply at_thn) | (apply at_inb)))
      all_goals (skip)
      rename_i b9 a1 c1
      have e1 : (r.data ++ [c]).length = r.data.length + 1 := by simp
      have e2 : octs (r.data ++ [c]) = octs r.data ++ [.int .u8 c] := by simp [octs]
      refine e_scf _ (by (exact .inl rfl)) rfl ?_ ⟨sb, X, ab, cb, a1, c1, al, cl, hX, rfl, rfl⟩
      unfold rcH rcC
      dsimp only
      rw [e1, e2]
      exact (fun _ hw => hw.subs (by repeat ((first | refine Subs.cons (by repeat constructor) ?_ | exact Subs.sub (by repeat ((first | exact List.Sublist.refl _ | refine List.Sublist.cons _ ?_)))))))
  · rw [Rc.t1 h]
    refine sc_enter2 Tryz.func147 rfl rfl rfl rfl rfl ?_
    repeat' ((first | (apply g_sl; (first | (apply ks_nil; refine sl_nil ?_) | (apply ks_move; refine s_move rfl rfl ?_) | (apply ks_bin; refine s_bin rfl rfl rfl ?_; (((refine bb_of rfl ?_)))) | (apply ks_load; ((refine s_load rfl rfl ?_; (refine ld_cell rfl ?_)))) | (apply ks_asgn; refine s_asgn rfl rfl ?_) | (apply ks_field; (refine s_field (c_field0 rfl rfl) rfl ?_)) | (apply ks_nilc; refine s_nilc (y_nilCheck rfl rfl) rfl ?_) | (apply ks_fn; ((refine c_call rfl rfl rfl (cC _) rfl rfl ?_; rintro _ _ ⟨a1, k1, a2, k2, rfl, rfl⟩))))) | (apply sw_seq) | (apply sw_block) | (apply sw_region) | (refine sw_cd rfl ?_; ((apply gd_dec_t <;> intro hq <;> (try (exfalso; omega))))) | (apply at_thn) | (apply at_inb)))
    all_goals (skip)
    exact e_scf _ (by (exact .inl rfl)) rfl (fun _ hw => hw) ⟨sb, X, ab, cb, a1, k1, a2, k2, by rw [hcb]; exact hX, rfl, rfl⟩
  · rw [Rc.t2 h]
    refine sc_enter2 Tryz.func147 rfl rfl rfl rfl rfl ?_
    repeat' ((first | (apply g_sl; (first | (apply ks_nil; refine sl_nil ?_) | (apply ks_move; refine s_move rfl rfl ?_) | (apply ks_bin; refine s_bin rfl rfl rfl ?_; (((refine bb_of rfl ?_)))) | (apply ks_load; ((refine s_load rfl rfl ?_; (refine ld_cell rfl ?_)))) | (apply ks_asgn; refine s_asgn rfl rfl ?_) | (apply ks_field; (refine s_field (c_field0 rfl rfl) rfl ?_)) | (apply ks_build; (refine s_build (c_build rfl rfl rfl) rfl ?_)) | (apply ks_conv; (refine s_conv (c_conv (k := .i64) rfl rfl ⟨by omega, by omega⟩) rfl ?_)) | (apply ks_nilc; refine s_nilc (y_nilCheck rfl rfl) rfl ?_) | (apply ks_fn; ((refine c_call rfl rfl rfl (cT _) rfl rfl ?_; rintro _ _ ⟨a1, k1, a2, k2, rfl, rfl⟩))) | (apply ks_store; ((refine c_store rfl rfl rfl rfl rfl rfl rfl ?_))))) | (apply sw_seq) | (apply sw_block) | (apply sw_region) | (refine sw_cd rfl ?_; ((apply gd_dec_t <;> intro hq <;> (try (exfalso; omega))))) | (apply at_thn) | (apply at_inb)))
    all_goals (skip)
    exact e_scf _ (by (exact .inl rfl)) rfl (fun _ hw => hw) ⟨sb, X, ab, cb, a1, k1, a2, k2, by dsimp only; rw [htb]; exact hX, rfl, rfl⟩
  · rw [Rc.t3 h]
    refine sc_enter2 Tryz.func147 rfl rfl rfl rfl rfl ?_
    repeat' ((first | (apply g_sl; (first | (apply ks_nil; refine sl_nil ?_) | (apply ks_move; refine s_move rfl rfl ?_) | (apply ks_bin; refine s_bin rfl rfl rfl ?_; (((refine bb_of rfl ?_)))) | (apply ks_load; ((refine s_load rfl rfl ?_; (refine ld_cell rfl ?_)))) | (apply ks_asgn; refine s_asgn rfl rfl ?_) | (apply ks_field; (refine s_field (c_field0 rfl rfl) rfl ?_)) | (apply ks_conv; (refine s_conv (c_conv (k := .i64) rfl rfl ⟨by omega, by omega⟩) rfl ?_)) | (apply ks_nilc; refine s_nilc (y_nilCheck rfl rfl) rfl ?_) | (apply ks_store; ((refine c_store rfl rfl rfl rfl rfl rfl rfl ?_))))) | (apply sw_seq) | (apply sw_block) | (apply sw_region) | (refine sw_cd rfl ?_; ((apply gd_dec_t <;> intro hq <;> (try (exfalso; omega))))) | (apply at_thn) | (apply at_inb)))
    all_goals (skip)
    exact e_scf _ (by (exact .inl rfl)) rfl (fun _ hw => hw) ⟨sb, X, ab, cb, ad, cd, al, cl, hX, rfl, rfl⟩
  · rw [Rc.t4 h]
    by_cases h1 : c = 255
    · rw [if_pos h1]
      refine sc_enter2 Tryz.func147 rfl rfl rfl rfl rfl ?_
      repeat' ((first | (apply g_sl; (first | (apply ks_nil; refine sl_nil ?_) | (apply ks_move; refine s_move rfl rfl ?_) | (apply ks_bin; refine s_bin rfl rfl rfl ?_; (((refine bb_of rfl ?_)))) | (apply ks_load; ((refine s_load rfl rfl ?_; (refine ld_cell rfl ?_)))) | (apply ks_asgn; refine s_asgn rfl rfl ?_) | (apply ks_field; (refine s_field (c_field0 rfl rfl) rfl ?_)) | (apply ks_nilc; refine s_nilc (y_nilCheck rfl rfl) rfl ?_) | (apply ks_store; ((refine c_store rfl rfl rfl rfl rfl rfl rfl ?_))))) | (apply sw_seq) | (apply sw_block) | (apply sw_region) | (refine sw_cd rfl ?_; ((apply gd_dec_t <;> intro hq <;> (try (exfalso; omega))))) | (apply at_thn) | (apply at_inb)))
      all_goals (skip)
      exact e_scf _ (by (exact .inl rfl)) rfl (fun _ hw => hw) ⟨sb, X, ab, cb, ad, cd, al, cl, hX, rfl, rfl⟩
    · rw [if_neg h1]
      refine sc_enter2 Tryz.func147 rfl rfl rfl rfl rfl ?_
      repeat' ((first | (apply g_sl; (first | (apply ks_nil; refine sl_nil ?_) | (apply ks_move; refine s_move rfl rfl ?_) | (apply ks_bin; refine s_bin rfl rfl rfl ?_; (((refine bb_of rfl ?_)))) | (apply ks_load; ((refine s_load rfl rfl ?_; (refine ld_cell rfl ?_)))) | (apply ks_asgn; refine s_asgn rfl rfl ?_) | (apply ks_field; (refine s_field (c_field0 rfl rfl) rfl ?_)) | (apply ks_nilc; refine s_nilc (y_nilCheck rfl rfl) rfl ?_) | (apply ks_fn; ((refine c_call rfl rfl rfl (cS _) rfl rfl ?_; rintro _ _ ⟨X1, a1, k1, hX1, rfl, rfl⟩))))) | (apply sw_seq) | (apply sw_block) | (apply sw_region) | (refine sw_cd rfl ?_; ((apply gd_dec_t <;> intro hq <;> (try (exfalso; omega))))) | (apply at_thn) | (apply at_inb)))
      all_goals (skip)
      exact e_scf _ (by (exact .inl rfl)) rfl (fun _ hw => hw) ⟨sb, X1, a1, k1, ad, cd, al, cl, hX1, rfl, rfl⟩
  · rw [Rc.t5 h]
    by_cases h1 : c = 255
    · rw [if_pos h1]
      refine sc_enter2 Tryz.func147 rfl rfl rfl rfl rfl ?_
      repeat' ((first | (apply g_sl; (first | (apply ks_nil; refine sl_nil ?_) | (apply ks_move; refine s_move rfl rfl ?_) | (apply ks_bin; refine s_bin rfl rfl rfl ?_; (((refine bb_of rfl ?_)))) | (apply ks_load; ((refine s_load rfl rfl ?_; (refine ld_cell rfl ?_)))) | (apply ks_asgn; refine s_asgn rfl rfl ?_) | (apply ks_field; (refine s_field (c_field0 rfl rfl) rfl ?_)) | (apply ks_nilc; refine s_nilc (y_nilCheck rfl rfl) rfl ?_) | (apply ks_fn; ((refine c_call rfl rfl rfl (cS4 _) rfl rfl ?_; rintro _ _ ⟨X1, a1, k1, hX1, rfl, rfl⟩))) | (apply ks_store; ((refine c_store rfl rfl rfl rfl rfl rfl rfl ?_))))) | (apply sw_seq) | (apply sw_block) | (apply sw_region) | (refine sw_cd rfl ?_; ((apply gd_dec_t <;> intro hq <;> (try (exfalso; omega))))) | (apply at_thn) | (apply at_inb)))
      all_goals (skip)
      exact e_scf _ (by (exact .inl rfl)) rfl (fun _ hw => hw) ⟨sb, X1, a1, k1, ad, cd, al, cl, hX1, rfl, rfl⟩
    · rw [if_neg h1]
      refine sc_enter2 Tryz.func147 rfl rfl rfl rfl rfl ?_
      repeat' ((first | (apply g_sl; (first | (apply ks_nil; refine sl_nil ?_) | (apply ks_move; refine s_move rfl rfl ?_) | (apply ks_bin; refine s_bin rfl rfl rfl ?_; (((refine bb_of rfl ?_)))) | (apply ks_load; ((refine s_load rfl rfl ?_; (refine ld_cell rfl ?_)))) | (apply ks_asgn; refine s_asgn rfl rfl ?_) | (apply ks_field; (refine s_field (c_field0 rfl rfl) rfl ?_)) | (apply ks_nilc; refine s_nilc (y_nilCheck rfl rfl) rfl ?_) | (apply ks_fn; ((refine c_call rfl rfl rfl (cE _) rfl rfl ?_; rintro _ _ ⟨sb1, X1, a0, k0, a1, k1, a2, k2, hX1, rfl, rfl⟩))))) | (apply sw_seq) | (apply sw_block) | (apply sw_region) | (refine sw_cd rfl ?_; ((apply gd_dec_t <;> intro hq <;> (try (exfalso; omega))))) | (apply at_thn) | (apply at_inb)))
      all_goals (skip)
      exact e_scf _ (by (exact .inl rfl)) rfl (fun _ hw => hw) ⟨sb1, X1, a0, k0, a1, k1, a2, k2, hX1, rfl, rfl⟩
end Go.Proofs.YtmbfechiallppaaGreatDoor
end
section
namespace Go.Proofs.YtmbfechiallppaaGreatDoor
open Go Go.RowKit Go.Fw Go.Sx
set_option maxRecDepth 100000
set_option maxHeartbeats 1000000
abbrev wireV (m c o : Int) (d : ByteArray) (ov : Bool) : Value := .agg #[.int .i64 m, .int .i64 c, .int .i64 o, .string d, .bool ov]
attribute [local irreducible] SW SL SQ AtQ SV SC BB LD PK Yields SO SOT SOA SY
end Go.Proofs.YtmbfechiallppaaGreatDoor
namespace Go.Proofs.YtmbfechiallppaaGreatDoor
open Go Go.RowKit Go.Fw Go.Sx
set_option maxRecDepth 100000
set_option maxHeartbeats 1000000
def r0 : Rc := ⟨0, 0, 0, false, [], [], []⟩
abbrev wireR (q : Rc) : Value := wireV q.mode q.cmd q.opt (strOfNums q.buf) q.over
attribute [local irreducible] SW SL SQ AtQ SV SC BB LD PK Yields SO SOT SOA SY
end Go.Proofs.YtmbfechiallppaaGreatDoor
end
section
namespace Go.Fw
open Go Go.RowKit Go.Sx
theorem tok_sizes (r : Rc) (t : Tk) : (r.tok t).data.length ≤ r.data.length ∧ (r.tok t).out.length ≤ r.out.length + 2 := by
  unfold Rc.tok Rc.flush
  split
  · exact ⟨Nat.le_refl _, by simp⟩
  · exact ⟨Nat.zero_le _, by simp⟩
theorem take_ok {r : Rc} (hm : 0 ≤ r.mode ∧ r.mode ≤ 5) (hb : r.buf.length ≤ 4096) (c : Int) : (0 ≤ (r.take c).mode ∧ (r.take c).mode ≤ 5) ∧ (r.take c).buf.length ≤ 4096 ∧ (r.take c).data.length ≤ r.data.length + 1 ∧ (r.take c).out.length ≤ r.out.length + 2 := by
  have sub : ∀ q : Rc, q.buf.length ≤ 4096 → (q.sub c).mode = q.mode ∧ (q.sub c).buf.length ≤ 4096 ∧ (q.sub c).data = q.data ∧ (q.sub c).out = q.out := fun q hq => by
    unfold Rc.sub
    split
    · exact ⟨rfl, Nat.zero_le _, rfl, rfl⟩
    · split
      · exact ⟨rfl, hq, rfl, rfl⟩
      · refine ⟨rfl, ?_, rfl, rfl⟩
        dsimp only
        rw [List.length_append, List.length_singleton]; omega
  have tk := tok_sizes r
  have tb : ∀ t, (r.tok t).buf = r.buf := fun t => (tok_wire r t).2.2.2.2
  rcases (by omega : r.mode = 0 ∨ r.mode = 1 ∨ r.mode = 2 ∨ r.mode = 3 ∨ r.mode = 4 ∨ r.mode = 5) with h | h | h | h | h | h
  · rw [Rc.t0 h]
    split
    · exact ⟨⟨by dsimp only; omega, by dsimp only; omega⟩, hb, Nat.le_succ _, by dsimp only; omega⟩
    · exact ⟨hm, hb, by dsimp only; rw [List.length_append, List.length_singleton]; exact Nat.le_refl _, by dsimp only; omega⟩
  · rw [Rc.t1 h]
    unfold Rc.com
    split
    · exact ⟨⟨by dsimp only; omega, by dsimp only; omega⟩, hb, by dsimp only; rw [List.length_append, List.length_singleton]; exact Nat.le_refl _, by dsimp only; omega⟩
    split
    · exact ⟨⟨by dsimp only; omega, by dsimp only; omega⟩, hb, Nat.le_succ _, by dsimp only; omega⟩
    split
    · exact ⟨⟨by dsimp only; omega, by dsimp only; omega⟩, hb, Nat.le_succ _, by dsimp only; omega⟩
    split
    · exact ⟨⟨by dsimp only; omega, by dsimp only; omega⟩, by dsimp only; rw [tb]; exact hb, by have := tk (2, c, 0, noB); dsimp only; omega, (tk (2, c, 0, noB)).2⟩
    · exact ⟨⟨by dsimp only; omega, by dsimp only; omega⟩, by dsimp only; rw [tb]; exact hb, by have := tk (5, c, 0, noB); dsimp only; omega, (tk (5, c, 0, noB)).2⟩
  · rw [Rc.t2 h]
    exact ⟨⟨by dsimp only; omega, by dsimp only; omega⟩, by dsimp only; rw [tb]; exact hb, by have := tk (3, r.cmd, c, noB); dsimp only; omega, (tk (3, r.cmd, c, noB)).2⟩
  · rw [Rc.t3 h]
    exact ⟨⟨by dsimp only; omega, by dsimp only; omega⟩, hb, Nat.le_succ _, by dsimp only; omega⟩
  · rw [Rc.t4 h]
    split
    · exact ⟨⟨by dsimp only; omega, by dsimp only; omega⟩, hb, Nat.le_succ _, by dsimp only; omega⟩
    · obtain ⟨h1, h2, h3, h4⟩ := sub r hb
      exact ⟨by rw [h1]; exact hm, h2, by rw [h3]; omega, by rw [h4]; omega⟩
  · rw [Rc.t5 h]
    split
    · obtain ⟨h1, h2, h3, h4⟩ := sub { r with mode := 4 } hb
      exact ⟨by rw [h1]; exact ⟨by dsimp only; omega, by dsimp only; omega⟩, h2, by rw [h3]; exact Nat.le_succ _, by rw [h4]; dsimp only; omega⟩
    · unfold Rc.fin
      have := tk (r.finT c)
      exact ⟨⟨by dsimp only; omega, by dsimp only; omega⟩, Nat.zero_le _, by dsimp only; omega, this.2⟩
theorem runs_ok {r : Rc} (hm : 0 ≤ r.mode ∧ r.mode ≤ 5) (hb : r.buf.length ≤ 4096) (l : List Int) : (0 ≤ (l.foldl Rc.take r).mode ∧ (l.foldl Rc.take r).mode ≤ 5) ∧ (l.foldl Rc.take r).buf.length ≤ 4096 ∧ (l.foldl Rc.take r).data.length ≤ r.data.length + l.length ∧ (l.foldl Rc.take r).out.length ≤ r.out.length + 2 * l.length := by
  induction l generalizing r with
  | nil => exact ⟨hm, hb, Nat.le_refl _, Nat.le_refl _⟩
  | cons c l ih =>
    obtain ⟨h1, h2, h3, h4⟩ := take_ok hm hb c
    obtain ⟨i1, i2, i3, i4⟩ := ih h1 h2
    rw [List.foldl_cons, List.length_cons]
    exact ⟨i1, i2, by omega, by omega⟩
/-- Is a wire right? -/
def wireOk (m c o : Int) (z : Nat) (v : Int) : Prop := (0 ≤ m ∧ m ≤ 5) ∧ ((m = 2 ∧ 251 ≤ c ∧ c ≤ 254) ∨ (m ≠ 2 ∧ c = 0)) ∧ (((m = 4 ∨ m = 5) ∧ 0 ≤ o ∧ o ≤ 255 ∧ z ≤ 4096 ∧ (v = 0 ∨ z = 0)) ∨ (m ≠ 4 ∧ m ≠ 5 ∧ o = 0 ∧ z = 0 ∧ v = 0))
instance (m c o : Int) (z : Nat) (v : Int) : Decidable (wireOk m c o z v) := by unfold wireOk; exact inferInstance
def wireE (m c o : Int) (z : Nat) (v : Int) : Int := if wireOk m c o z v then 0 else 4
def ovI (ov : Bool) : Int := if ov = true then 1 else 0
theorem wireE_ok {m c o : Int} {z : Nat} {v : Int} (h : wireOk m c o z v) : wireE m c o z v = 0 := if_pos h
theorem wireE_no {m c o : Int} {z : Nat} {v : Int} (h : ¬ wireOk m c o z v) : wireE m c o z v = 4 := if_neg h
end Go.Fw
namespace Go.Proofs.YtmbfechiallppaaGreatDoor
open Go Go.RowKit Go.Fw Go.Sx
set_option maxRecDepth 100000
set_option maxHeartbeats 1000000
attribute [local irreducible] SW SL SQ AtQ SV SC BB LD PK Yields SO SOT SOA SY SP SPT SPA
theorem iacCheck_sv (G : Ctx) (H : List Ent) (m c o : Int) (d : ByteArray) (ov : Bool) : SV Tryz.prog G 51 [wireV m c o d ov] H (.int .i64 (wireE m c o d.size (ovI ov))) := by
  have h0 : (⟨#[]⟩ : ByteArray).size = 0 := rfl
  have hE : ByteArray.empty = (⟨#[]⟩ : ByteArray) := rfl
  by_cases hd0 : d = ⟨#[]⟩
  · subst hd0
    cases ov
    · show SV _ _ _ _ _ (.int .i64 (wireE m c o _ 0))
      refine sv_enter1 Tryz.func51 rfl rfl rfl rfl rfl ?_
      repeat' ((first | (apply g_sl; (first | (apply ks_nil; refine sl_nil ?_) | (apply ks_move; refine s_move rfl rfl ?_) | (apply ks_bin; refine s_bin rfl rfl rfl ?_; (first | (refine bb_seq ?_) | ((refine bb_of rfl ?_)))) | (apply ks_load; ((refine s_load rfl rfl ?_; (refine ld_cell rfl ?_)))) | (apply ks_asgn; refine s_asgn rfl rfl ?_) | (apply ks_pick; refine s_pick rfl rfl ?_; (first | (apply kp_t; refine pk_t rfl ?_) | (apply kp_f; refine pk_f rfl ?_))) | (apply ks_field; (refine s_field (c_field0 rfl rfl) rfl ?_)) | (apply ks_un; refine s_un (y_un rfl rfl rfl) rfl ?_) | (apply ks_bi; (refine s_call (c_len_str rfl rfl) rfl ?_)) | (apply ks_box; refine c_box rfl rfl rfl rfl rfl rfl (fun _ => ?_)) | (apply ks_guard; (first | (refine sl_gd rfl rfl rfl rfl ?_; (first | (apply gd_t) | (apply gd_ft) | (apply gd_tf) | (apply gd_dec_t <;> intro hq <;> (try (exfalso; omega))) | (apply gd_dec_f <;> intro hq <;> (try (exfalso; omega))))) | refine sl_skip_u rfl rfl rfl rfl rfl rfl ?_)))) | (apply sw_seq) | (apply sw_skip) | (apply sw_ret) | (apply sw_region) | (refine sw_cd rfl ?_; (first | (apply gd_t) | (apply gd_ft) | (apply gd_dec_t <;> intro hq <;> (try (exfalso; omega))))) | (apply at_thn) | (apply at_thn_ret)))
      all_goals (try simp only [decide_eq_true_eq, decide_eq_false_iff_not, not_true_eq_false, not_false_eq_true, and_true, and_false, true_and, false_and, hE, Bool.true_eq_false, Bool.false_eq_true] at *)
      all_goals (first | (refine e_sv (by (exact .inr rfl)) rfl (by repeat ((first | exact List.Sublist.refl _ | refine List.Sublist.cons _ ?_))) ?_; rw [wireE_ok (by unfold wireOk; omega)] <;> rfl) | (refine e_sv (by (exact .inr rfl)) rfl (by repeat ((first | exact List.Sublist.refl _ | refine List.Sublist.cons _ ?_))) ?_; rw [wireE_no (by unfold wireOk; omega)] <;> rfl))
    · show SV _ _ _ _ _ (.int .i64 (wireE m c o _ 1))
      refine sv_enter1 Tryz.func51 rfl rfl rfl rfl rfl ?_
      repeat' ((first | (apply g_sl; (first | (apply ks_nil; refine sl_nil ?_) | (apply ks_move; refine s_move rfl rfl ?_) | (apply ks_bin; refine s_bin rfl rfl rfl ?_; (first | (refine bb_seq ?_) | ((refine bb_of rfl ?_)))) | (apply ks_load; ((refine s_load rfl rfl ?_; (refine ld_cell rfl ?_)))) | (apply ks_asgn; refine s_asgn rfl rfl ?_) | (apply ks_pick; refine s_pick rfl rfl ?_; (first | (apply kp_t; refine pk_t rfl ?_) | (apply kp_f; refine pk_f rfl ?_))) | (apply ks_field; (refine s_field (c_field0 rfl rfl) rfl ?_)) | (apply ks_un; refine s_un (y_un rfl rfl rfl) rfl ?_) | (apply ks_bi; (refine s_call (c_len_str rfl rfl) rfl ?_)) | (apply ks_box; refine c_box rfl rfl rfl rfl rfl rfl (fun _ => ?_)) | (apply ks_guard; (first | (refine sl_gd rfl rfl rfl rfl ?_; (first | (apply gd_t) | (apply gd_ft) | (apply gd_tf) | (apply gd_dec_t <;> intro hq <;> (try (exfalso; omega))) | (apply gd_dec_f <;> intro hq <;> (try (exfalso; omega))))) | refine sl_skip_u rfl rfl rfl rfl rfl rfl ?_)))) | (apply sw_seq) | (apply sw_skip) | (apply sw_ret) | (apply sw_region) | (refine sw_cd rfl ?_; (first | (apply gd_t) | (apply gd_ft) | (apply gd_dec_t <;> intro hq <;> (try (exfalso; omega))))) | (apply at_thn) | (apply at_thn_ret)))
      all_goals (try simp only [decide_eq_true_eq, decide_eq_false_iff_not, not_true_eq_false, not_false_eq_true, and_true, and_false, true_and, false_and, hE, Bool.true_eq_false, Bool.false_eq_true] at *)
      all_goals (first | (refine e_sv (by (exact .inr rfl)) rfl (by repeat ((first | exact List.Sublist.refl _ | refine List.Sublist.cons _ ?_))) ?_; rw [wireE_ok (by unfold wireOk; omega)] <;> rfl) | (refine e_sv (by (exact .inr rfl)) rfl (by repeat ((first | exact List.Sublist.refl _ | refine List.Sublist.cons _ ?_))) ?_; rw [wireE_no (by unfold wireOk; omega)] <;> rfl))
  · have hz : 0 < d.size := Nat.pos_of_ne_zero fun e => hd0 (size_nil e)
    cases ov
    · show SV _ _ _ _ _ (.int .i64 (wireE m c o _ 0))
      refine sv_enter1 Tryz.func51 rfl rfl rfl rfl rfl ?_
      repeat' ((first | (apply g_sl; (first | (apply ks_nil; refine sl_nil ?_) | (apply ks_move; refine s_move rfl rfl ?_) | (apply ks_bin; refine s_bin rfl rfl rfl ?_; (first | (refine bb_seq ?_) | ((refine bb_of rfl ?_)))) | (apply ks_load; ((refine s_load rfl rfl ?_; (refine ld_cell rfl ?_)))) | (apply ks_asgn; refine s_asgn rfl rfl ?_) | (apply ks_pick; refine s_pick rfl rfl ?_; (first | (apply kp_t; refine pk_t rfl ?_) | (apply kp_f; refine pk_f rfl ?_))) | (apply ks_field; (refine s_field (c_field0 rfl rfl) rfl ?_)) | (apply ks_un; refine s_un (y_un rfl rfl rfl) rfl ?_) | (apply ks_bi; (refine s_call (c_len_str rfl rfl) rfl ?_)) | (apply ks_box; refine c_box rfl rfl rfl rfl rfl rfl (fun _ => ?_)) | (apply ks_guard; (first | (refine sl_gd rfl rfl rfl rfl ?_; (first | (apply gd_t) | (apply gd_ft) | (apply gd_tf) | (apply gd_dec_t <;> intro hq <;> (try (exfalso; omega))) | (apply gd_dec_f <;> intro hq <;> (try (exfalso; omega))))) | refine sl_skip_u rfl rfl rfl rfl rfl rfl ?_)))) | (apply sw_seq) | (apply sw_skip) | (apply sw_ret) | (apply sw_region) | (refine sw_cd rfl ?_; (first | (apply gd_t) | (apply gd_ft) | (apply gd_dec_t <;> intro hq <;> (try (exfalso; omega))))) | (apply at_thn) | (apply at_thn_ret)))
      all_goals (try simp only [decide_eq_true_eq, decide_eq_false_iff_not, not_true_eq_false, not_false_eq_true, and_true, and_false, true_and, false_and, hE, Bool.true_eq_false, Bool.false_eq_true, hd0] at *)
      all_goals (first | (refine e_sv (by (exact .inr rfl)) rfl (by repeat ((first | exact List.Sublist.refl _ | refine List.Sublist.cons _ ?_))) ?_; rw [wireE_ok (by unfold wireOk; omega)] <;> rfl) | (refine e_sv (by (exact .inr rfl)) rfl (by repeat ((first | exact List.Sublist.refl _ | refine List.Sublist.cons _ ?_))) ?_; rw [wireE_no (by unfold wireOk; omega)] <;> rfl))
    · show SV _ _ _ _ _ (.int .i64 (wireE m c o _ 1))
      refine sv_enter1 Tryz.func51 rfl rfl rfl rfl rfl ?_
      repeat' ((first | (apply g_sl; (first | (apply ks_nil; refine sl_nil ?_) | (apply ks_move; refine s_move rfl rfl ?_) | (apply ks_bin; refine s_bin rfl rfl rfl ?_; (first | (refine bb_seq ?_) | ((refine bb_of rfl ?_)))) | (apply ks_load; ((refine s_load rfl rfl ?_; (refine ld_cell rfl ?_)))) | (apply ks_asgn; refine s_asgn rfl rfl ?_) | (apply ks_pick; refine s_pick rfl rfl ?_; (first | (apply kp_t; refine pk_t rfl ?_) | (apply kp_f; refine pk_f rfl ?_))) | (apply ks_field; (refine s_field (c_field0 rfl rfl) rfl ?_)) | (apply ks_un; refine s_un (y_un rfl rfl rfl) rfl ?_) | (apply ks_bi; (refine s_call (c_len_str rfl rfl) rfl ?_)) | (apply ks_box; refine c_box rfl rfl rfl rfl rfl rfl (fun _ => ?_)) | (apply ks_guard; (first | (refine sl_gd rfl rfl rfl rfl ?_; (first | (apply gd_t) | (apply gd_ft) | (apply gd_tf) | (apply gd_dec_t <;> intro hq <;> (try (exfalso; omega))) | (apply gd_dec_f <;> intro hq <;> (try (exfalso; omega))))) | refine sl_skip_u rfl rfl rfl rfl rfl rfl ?_)))) | (apply sw_seq) | (apply sw_skip) | (apply sw_ret) | (apply sw_region) | (refine sw_cd rfl ?_; (first | (apply gd_t) | (apply gd_dec_t <;> intro hq <;> (try (exfalso; omega))) | (apply gd_not_t <;> intro hq))) | (apply at_thn) | (apply at_thn_ret)))
      all_goals (try simp only [decide_eq_true_eq, decide_eq_false_iff_not, not_true_eq_false, not_false_eq_true, and_true, and_false, true_and, false_and, hE, Bool.true_eq_false, Bool.false_eq_true, hd0] at *)
      all_goals ((refine e_sv (by (exact .inr rfl)) rfl (by repeat ((first | exact List.Sublist.refl _ | refine List.Sublist.cons _ ?_))) ?_; rw [wireE_no (by unfold wireOk; omega)] <;> rfl))
end Go.Proofs.YtmbfechiallppaaGreatDoor
namespace Go.Proofs.YtmbfechiallppaaGreatDoor
open Go Go.RowKit Go.Fw Go.Sx
set_option maxRecDepth 100000
set_option maxHeartbeats 1000000
def feedR (m c o : Int) (d : ByteArray) (ov : Bool) (s : ByteArray) : Rc := ((nums s).foldl Rc.take ⟨m, c, o, ov, nums d, [], []⟩).flush
attribute [local irreducible] SW SL SQ AtQ SV SC BB LD PK Yields SO SOT SOA SY SP SPT SPA
theorem feed_ok (G : Ctx) (H : List Ent) (m c o : Int) (d : ByteArray) (ov : Bool) (s : ByteArray) (he : wireE m c o d.size (ovI ov) = 0) (hs : s.size ≤ 2000000) : SC Tryz.prog G 97 [wireV m c o d ov, .string s] H (fun v H' => ∃ a' c', v = .tuple #[wireR (feedR m c o d ov s), .slice a' (feedR m c o d ov s).out.length c', .int .i64 0] ∧ H' = .own 200 4 a' (feedR m c o d ov s).out.length c' (toks (feedR m c o d ov s).out) :: H) := by
  have cC := fun H => iacCheck_sv G H m c o d ov
  rw [he] at cC
  have hok : wireOk m c o d.size (ovI ov) := by
    unfold wireE at he
    split at he
    · assumption
    · cases he
  have hdz : d.size ≤ 4096 := by unfold wireOk at hok; omega
  have hm05 : 0 ≤ m ∧ m ≤ 5 := by unfold wireOk at hok; omega
  have hro := fun i => runs_ok (r := ⟨m, c, o, ov, nums d, [], []⟩) hm05 (by dsimp only; rw [nums_length]; exact hdz) ((nums s).take i)
  have htake : (nums s).take s.size = nums s := by rw [← nums_length]; exact List.take_length
  have hst : ∀ i, i < s.size → ((nums s).take (i + 1)).foldl Rc.take ⟨m, c, o, ov, nums d, [], []⟩ = (((nums s).take i).foldl Rc.take ⟨m, c, o, ov, nums d, [], []⟩).take ((nums s).getD i 0) := fun i h => by
    rw [List.take_succ_eq_append_getElem (by rw [nums_length]; exact h), List.foldl_append, List.getD_eq_getElem?_getD, List.getElem?_eq_getElem (by rw [nums_length]; exact h)]
    rfl
  have hz : ((nums s).take 0).foldl Rc.take ⟨m, c, o, ov, nums d, [], []⟩ = ⟨m, c, o, ov, nums d, [], []⟩ := rfl
  unfold feedR
  rw [← htake]
  obtain ⟨T, hT⟩ : ∃ T : Nat → Rc, ∀ i, ((nums s).take i).foldl Rc.take ⟨m, c, o, ov, nums d, [], []⟩ = T i := ⟨_, fun _ => rfl⟩
  simp only [hT] at *
  have Hro := Lib.hid hro
  have Hst := Lib.hid hst
  clear hro hst hT htake hok he
  refine sc_enter2 Tryz.func97 rfl rfl rfl rfl rfl ?_
  repeat' ((first | (apply g_sl; (first | (apply ks_nil; refine sl_nil ?_) | (apply ks_move; refine s_move rfl rfl ?_) | (apply ks_bin; refine s_bin rfl rfl rfl ?_; ((((refine bb_of rfl ?_))))) | (apply ks_load; ((refine s_load rfl rfl ?_; (first | refine ld_cell rfl ?_ | refine ld_whole rfl ?_)))) | (apply ks_asgn; refine s_asgn rfl rfl ?_) | (apply ks_field; (refine s_field (c_field0 rfl rfl) rfl ?_)) | (apply ks_build; (refine s_build (c_build rfl rfl rfl) rfl ?_)) | (apply ks_conv; (((refine c_convB rfl rfl rfl (by omega) rfl rfl (fun _ _ _ _ => ?_))))) | (apply ks_fn; (refine c_callv rfl rfl rfl (cC _) rfl rfl ?_)) | (apply ks_bi; ((refine s_call (c_len_str rfl rfl) rfl ?_))) | (apply ks_box; refine c_box rfl rfl rfl rfl rfl rfl (fun _ => ?_)) | (apply ks_alloc; refine c_alloc rfl rfl rfl rfl (fun _ => ?_)))) | (apply sw_seq) | (apply sw_skip) | (apply sw_block) | (apply sw_region) | (refine sw_cd rfl ?_; ((apply gd_ft))) | (apply at_thn)))
  all_goals (skip)
  rename_i b2 b4 X0 a0 k0 hX0 b
  refine sw_loopg (α := Nat × ByteArray × Ent × (Option Addr × Nat) × (Option Addr × Nat) × (Option Addr × Nat)) (fun g => [(1, .string s), (4, .pointer (some ⟨b4, 0, none⟩)), (8, .pointer (some ⟨b, 0, none⟩)), (23, .int .i64 s.size), (24, .int .i64 g.1)])
    (fun g => rcH b (T g.1) g.2.1 g.2.2.1 g.2.2.2.1.1 g.2.2.2.1.2 g.2.2.2.2.1.1 g.2.2.2.2.1.2 g.2.2.2.2.2.1 g.2.2.2.2.2.2 (.blk b4 23 [.int .i64 0, .int .i64 0, .int .i64 0, .string ⟨#[]⟩, .bool false] :: H))
    (fun g => g.1 ≤ s.size ∧ BufE 5 g.2.2.1 g.2.2.2.1.1 (T g.1).buf.length g.2.2.2.1.2 (T g.1).buf) (fun g => s.size - g.1) (0, d, X0, (a0, k0), (none, 0), (none, 0)) ⟨Nat.zero_le _, by dsimp only; rw [hz, nums_length]; exact hX0⟩ (by repeat ((first | exact Le.nil _ | refine Le.cons (by (rfl)) ?_))) (by dsimp only; rw [hz]; unfold rcH rcC; dsimp only; rw [nums_length]; exact (fun _ hw => ((hw.nilrow _ _).nilrow _ _).subs (by repeat ((first | refine Subs.cons (by repeat constructor) ?_ | exact Subs.sub (by repeat ((first | exact List.Sublist.refl _ | refine List.Sublist.cons _ ?_)))))))) ?_
  rintro ⟨i, sb, X, ⟨ab, cb⟩, ⟨ad, cd⟩, ⟨al, cl⟩⟩ ⟨hi, hX⟩
  dsimp only at hi hX ⊢
  obtain ⟨h1, h2, h3, h4⟩ := Hro.out i
  rw [List.length_take, nums_length] at h3 h4
  simp only [List.length_nil, Nat.zero_add] at h3 h4
  by_cases hlt : (i : Int) < s.size
  · have hst := Hst.out i (by omega)
    have hb : 0 ≤ (nums s).getD i 0 ∧ (nums s).getD i 0 ≤ 255 := by
      have hx : i < (nums s).length := by rw [nums_length]; omega
      rw [List.getD_eq_getElem?_getD, List.getElem?_eq_getElem hx]
      exact nums_bound s _ (List.getElem_mem hx)
    have hx0 : (nums s).getD (i : Int).toNat 0 = (nums s).getD i 0 := rfl
    generalize (nums s).getD i 0 = x at *
    have c1 := fun H => rcTake_sc G H b (T i) x hb sb X ab cb ad cd al cl hX h1 h2 (by omega) (by omega)
    rw [← hst] at c1
    clear cC hz hst
    repeat' ((first | (apply g_sl; (first | (apply ks_nil; refine sl_nil ?_) | (apply ks_move; refine s_move rfl rfl ?_) | (apply ks_bin; refine s_bin rfl rfl rfl ?_; ((((first | (apply kb_add; (refine bb_add ⟨by omega, by omega⟩ ?_)) | refine bb_of rfl ?_))))) | (apply ks_asgn; refine s_asgn rfl rfl ?_) | (apply ks_index; (((refine s_index (c_indexNumV hx0 rfl rfl rfl (by omega) (by omega)) rfl ?_)))) | (apply ks_fn; ((refine c_call rfl rfl rfl (c1 _) rfl rfl ?_; rintro _ _ ⟨sb1, X1, a1, k1, a2, k2, a3, k3, hX1, rfl, rfl⟩))))) | (apply sw_seq) | (apply sw_skip) | (apply sw_block) | (apply sw_region) | (refine sw_cd rfl ?_; ((apply gd_dec_t <;> intro hq <;> (try (exfalso; omega))))) | (apply at_thn) | (apply at_inb)))
    exact at_meet (i + 1, sb1, X1, (a1, k1), (a2, k2), (a3, k3)) ⟨⟨by dsimp only; omega, hX1⟩, by dsimp only; omega⟩ (by repeat ((first | exact Le.nil _ | refine Le.cons (by (rfl)) ?_))) (fun _ hw => hw)
  · obtain rfl : s.size = i := by omega
    have c1 := fun H => rcFlush_sc G H b (T s.size) sb X ab cb ad cd al cl (by omega)
    have hqb : (T s.size).flush.buf = (T s.size).buf := by unfold Rc.flush; split <;> rfl
    rw [← hqb] at hX
    generalize (T s.size).flush = q at *
    haveI := fun H => hX.rd (G := G) H
    repeat' ((first | (apply g_sl; (first | (apply ks_nil; refine sl_nil ?_) | (apply ks_move; refine s_move rfl rfl ?_) | (apply ks_bin; refine s_bin rfl rfl rfl ?_; ((((refine bb_of rfl ?_))))) | (apply ks_load; ((refine s_load rfl rfl ?_; (refine ld_cell rfl ?_)))) | (apply ks_field; (refine s_field (c_field0 rfl rfl) rfl ?_)) | (apply ks_conv; (((refine s_conv (c_convBs (xs := q.buf) rfl rfl rfl rfl) rfl ?_)))) | (apply ks_nilc; refine s_nilc (y_nilCheck rfl rfl) rfl ?_) | (apply ks_fn; ((refine c_call rfl rfl rfl (c1 _) rfl rfl ?_; rintro _ _ ⟨a1, k1, a2, k2, rfl, rfl⟩))) | (apply ks_store; ((refine c_store rfl rfl rfl rfl rfl rfl rfl ?_))))) | (apply sw_seq) | (apply sw_exit) | ((fail_if_success (refine g_reg (id := 12) ?_)); apply sw_region) | (refine sw_cd rfl ?_; ((apply gd_dec_t <;> intro hq <;> (try (exfalso; omega))))) | (apply at_thn) | (apply at_thn_exit) | (apply at_inb_exit)))
    all_goals (skip)
    refine c_drawno (.blk b 245 [.int .i64 q.mode, .int .i64 q.cmd, .int .i64 q.opt, .string (strOfNums q.buf), .bool q.over, .slice ab q.buf.length cb, .slice a1 q.data.length k1, .slice a2 q.out.length k2] :: H) (fun _ hw => hw.subs (by repeat ((first | refine Subs.cons (by repeat constructor) ?_ | exact Subs.sub (by repeat ((first | exact List.Sublist.refl _ | refine List.Sublist.cons _ ?_))))))) ?_
    repeat' ((first | (apply g_sl; (first | (apply ks_nil; refine sl_nil ?_) | (apply ks_store; ((refine c_storew rfl rfl rfl rfl rfl rfl rfl rfl ?_))))) | (apply g_atso; refine so_back (k := 0) (fun _ hw => hw.subs (by repeat ((first | refine Subs.cons (by repeat constructor) ?_ | exact Subs.sub (by repeat ((first | exact List.Sublist.refl _ | refine List.Sublist.cons _ ?_))))))) ?_) | (apply g_sot; (first | (refine sot_skip rfl ?_) | (refine sot_take rfl rfl rfl rfl (by kernel_rfl) (by decide +kernel) (by decide +kernel) ?_; ((first | (apply ky_move; refine sy_val (y_move rfl rfl) ?_) | (apply ky_load; ((refine sy_load rfl ?_; (first | refine ld_cell rfl ?_ | refine ld_part rfl rfl ?_)))) | (apply ky_asgn; refine sy_val (y_assign rfl rfl) ?_) | (apply ky_field; (refine sy_val (c_field0 rfl rfl) ?_)) | (apply ky_nilc; refine sy_val (y_nilCheck rfl rfl) ?_)))) | (refine sot_next rfl ?_) | (refine so_done (by decide +kernel) ?_) | (refine sot_all (by kernel_rfl) ?_))) | (apply g_soa; (first | (refine soa_end rfl) | (refine soa_no (by decide +kernel) ?_) | (refine soa_yes rfl ?_ ?_))) | (apply sw_ret) | (apply at_thn)))
    exact e_scc (.own 200 4 a2 q.out.length k2 (toks q.out) :: H) (by (exact .inr rfl)) rfl rfl rfl (fun _ hw => hw.subs (by repeat ((first | refine Subs.cons (by repeat constructor) ?_ | exact Subs.sub (by repeat ((first | exact List.Sublist.refl _ | refine List.Sublist.cons _ ?_))))))) ⟨_, _, rfl, rfl⟩
end Go.Proofs.YtmbfechiallppaaGreatDoor
namespace Go.Proofs.YtmbfechiallppaaGreatDoor
open Go Go.RowKit Go.Fw Go.Sx
end Go.Proofs.YtmbfechiallppaaGreatDoor
end
section
namespace Go.Proofs.YtmbfechiallppaaGreatDoor
open Go Go.RowKit Go.Fw Go.Sx
set_option maxRecDepth 100000
set_option maxHeartbeats 1000000
attribute [local irreducible] SW SL SQ AtQ SV SC BB LD PK Yields SO SOT SOA SY
theorem esc_take (L : List Int) (i : Nat) (h : i < L.length) : escI (L.take (i + 1)) = escI (L.take i) ++ (if L.getD i 0 ≤ 3 then [2, L.getD i 0] else [L.getD i 0]) := by
  rw [List.take_succ_eq_append_getElem h, escI_app, List.getD_eq_getElem?_getD, List.getElem?_eq_getElem h]
  simp [escI]
theorem envEsc_sc (G : Ctx) (H : List Ent) (X : List Int) (s : ByteArray) {vs : List Value} (a : Option Addr) (n c : Nat) (hv : vs = octs X) (hn : n = X.length) (hm : n ≤ 1000000) (hs : s.size ≤ 1000000) : SC Tryz.prog G 92 [.slice a n c, .string s] (.own 5 1 a n c vs :: H) (fun v H' => ∃ a' c', v = .slice a' (X ++ escI (nums s)).length c' ∧ H' = .own 5 1 a' (X ++ escI (nums s)).length c' (octs (X ++ escI (nums s))) :: H) := by
  subst hv hn
  refine sc_enter2 Tryz.func92 rfl rfl rfl rfl rfl ?_
  repeat' ((first | (apply g_sl; (first | (apply ks_nil; refine sl_nil ?_) | (apply ks_move; refine s_move rfl rfl ?_) | (apply ks_asgn; refine s_asgn rfl rfl ?_) | (apply ks_bi; (refine s_call (c_len_str rfl rfl) rfl ?_)))) | (apply sw_seq) | (apply sw_block) | (apply sw_region) | (apply at_thn)))
  refine sw_loopg (α := Nat × Option Addr × Nat) (fun g => [(0, .slice g.2.1 (X ++ escI ((nums s).take g.1)).length g.2.2), (1, .string s), (7, .int .i64 s.size), (8, .int .i64 g.1)])
    (fun g => .own 5 1 g.2.1 (X ++ escI ((nums s).take g.1)).length g.2.2 (octs (X ++ escI ((nums s).take g.1))) :: H)
    (fun g => g.1 ≤ s.size) (fun g => s.size - g.1) (0, a, c) (Nat.zero_le _) (by simp only [List.take_zero, escI, List.flatMap_nil, List.append_nil]; exact (by repeat ((first | exact Le.nil _ | refine Le.cons (by (rfl)) ?_)))) (by simp only [List.take_zero, escI, List.flatMap_nil, List.append_nil]; exact (fun _ hw => hw.subs (by repeat ((first | refine Subs.cons (by repeat constructor) ?_ | exact Subs.sub (by repeat ((exact List.Sublist.refl _)))))))) ?_
  rintro ⟨i, ao, co⟩ hi
  dsimp only at hi ⊢
  by_cases hlt : (i : Int) < s.size
  · have b1 := nums_lt s i
    have hxd : (nums s).getD (i : Int).toNat 0 = (nums s).getD i 0 := rfl
    have htk := esc_take (nums s) i (by rw [nums_length]; omega)
    have hel : (escI ((nums s).take i)).length ≤ 2 * i := by have := escI_len ((nums s).take i); rw [List.length_take] at this; omega
    have hbl : (X ++ escI ((nums s).take i)).length ≤ 3000000 := by rw [List.length_append]; omega
    generalize escI ((nums s).take i) = E at *
    generalize (nums s).getD i 0 = x at *
    have Htk := Lib.hid htk
    have Hxd := Lib.hid hxd
    clear htk hxd
    repeat' ((first | (apply g_sl; (first | (apply ks_nil; refine sl_nil ?_) | (apply ks_move; refine s_move rfl rfl ?_) | (apply ks_bin; refine s_bin rfl rfl rfl ?_; (((first | (apply kb_add; (refine bb_add ⟨by omega, by omega⟩ ?_)) | refine bb_of rfl ?_)))) | (apply ks_asgn; refine s_asgn rfl rfl ?_) | (apply ks_index; ((refine s_index (c_indexNumV Hxd.out rfl rfl rfl (by omega) (by omega)) rfl ?_))) | (apply ks_bi; (refine c_append rfl rfl rfl rfl (by (rfl)) (by (rfl)) (by omega) rfl rfl (fun _ _ => ?_))) | (apply ks_bs; (refine c_buildSlice rfl rfl rfl rfl rfl rfl rfl rfl rfl rfl (fun _ => ?_))))) | (apply sw_seq) | (apply sw_skip) | (apply sw_block) | (apply sw_region) | (refine sw_cd rfl ?_; ((apply gd_dec_t <;> intro hq <;> (try (exfalso; omega))))) | (apply at_thn) | (apply at_inb)))
    · rename_i bx1 a1 c1 bx ax cx
      have e : escI ((nums s).take (i + 1)) = E ++ [2, x] := by rw [Htk.out, if_pos (by omega)]
      refine at_meet (i + 1, ax, cx) ⟨by dsimp only; omega, by dsimp only; omega⟩ ?_ ?_
      · dsimp only
        rw [e, show (X ++ (E ++ [2, x])).length = (X ++ E).length + 1 + 1 from by simp; omega]
        exact (by repeat ((first | exact Le.nil _ | refine Le.cons (by (rfl)) ?_)))
      · dsimp only
        rw [e, show (X ++ (E ++ [2, x])).length = (X ++ E).length + 1 + 1 from by simp; omega, show octs (X ++ (E ++ [2, x])) = octs (X ++ E) ++ [.int .u8 2] ++ [.int .u8 x] from by simp [octs]]
        exact (fun _ hw => hw.subs (by repeat ((first | refine Subs.cons (by repeat constructor) ?_ | exact Subs.sub (by repeat ((first | exact List.Sublist.refl _ | refine List.Sublist.cons _ ?_)))))))
    · rename_i bx ax cx
      have e : escI ((nums s).take (i + 1)) = E ++ [x] := by rw [Htk.out, if_neg (by omega)]
      refine at_meet (i + 1, ax, cx) ⟨by dsimp only; omega, by dsimp only; omega⟩ ?_ ?_
      · dsimp only
        rw [e, show (X ++ (E ++ [x])).length = (X ++ E).length + 1 from by simp; omega]
        exact (by repeat ((first | exact Le.nil _ | refine Le.cons (by (rfl)) ?_)))
      · dsimp only
        rw [e, show (X ++ (E ++ [x])).length = (X ++ E).length + 1 from by simp; omega, show octs (X ++ (E ++ [x])) = octs (X ++ E) ++ [.int .u8 x] from by simp [octs]]
        exact (fun _ hw => hw.subs (by repeat ((first | refine Subs.cons (by repeat constructor) ?_ | exact Subs.sub (by repeat ((first | exact List.Sublist.refl _ | refine List.Sublist.cons _ ?_)))))))
  · obtain rfl : i = s.size := by omega
    rw [show (nums s).take s.size = nums s from by rw [← nums_length]; exact List.take_length]
    repeat' ((first | (apply g_sl; (first | (apply ks_nil; refine sl_nil ?_) | (apply ks_move; refine s_move rfl rfl ?_) | (apply ks_bin; refine s_bin rfl rfl rfl ?_; (((refine bb_of rfl ?_)))) | (apply ks_asgn; refine s_asgn rfl rfl ?_))) | (apply sw_seq) | (apply sw_ret) | (apply sw_exit) | (apply sw_region) | (refine sw_cd rfl ?_; ((apply gd_dec_t <;> intro hq <;> (try (exfalso; omega))))) | (apply at_thn) | (apply at_thn_exit) | (apply at_inb_exit)))
    exact e_sc _ (.inr rfl) rfl (List.Sublist.refl _) ⟨_, _, rfl, rfl⟩
theorem envW1_sv (G : Ctx) (H : List Ent) (v : Vr) : SV Tryz.prog G 91 [vrV v] H (.bool (decide (200 < v.1.size) || decide (200 < v.2.1.size))) := by
  obtain ⟨nm, vl, u, st⟩ := v
  show SV Tryz.prog G _ [.agg [.string nm, .string vl, .bool u, .bool st].toArray] H (.bool (decide (200 < nm.size) || decide (200 < vl.size)))
  refine sv_enter1 Tryz.func91 rfl rfl rfl rfl rfl ?_
  repeat' ((first | (apply g_sl; (first | (apply ks_nil; refine sl_nil ?_) | (apply ks_move; refine s_move rfl rfl ?_) | (apply ks_bin; refine s_bin rfl rfl rfl ?_; (((refine bb_of rfl ?_)))) | (apply ks_load; ((refine s_load rfl rfl ?_; (refine ld_cell rfl ?_)))) | (apply ks_asgn; refine s_asgn rfl rfl ?_) | (apply ks_pick; refine s_pick rfl rfl ?_; (first | (apply kp_t; refine pk_t rfl ?_) | (apply kp_f; refine pk_f rfl ?_))) | (apply ks_field; (refine s_field (c_field0 rfl rfl) rfl ?_)) | (apply ks_bi; (refine s_call (c_len_str rfl rfl) rfl ?_)) | (apply ks_box; refine c_box rfl rfl rfl rfl rfl rfl (fun _ => ?_)) | (apply ks_guard; ((refine sl_gd rfl rfl rfl rfl ?_; (first | (apply gd_t) | (apply gd_tf) | (apply gd_dec_f <;> intro hq <;> (try (exfalso; omega))))))))) | (apply sw_seq) | (apply sw_ret) | (apply sw_region) | (apply at_thn)))
  all_goals first
    | (have h1 : decide (200 < nm.size) = true := (decide_eq_true (by omega)); refine e_sv (by first | exact .inl rfl | exact .inr rfl) rfl (by repeat (first | exact List.Sublist.refl _ | exact List.nil_sublist _ | refine List.Sublist.cons _ ?_)) ?_; rw [h1]; rfl)
    | (have h1 : decide (200 < nm.size) = false := (decide_eq_false (by omega)); refine e_sv (by (exact .inr rfl)) rfl (by repeat ((first | exact List.Sublist.refl _ | refine List.Sublist.cons _ ?_))) ?_; rw [h1, Bool.false_or]; exact congrArg Value.bool (decide_eq_decide.2 (by omega)))
theorem octs_cat (Y : List Int) (k : Int) : octs Y ++ [.int .u8 k] = octs (Y ++ [k]) := by simp [octs]
theorem envWrite_large (G : Ctx) (H : List Ent) (L : List Vr) {vs : List Value} (a : Option Addr) (n c : Nat) [h1 : RdC G H a vs] (hv : vs = vrs L) (hn : n = L.length) (hm : n ≤ maxLen) (hl : largeV L) : SV Tryz.prog G 50 [.slice a n c] H (.tuple #[.string ⟨#[]⟩, .int .i64 2]) := by
  have cH := hasVarG_sv G H 91 [] (fun v => decide (200 < v.1.size) || decide (200 < v.2.1.size)) L a n c hv hn (by rw [← hn]; exact hm) (fun v _ => envW1_sv G H v)
  unfold largeV at hl
  have hm' : n ≤ 9223372036854775807 := hm
  rw [← hn] at hl
  generalize (L.any fun v => decide (200 < v.1.size) || decide (200 < v.2.1.size)) = q at *
  have Hl := Lib.hid hl
  clear hl hn hv hm
  refine sv_enter1 Tryz.func50 rfl rfl rfl rfl rfl ?_
  repeat' ((first | (apply g_sl; (first | (apply ks_nil; refine sl_nil ?_) | (apply ks_move; refine s_move rfl rfl ?_) | (apply ks_bin; refine s_bin rfl rfl rfl ?_; (((refine bb_of rfl ?_)))) | (apply ks_asgn; refine s_asgn rfl rfl ?_) | (apply ks_pick; refine s_pick rfl rfl ?_; (first | (apply kp_t; refine pk_t rfl ?_) | (apply kp_f; refine pk_f rfl ?_))) | (apply ks_fn; (refine c_callv rfl rfl rfl (cH) rfl rfl ?_)) | (apply ks_bi; (refine s_call (c_len rfl rfl) rfl ?_)) | (apply ks_guard; ((refine sl_gd rfl rfl rfl rfl ?_; (first | (apply gd_t) | (apply gd_tf) | (apply gd_dec_f <;> intro hq <;> (try (exfalso; omega))))))))) | (apply sw_seq) | (apply sw_skip) | (apply sw_ret) | ((fail_if_success (refine g_reg (id := 3) ?_)); apply sw_region) | (refine sw_cd rfl ?_; (first | (apply gd_t) | (apply gd_raw_t <;> intro hq))) | (apply at_thn) | (apply at_thn_ret)))
  all_goals (first | (refine e_sv (by (first | exact .inl rfl | exact .inr rfl)) rfl (by repeat ((exact List.Sublist.refl _))) ?_; rfl) | (exfalso; rcases Hl.out with h | h; omega; rw [h] at hq; cases hq))
theorem envWrite_ok (G : Ctx) (H : List Ent) (L : List Vr) {vs : List Value} (a : Option Addr) (n c : Nat) [h1 : RdC G H a vs] (hv : vs = vrs L) (hn : n = L.length) (hl : ¬ largeV L) : SV Tryz.prog G 50 [.slice a n c] H (.tuple #[.string (writeV L).1, .int .i64 (writeV L).2]) := by
  have cH := hasVarG_sv G H 91 [] (fun v => decide (200 < v.1.size) || decide (200 < v.2.1.size)) L a n c hv hn (by unfold largeV at hl; unfold maxLen; omega) (fun v _ => envW1_sv G H v)
  have hn20 : n ≤ 20 := by unfold largeV at hl; omega
  have hany : (L.any fun v => decide (200 < v.1.size) || decide (200 < v.2.1.size)) = false := by
    rw [← Bool.not_eq_true]; exact fun h => hl (.inr h)
  have hsz : ∀ v ∈ L, v.1.size ≤ 200 ∧ v.2.1.size ≤ 200 := fun v hv => by
    refine Classical.byContradiction fun hb => ?_
    rw [List.any_eq_true.2 ⟨v, hv, by simp; omega⟩] at hany
    cases hany
  rw [hany] at cH
  have hform := fun h => writeV_form hl h
  have hok := fun h => writeV_ok hl h
  have hlx : vs.length = n * 4 := by rw [hv, vrs_len, hn]
  have hel : ∀ (k : Nat) x, L[k]? = some x → take? (vs.drop ((k : Int).toNat * 4)) 4 = some (vrC x) := fun k x hx => by subst hv; exact fm_elem hx
  have hvl : ∀ i, i ≤ n → (varsI (L.take i)).length ≤ i * 1000 := fun i => by
    induction i with
    | zero => intro _; simp [varsI]
    | succ i ih =>
      intro hi
      obtain ⟨x, hx⟩ := get_of (X := L) (k := i) (by omega)
      have h2 := hsz x (List.mem_of_getElem? hx)
      rw [take_snoc hx, varsI_snoc, List.length_append]
      have h3 := ih (by omega)
      have h4 : (vI x).length ≤ 1000 := by
        unfold vI
        have h5 := escI_len (nums x.1)
        have h6 := escI_len (nums x.2.1)
        rw [nums_length] at h5 h6
        repeat' split
        all_goals simp only [List.length_cons, List.length_append, List.length_nil]
        all_goals omega
      omega
  have cE := fun (H : List Ent) (X : List Int) (s : ByteArray) (vs : List Value) (a : Option Addr) (n c : Nat) (hv : vs = octs X) (hn : n = X.length) (hm : n ≤ 1000000) (hs : s.size ≤ 1000000) => envEsc_sc G H X s a n c hv hn hm hs
  have Hn := Lib.hid hn
  have Hel := Lib.hid hel
  have Hsz := Lib.hid hsz
  have Hvl := Lib.hid hvl
  have Hform := Lib.hid hform
  have Hok := Lib.hid hok
  clear hel hv hn hsz hvl hform hok hl hany
  refine sv_enter1 Tryz.func50 rfl rfl rfl rfl rfl ?_
  repeat' ((first | (apply g_sl; (first | (apply ks_nil; refine sl_nil ?_) | (apply ks_move; refine s_move rfl rfl ?_) | (apply ks_bin; refine s_bin rfl rfl rfl ?_; (((refine bb_of rfl ?_)))) | (apply ks_asgn; refine s_asgn rfl rfl ?_) | (apply ks_pick; refine s_pick rfl rfl ?_; ((apply kp_f; refine pk_f rfl ?_))) | (apply ks_fn; (refine c_callv rfl rfl rfl (cH) rfl rfl ?_)) | (apply ks_bi; (refine s_call (c_len rfl rfl) rfl ?_)) | (apply ks_guard; ((refine sl_gd rfl rfl rfl rfl ?_; (first | (apply gd_t) | (apply gd_dec_f <;> intro hq <;> (try (exfalso; omega))))))))) | (apply sw_seq) | (apply sw_skip) | (apply sw_block) | (apply sw_region) | (refine sw_cd rfl ?_; ((apply gd_ft))) | (apply at_thn)))
  all_goals (skip)
  refine sw_loopg (α := Nat × Option Addr × Nat) (fun g => [(4, .slice g.2.1 (varsI (L.take g.1)).length g.2.2), (15, .slice a n c), (16, .int .i64 n), (17, .int .i64 g.1)])
    (fun g => .own 5 1 g.2.1 (varsI (L.take g.1)).length g.2.2 (octs (varsI (L.take g.1))) :: H)
    (fun g => g.1 ≤ n ∧ ∀ v ∈ L.take g.1, formV v = false) (fun g => n - g.1) (0, none, 0) ⟨Nat.zero_le _, fun v hv => by simp at hv⟩ (by repeat ((first | exact Le.nil _ | refine Le.cons (by (rfl)) ?_))) (fun _ hw => (hw.nilrow _ _).subs (by repeat ((first | refine Subs.cons (by repeat constructor) ?_ | exact Subs.sub (by repeat ((exact List.Sublist.refl _))))))) ?_
  rintro ⟨i, ao, co⟩ ⟨hi, hf⟩
  dsimp only at hi hf ⊢
  have Hf := Lib.hid hf
  clear hf
  by_cases hlt : (i : Int) < n
  · obtain ⟨x, hx⟩ := get_of (X := L) (k := i) (by rw [← Hn.out]; omega)
    have hxi := Hel.out i x hx
    obtain ⟨hs1, hs2⟩ := Hsz.out x (List.mem_of_getElem? hx)
    have hbl := Hvl.out i hi
    have htk : varsI (L.take (i + 1)) = varsI (L.take i) ++ vI x := by rw [take_snoc hx, varsI_snoc]
    have hfx : formV x = true → L.any formV = true := fun h => List.any_eq_true.2 ⟨x, List.mem_of_getElem? hx, h⟩
    have hfn : formV x = false → ∀ v ∈ L.take (i + 1), formV v = false := fun h => take_all hx h Hf.out
    obtain ⟨nm, vl, u, st⟩ := x
    have hxi' : take? (vs.drop ((i : Int).toNat * 4)) 4 = some [.string nm, .string vl, .bool u, .bool st] := hxi
    have e1 := escI_len (nums nm)
    have e2 := escI_len (nums vl)
    rw [nums_length] at e1 e2
    dsimp only at hs1 hs2
    generalize varsI (L.take i) = Y at *
    have Htk := Lib.hid htk
    have Hfx := Lib.hid hfx
    have Hfn := Lib.hid hfn
    clear hxi hx htk hfx hfn
    cases u <;> cases st
    all_goals
      repeat' ((first | (apply g_sl; (first | (apply ks_nil; refine sl_nil ?_) | (apply ks_move; refine s_move rfl rfl ?_) | (apply ks_bin; refine s_bin rfl rfl rfl ?_; ((first | (refine bb_sne ?_) | ((refine bb_of rfl ?_))))) | (apply ks_load; (first | (refine s_load rfl rfl ?_; (refine ld_cell rfl ?_)) | ((refine s_load rfl rfl ?_; refine ld_elems hxi' rfl ?_)))) | (apply ks_asgn; refine s_asgn rfl rfl ?_) | (apply ks_pick; refine s_pick rfl rfl ?_; (first | (apply kp_t; refine pk_t rfl ?_) | (apply kp_f; refine pk_f rfl ?_))) | (apply ks_field; (refine s_field (c_field0 rfl rfl) rfl ?_)) | (apply ks_un; refine s_un (y_un rfl rfl rfl) rfl ?_) | (apply ks_indexA; (((refine s_indexA (c_indexAddr rfl rfl rfl hlx (by omega) (by omega)) rfl ?_)))) | (apply ks_store; ((refine c_storew rfl rfl rfl rfl rfl rfl rfl rfl ?_))) | (apply ks_alloc; refine c_alloc rfl rfl rfl rfl (fun _ => ?_)) | (apply ks_guard; ((refine sl_gd rfl rfl rfl rfl ?_; (first | (apply gd_t) | (apply gd_ft))))))) | (apply sw_seq) | (apply sw_skip) | (apply sw_ret) | (apply sw_block) | ((fail_if_success (refine g_reg (id := 12) ?_)); apply sw_region) | (refine sw_cd rfl ?_; (first | (apply gd_t) | (apply gd_ft) | (apply gd_dec_t <;> intro hq <;> (try (exfalso; omega))) | (apply gd_not_t <;> intro hq))) | (apply at_thn) | (apply at_thn_ret) | (apply at_inb_ret)))
    all_goals first
      | (have hfe := Hfx.out (show formV _ = true from by simp [formV]; exact of_decide_eq_false hq)
         refine e_sv (by (exact .inr rfl)) rfl (by repeat ((first | exact List.Sublist.refl _ | refine List.Sublist.cons _ ?_))) ?_
         rw [Hform.out hfe]; rfl)
      | skip
    · have hfn' := Hfn.out (by simp [formV]; exact of_decide_eq_true hq)
      rename_i b
      refine c_drawno (.blk b 143 [.string nm, .string vl, .bool false, .bool false] :: H) (fun _ hw => hw.subs (by repeat ((first | refine Subs.cons (by repeat constructor) ?_ | exact Subs.sub (by repeat ((first | exact List.Sublist.refl _ | refine List.Sublist.cons _ ?_))))))) ?_
      repeat' ((first | (apply g_sl; (first | (apply ks_nil; refine sl_nil ?_) | (apply ks_move; refine s_move rfl rfl ?_) | (apply ks_bin; refine s_bin rfl rfl rfl ?_; ((((apply kb_add; (refine bb_add ⟨by omega, by omega⟩ ?_)))))) | (apply ks_load; ((refine s_load rfl rfl ?_; (refine ld_cell rfl ?_)))) | (apply ks_field; (refine s_field (c_field0 rfl rfl) rfl ?_)) | (apply ks_fn; ((refine c_call rfl rfl rfl (cE _ _ _ _ _ _ _ (octs_cat _ _) (by simp only [List.length_append, List.length_cons, List.length_nil] <;> omega) (by omega) (by omega)) rfl rfl ?_; rintro _ _ ⟨a2, c2, rfl, rfl⟩))) | (apply ks_bi; (refine c_append rfl rfl rfl rfl (by (rfl)) (by (rfl)) (by omega) rfl rfl (fun _ _ => ?_))) | (apply ks_bs; (refine c_buildSlice rfl rfl rfl rfl rfl rfl rfl rfl rfl rfl (fun _ => ?_))))) | (apply g_atso; refine so_back (k := 0) (fun _ hw => hw.subs (by repeat ((first | refine Subs.cons (by repeat constructor) ?_ | exact Subs.sub (by repeat ((first | exact List.Sublist.refl _ | refine List.Sublist.cons _ ?_))))))) ?_) | (apply g_sot; (first | (refine sot_skip rfl ?_) | (refine sot_take rfl rfl rfl rfl (by kernel_rfl) (by decide +kernel) (by decide +kernel) ?_; ((first | (apply ky_move; refine sy_val (y_move rfl rfl) ?_) | (apply ky_load; ((refine sy_load rfl ?_; (refine ld_cell rfl ?_)))) | (apply ky_asgn; refine sy_val (y_assign rfl rfl) ?_) | (apply ky_field; (refine sy_val (c_field0 rfl rfl) ?_))))) | (refine sot_next rfl ?_) | (refine so_done (by decide +kernel) ?_) | (refine sot_all (by kernel_rfl) ?_))) | (apply g_soa; (first | (refine soa_end rfl) | (refine soa_no (by decide +kernel) ?_) | (refine soa_yes rfl ?_ ?_))) | (apply sw_seq) | (apply sw_skip) | (apply sw_region) | (refine sw_cd rfl ?_; ((apply gd_ft))) | (apply at_thn) | (apply at_inb)))
      have he : varsI (L.take (i + 1)) = (Y ++ [0]) ++ escI (nums nm) := by rw [Htk.out]; simp [vI]
      refine at_meet (i + 1, a2, c2) ⟨⟨by dsimp only; omega, hfn'⟩, by dsimp only; omega⟩ ?_ ?_
      · dsimp only; rw [he]; exact (by repeat ((first | exact Le.nil _ | refine Le.cons (by (rfl)) ?_)))
      · dsimp only; rw [he]; exact (fun _ hw => hw.subs (by repeat ((first | refine Subs.cons (by repeat constructor) ?_ | exact Subs.sub (by repeat ((first | exact List.Sublist.refl _ | refine List.Sublist.cons _ ?_)))))))
    · have hfn' := Hfn.out (by simp [formV])
      rename_i b
      refine c_drawno (.blk b 143 [.string nm, .string vl, .bool false, .bool true] :: H) (fun _ hw => hw.subs (by repeat ((first | refine Subs.cons (by repeat constructor) ?_ | exact Subs.sub (by repeat ((first | exact List.Sublist.refl _ | refine List.Sublist.cons _ ?_))))))) ?_
      repeat' ((first | (apply g_sl; (first | (apply ks_nil; refine sl_nil ?_) | (apply ks_load; ((refine s_load rfl rfl ?_; (refine ld_cell rfl ?_)))) | (apply ks_field; (refine s_field (c_field0 rfl rfl) rfl ?_)) | (apply ks_fn; ((refine c_call rfl rfl rfl (cE _ _ _ _ _ _ _ (octs_cat _ _) (by simp only [List.length_append, List.length_cons, List.length_nil] <;> omega) (by (omega)) (by omega)) rfl rfl ?_; rintro _ _ ⟨a2, c2, rfl, rfl⟩))) | (apply ks_bi; (refine c_append rfl rfl rfl rfl (by (rfl)) (by (rfl)) (by omega) rfl rfl (fun _ _ => ?_))) | (apply ks_bs; (refine c_buildSlice rfl rfl rfl rfl rfl rfl rfl rfl rfl rfl (fun _ => ?_))))) | (apply g_atso; refine so_back (k := 0) (fun _ hw => hw.subs (by repeat ((first | refine Subs.cons (by repeat constructor) ?_ | exact Subs.sub (by repeat ((first | exact List.Sublist.refl _ | refine List.Sublist.cons _ ?_))))))) ?_) | (apply g_sot; (first | (refine sot_skip rfl ?_) | (refine sot_take rfl rfl rfl rfl (by kernel_rfl) (by decide +kernel) (by decide +kernel) ?_; ((first | (apply ky_move; refine sy_val (y_move rfl rfl) ?_) | (apply ky_load; ((refine sy_load rfl ?_; (refine ld_cell rfl ?_)))) | (apply ky_asgn; refine sy_val (y_assign rfl rfl) ?_) | (apply ky_field; (refine sy_val (c_field0 rfl rfl) ?_))))) | (refine sot_next rfl ?_) | (refine so_done (by decide +kernel) ?_) | (refine sot_all (by kernel_rfl) ?_))) | (apply g_soa; (first | (refine soa_end rfl) | (refine soa_no (by decide +kernel) ?_) | (refine soa_yes rfl ?_ ?_))) | (apply sw_seq) | ((fail_if_success (refine g_reg (id := 14) ?_)); apply sw_region) | (refine sw_cd rfl ?_; ((apply gd_t))) | (apply at_thn)))
      refine c_drawno (.blk b 143 [.string nm, .string vl, .bool false, .bool true] :: H) (fun _ hw => hw.subs (by repeat ((first | refine Subs.cons (by repeat constructor) ?_ | exact Subs.sub (by repeat ((first | exact List.Sublist.refl _ | refine List.Sublist.cons _ ?_))))))) ?_
      repeat' ((first | (apply g_sl; (first | (apply ks_nil; refine sl_nil ?_) | (apply ks_move; refine s_move rfl rfl ?_) | (apply ks_bin; refine s_bin rfl rfl rfl ?_; ((((apply kb_add; (refine bb_add ⟨by omega, by omega⟩ ?_)))))) | (apply ks_fn; ((refine c_call rfl rfl rfl (cE _ _ _ _ _ _ _ (octs_cat _ _) (by simp only [List.length_append, List.length_cons, List.length_nil] <;> omega) (by ((simp only [List.length_append, List.length_cons, List.length_nil]; omega))) (by omega)) rfl rfl ?_; rintro _ _ ⟨a2, c2, rfl, rfl⟩))) | (apply ks_bi; ((refine c_append rfl rfl rfl rfl rfl rfl (by simp only [List.length_append, List.length_cons, List.length_nil]; omega) rfl rfl (fun _ _ => ?_)))) | (apply ks_bs; (refine c_buildSlice rfl rfl rfl rfl rfl rfl rfl rfl rfl rfl (fun _ => ?_))))) | (apply g_atso; refine so_back (k := 0) (fun _ hw => hw.subs (by repeat ((first | refine Subs.cons (by repeat constructor) ?_ | exact Subs.sub (by repeat ((first | exact List.Sublist.refl _ | refine List.Sublist.cons _ ?_))))))) ?_) | (apply g_sot; (first | (refine sot_skip rfl ?_) | (refine sot_take rfl rfl rfl rfl (by kernel_rfl) (by decide +kernel) (by decide +kernel) ?_; ((first | (apply ky_move; refine sy_val (y_move rfl rfl) ?_) | (apply ky_load; ((refine sy_load rfl ?_; (refine ld_cell rfl ?_)))) | (apply ky_asgn; refine sy_val (y_assign rfl rfl) ?_) | (apply ky_field; (refine sy_val (c_field0 rfl rfl) ?_))))) | (refine sot_next rfl ?_) | (refine so_done (by decide +kernel) ?_) | (refine sot_all (by kernel_rfl) ?_))) | (apply g_soa; (first | (refine soa_end rfl) | (refine soa_no (by decide +kernel) ?_) | (refine soa_yes rfl ?_ ?_))) | (apply sw_region) | (apply at_thn) | (apply at_inb)))
      have he : varsI (L.take (i + 1)) = (((Y ++ [0]) ++ escI (nums nm)) ++ [1]) ++ escI (nums vl) := by rw [Htk.out]; simp [vI]
      refine at_meet (i + 1, a2, c2) ⟨⟨by dsimp only; omega, hfn'⟩, by dsimp only; omega⟩ ?_ ?_
      · dsimp only; rw [he]; exact (by repeat ((first | exact Le.nil _ | refine Le.cons (by (rfl)) ?_)))
      · dsimp only; rw [he]; exact (fun _ hw => hw.subs (by repeat ((first | refine Subs.cons (by repeat constructor) ?_ | exact Subs.sub (by repeat ((first | exact List.Sublist.refl _ | refine List.Sublist.cons _ ?_)))))))
    · have hfn' := Hfn.out (by simp [formV]; exact of_decide_eq_true hq)
      rename_i b
      refine c_drawno (.blk b 143 [.string nm, .string vl, .bool true, .bool false] :: H) (fun _ hw => hw.subs (by repeat ((first | refine Subs.cons (by repeat constructor) ?_ | exact Subs.sub (by repeat ((first | exact List.Sublist.refl _ | refine List.Sublist.cons _ ?_))))))) ?_
      repeat' ((first | (apply g_sl; (first | (apply ks_nil; refine sl_nil ?_) | (apply ks_move; refine s_move rfl rfl ?_) | (apply ks_bin; refine s_bin rfl rfl rfl ?_; ((((apply kb_add; (refine bb_add ⟨by omega, by omega⟩ ?_)))))) | (apply ks_load; ((refine s_load rfl rfl ?_; (refine ld_cell rfl ?_)))) | (apply ks_field; (refine s_field (c_field0 rfl rfl) rfl ?_)) | (apply ks_fn; ((refine c_call rfl rfl rfl (cE _ _ _ _ _ _ _ (octs_cat _ _) (by simp only [List.length_append, List.length_cons, List.length_nil] <;> omega) (by omega) (by omega)) rfl rfl ?_; rintro _ _ ⟨a2, c2, rfl, rfl⟩))) | (apply ks_bi; (refine c_append rfl rfl rfl rfl (by (rfl)) (by (rfl)) (by omega) rfl rfl (fun _ _ => ?_))) | (apply ks_bs; (refine c_buildSlice rfl rfl rfl rfl rfl rfl rfl rfl rfl rfl (fun _ => ?_))))) | (apply g_atso; refine so_back (k := 0) (fun _ hw => hw.subs (by repeat ((first | refine Subs.cons (by repeat constructor) ?_ | exact Subs.sub (by repeat ((first | exact List.Sublist.refl _ | refine List.Sublist.cons _ ?_))))))) ?_) | (apply g_sot; (first | (refine sot_skip rfl ?_) | (refine sot_take rfl rfl rfl rfl (by kernel_rfl) (by decide +kernel) (by decide +kernel) ?_; ((first | (apply ky_move; refine sy_val (y_move rfl rfl) ?_) | (apply ky_load; ((refine sy_load rfl ?_; (refine ld_cell rfl ?_)))) | (apply ky_asgn; refine sy_val (y_assign rfl rfl) ?_) | (apply ky_field; (refine sy_val (c_field0 rfl rfl) ?_))))) | (refine sot_next rfl ?_) | (refine so_done (by decide +kernel) ?_) | (refine sot_all (by kernel_rfl) ?_))) | (apply g_soa; (first | (refine soa_end rfl) | (refine soa_no (by decide +kernel) ?_) | (refine soa_yes rfl ?_ ?_))) | (apply sw_seq) | (apply sw_skip) | (apply sw_region) | (refine sw_cd rfl ?_; ((apply gd_ft))) | (apply at_thn) | (apply at_inb)))
      have he : varsI (L.take (i + 1)) = (Y ++ [3]) ++ escI (nums nm) := by rw [Htk.out]; simp [vI]
      refine at_meet (i + 1, a2, c2) ⟨⟨by dsimp only; omega, hfn'⟩, by dsimp only; omega⟩ ?_ ?_
      · dsimp only; rw [he]; exact (by repeat ((first | exact Le.nil _ | refine Le.cons (by (rfl)) ?_)))
      · dsimp only; rw [he]; exact (fun _ hw => hw.subs (by repeat ((first | refine Subs.cons (by repeat constructor) ?_ | exact Subs.sub (by repeat ((first | exact List.Sublist.refl _ | refine List.Sublist.cons _ ?_)))))))
    · have hfn' := Hfn.out (by simp [formV])
      rename_i b
      refine c_drawno (.blk b 143 [.string nm, .string vl, .bool true, .bool true] :: H) (fun _ hw => hw.subs (by repeat ((first | refine Subs.cons (by repeat constructor) ?_ | exact Subs.sub (by repeat ((first | exact List.Sublist.refl _ | refine List.Sublist.cons _ ?_))))))) ?_
      repeat' ((first | (apply g_sl; (first | (apply ks_nil; refine sl_nil ?_) | (apply ks_load; ((refine s_load rfl rfl ?_; (refine ld_cell rfl ?_)))) | (apply ks_field; (refine s_field (c_field0 rfl rfl) rfl ?_)) | (apply ks_fn; ((refine c_call rfl rfl rfl (cE _ _ _ _ _ _ _ (octs_cat _ _) (by simp only [List.length_append, List.length_cons, List.length_nil] <;> omega) (by (omega)) (by omega)) rfl rfl ?_; rintro _ _ ⟨a2, c2, rfl, rfl⟩))) | (apply ks_bi; (refine c_append rfl rfl rfl rfl (by (rfl)) (by (rfl)) (by omega) rfl rfl (fun _ _ => ?_))) | (apply ks_bs; (refine c_buildSlice rfl rfl rfl rfl rfl rfl rfl rfl rfl rfl (fun _ => ?_))))) | (apply g_atso; refine so_back (k := 0) (fun _ hw => hw.subs (by repeat ((first | refine Subs.cons (by repeat constructor) ?_ | exact Subs.sub (by repeat ((first | exact List.Sublist.refl _ | refine List.Sublist.cons _ ?_))))))) ?_) | (apply g_sot; (first | (refine sot_skip rfl ?_) | (refine sot_take rfl rfl rfl rfl (by kernel_rfl) (by decide +kernel) (by decide +kernel) ?_; ((first | (apply ky_move; refine sy_val (y_move rfl rfl) ?_) | (apply ky_load; ((refine sy_load rfl ?_; (refine ld_cell rfl ?_)))) | (apply ky_asgn; refine sy_val (y_assign rfl rfl) ?_) | (apply ky_field; (refine sy_val (c_field0 rfl rfl) ?_))))) | (refine sot_next rfl ?_) | (refine so_done (by decide +kernel) ?_) | (refine sot_all (by kernel_rfl) ?_))) | (apply g_soa; (first | (refine soa_end rfl) | (refine soa_no (by decide +kernel) ?_) | (refine soa_yes rfl ?_ ?_))) | (apply sw_seq) | ((fail_if_success (refine g_reg (id := 14) ?_)); apply sw_region) | (refine sw_cd rfl ?_; ((apply gd_t))) | (apply at_thn)))
      refine c_drawno (.blk b 143 [.string nm, .string vl, .bool true, .bool true] :: H) (fun _ hw => hw.subs (by repeat ((first | refine Subs.cons (by repeat constructor) ?_ | exact Subs.sub (by repeat ((first | exact List.Sublist.refl _ | refine List.Sublist.cons _ ?_))))))) ?_
      repeat' ((first | (apply g_sl; (first | (apply ks_nil; refine sl_nil ?_) | (apply ks_move; refine s_move rfl rfl ?_) | (apply ks_bin; refine s_bin rfl rfl rfl ?_; ((((apply kb_add; (refine bb_add ⟨by omega, by omega⟩ ?_)))))) | (apply ks_fn; ((refine c_call rfl rfl rfl (cE _ _ _ _ _ _ _ (octs_cat _ _) (by simp only [List.length_append, List.length_cons, List.length_nil] <;> omega) (by ((simp only [List.length_append, List.length_cons, List.length_nil]; omega))) (by omega)) rfl rfl ?_; rintro _ _ ⟨a2, c2, rfl, rfl⟩))) | (apply ks_bi; ((refine c_append rfl rfl rfl rfl rfl rfl (by simp only [List.length_append, List.length_cons, List.length_nil]; omega) rfl rfl (fun _ _ => ?_)))) | (apply ks_bs; (refine c_buildSlice rfl rfl rfl rfl rfl rfl rfl rfl rfl rfl (fun _ => ?_))))) | (apply g_atso; refine so_back (k := 0) (fun _ hw => hw.subs (by repeat ((first | refine Subs.cons (by repeat constructor) ?_ | exact Subs.sub (by repeat ((first | exact List.Sublist.refl _ | refine List.Sublist.cons _ ?_))))))) ?_) | (apply g_sot; (first | (refine sot_skip rfl ?_) | (refine sot_take rfl rfl rfl rfl (by kernel_rfl) (by decide +kernel) (by decide +kernel) ?_; ((first | (apply ky_move; refine sy_val (y_move rfl rfl) ?_) | (apply ky_load; ((refine sy_load rfl ?_; (refine ld_cell rfl ?_)))) | (apply ky_asgn; refine sy_val (y_assign rfl rfl) ?_) | (apply ky_field; (refine sy_val (c_field0 rfl rfl) ?_))))) | (refine sot_next rfl ?_) | (refine so_done (by decide +kernel) ?_) | (refine sot_all (by kernel_rfl) ?_))) | (apply g_soa; (first | (refine soa_end rfl) | (refine soa_no (by decide +kernel) ?_) | (refine soa_yes rfl ?_ ?_))) | (apply sw_region) | (apply at_thn) | (apply at_inb)))
      have he : varsI (L.take (i + 1)) = (((Y ++ [3]) ++ escI (nums nm)) ++ [1]) ++ escI (nums vl) := by rw [Htk.out]; simp [vI]
      refine at_meet (i + 1, a2, c2) ⟨⟨by dsimp only; omega, hfn'⟩, by dsimp only; omega⟩ ?_ ?_
      · dsimp only; rw [he]; exact (by repeat ((first | exact Le.nil _ | refine Le.cons (by (rfl)) ?_)))
      · dsimp only; rw [he]; exact (fun _ hw => hw.subs (by repeat ((first | refine Subs.cons (by repeat constructor) ?_ | exact Subs.sub (by repeat ((first | exact List.Sublist.refl _ | refine List.Sublist.cons _ ?_)))))))
  · obtain rfl : n = i := by omega
    have hLt : L.take n = L := by rw [Hn.out, List.take_length]
    rw [hLt] at Hf ⊢
    have hnf : L.any formV = false := by
      rw [← Bool.not_eq_true, List.any_eq_true]
      rintro ⟨v, hv, h⟩
      exact Bool.noConfusion ((Hf.out v hv).symm.trans h)
    rw [Hok.out hnf]
    repeat' ((first | (apply g_sl; (first | (apply ks_nil; refine sl_nil ?_) | (apply ks_move; refine s_move rfl rfl ?_) | (apply ks_bin; refine s_bin rfl rfl rfl ?_; (((refine bb_of rfl ?_)))) | (apply ks_asgn; refine s_asgn rfl rfl ?_) | (apply ks_conv; ((refine s_conv (c_convBs rfl rfl rfl rfl) rfl ?_))))) | (apply sw_seq) | (apply sw_ret) | (apply sw_exit) | (apply sw_region) | (refine sw_cd rfl ?_; ((apply gd_dec_t <;> intro hq <;> (try (exfalso; omega))))) | (apply at_thn) | (apply at_thn_exit) | (apply at_inb_exit)))
    refine e_sv (by (exact .inr rfl)) rfl (by repeat ((first | exact List.Sublist.refl _ | refine List.Sublist.cons _ ?_))) ?_
    rfl
end Go.Proofs.YtmbfechiallppaaGreatDoor
end
section
namespace Go.Fw
open Go Go.RowKit Go.Sx
end Go.Fw
namespace Go.Proofs.YtmbfechiallppaaGreatDoor
open Go Go.RowKit Go.Fw Go.Sx
set_option maxRecDepth 100000
set_option maxHeartbeats 1000000
attribute [local irreducible] SW SL SQ AtQ SV SC BB LD PK Yields SO SOT SOA SY
theorem envWrite_sv (G : Ctx) (H : List Ent) (L : List Vr) {vs : List Value} (a : Option Addr) (n c : Nat) [h1 : RdC G H a vs] (hv : vs = vrs L) (hn : n = L.length) (hm : n ≤ maxLen) : SV Tryz.prog G 50 [.slice a n c] H (.tuple #[.string (writeV L).1, .int .i64 (writeV L).2]) := by
  by_cases hl : largeV L
  · rw [writeV_large hl]; exact envWrite_large G H L a n c hv hn hm hl
  · exact envWrite_ok G H L a n c hv hn hl
end Go.Proofs.YtmbfechiallppaaGreatDoor
end
section
namespace Go.Proofs.YtmbfechiallppaaGreatDoor
open Go Go.RowKit Go.Fw Go.Sx
set_option maxRecDepth 100000
set_option maxHeartbeats 2000000
attribute [local irreducible] SW SL SQ AtQ SV SC BB LD PK Yields SO SOT SOA SY negC
/-- The cells of a client, or of one and what was sent: nothing is under way in the wire, the bytes, the parser. -/
abbrev wkC (S N P K E : List Value) : List Value := big cli0 S (big [] N (big P K E))
abbrev cliX (buf : ByteArray) (ed : Bool) : List Value := [.int .u64 0, .int .u64 0, .int .u64 0, .int .u64 0, .string buf, .bool false, .bool ed]
theorem wk_len {S N P K E : List Value} [hS : Len S 33] [hN : Len N 520] [hK : Len K 38] {p e k : Nat} (hP : P.length = p) (hE : E.length = e) (hk : 12 + (33 + (520 + (p + (38 + e)))) = k) : (wkC S N P K E).length = k := by
  unfold wkC big
  simp only [List.length_append, hS.here, hN.here, hK.here, hP, hE, List.length_nil]
  subst hk
  show 12 + _ = _
  omega
theorem okP_0 : okP (0, 0, .empty, .empty, .empty) :=
  (parOk_iff _ _ _ _ _).2 ⟨⟨⟨by unfold pr3 pr2 pr1; decide +kernel, by decide, .inl rfl⟩, fun x hx => by rw [show nums ByteArray.empty = [] from by decide +kernel] at hx; cases hx⟩, fun x hx => by rw [show nums ByteArray.empty = [] from by decide +kernel] at hx; cases hx⟩
abbrev xterm : ByteArray := ⟨#[88, 84, 69, 82, 77]⟩
/-- A screen's cells, and where its rows can be read. -/
def ScS (G : Ctx) (E : List Ent) (s : Scr) (S : List Value) : Prop := ∃ (ga : Option Addr) (gn gc : Nat) (oa : Option Addr) (on oc : Nat) (pa : Option Addr) (pn pc : Nat) (X : List (Rx Qd)), S = scnC s ga gn gc oa on oc pa pn pc ∧ ScRd G E s ga gn gc oa on oc pa pn pc X
theorem ScS.len {G : Ctx} {E : List Ent} {s : Scr} {S : List Value} (h : ScS G E s S) : S.length = 33 := by
  obtain ⟨ga, gn, gc, oa, on, oc, pa, pn, pc, X, rfl, -⟩ := h
  rfl
theorem ScS.one {G : Ctx} {E : List Ent} {s : Scr} {S : List Value} (h : ScS G E s S) : S.all (·.oneCell') = true := by
  obtain ⟨ga, gn, gc, oa, on, oc, pa, pn, pc, X, rfl, -⟩ := h
  rfl
theorem ScS.mono {G : Ctx} {E E' : List Ent} {s : Scr} {S : List Value} (h : ScS G E s S) (hh : ∀ w, Holds G E' w → Holds G E w) : ScS G E' s S := by
  obtain ⟨ga, gn, gc, oa, on, oc, pa, pn, pc, X, rfl, h1⟩ := h
  exact ⟨ga, gn, gc, oa, on, oc, pa, pn, pc, X, rfl, h1.mono hh⟩
/-- A client's rows. -/
def CliS (G : Ctx) (E : List Ent) (s : Scr) (S P : List Value) : Prop := ScS G E s S ∧ ∃ (na : Option Addr) (nc : Nat) (va : Option Addr) (vc : Nat), P = [.slice na 1 nc, .int .i64 0, .slice va 0 vc] ∧ RdC G E na (strs [xterm]) ∧ CapC G E na 1 nc ∧ RdC G E va (vrs [])
theorem CliS.mono {G : Ctx} {E E' : List Ent} {s : Scr} {S P : List Value} (h : CliS G E s S P) (hh : ∀ w, Holds G E' w → Holds G E w) : CliS G E' s S P := by
  obtain ⟨h1, na, nc, va, vc, rfl, h2, h3, h4⟩ := h
  exact ⟨h1.mono hh, na, nc, va, vc, rfl, ⟨fun w hw => h2.here w (hh w hw)⟩, ⟨fun w hw => h3.here w (hh w hw)⟩, ⟨fun w hw => h4.here w (hh w hw)⟩⟩
theorem cliCheck_gen (G : Ctx) (H : List Ent) (S N K : List Value) [hS : Len S 33] [hN : Len N 520] [hK : Len K 38] (na : Option Addr) (nn nc : Nat) (va : Option Addr) (vn vc : Nat) (buf : ByteArray) (ed : Bool) (hb : buf.size < 1024) (M : Int) (hM : ∀ H w, Holds G H w → w.cell? ⟨2, 0, none⟩ = some (.int .i64 M))
    (cS : ∀ H' : List Ent, (∀ w, Holds G H' w → Holds G H w) → SV Tryz.prog G 40 [.agg S.toArray] H' (.int .i64 0))
    (cN : ∀ H' : List Ent, SV Tryz.prog G 53 [.agg N.toArray] H' (.int .i64 0))
    (cA : ∀ H' : List Ent, (∀ w, Holds G H' w → Holds G H w) → SV Tryz.prog G 49 [.agg #[.slice na nn nc, .int .i64 0]] H' (.int .i64 0))
    (r : ByteArray) (cV : ∀ H' : List Ent, (∀ w, Holds G H' w → Holds G H w) → SV Tryz.prog G 50 [.slice va vn vc] H' (.tuple #[.string r, .int .i64 0]))
    (cK : ∀ H' : List Ent, SV Tryz.prog G 54 [.agg K.toArray] H' (.int .i64 0)) :
    SV Tryz.prog G 23 [.agg (wkC S N [.slice na nn nc, .int .i64 0, .slice va vn vc] K (cliX buf ed)).toArray] H (.int .i64 0) := by
  have cI : ∀ H' : List Ent, SV Tryz.prog G 51 [wireV 0 0 0 .empty false] H' (.int .i64 0) := fun H' => by
    have h := iacCheck_sv G H' 0 0 0 .empty false
    rwa [show wireE 0 0 0 ByteArray.empty.size (ovI false) = 0 from by decide +kernel] at h
  have cU : ∀ H' : List Ent, SV Tryz.prog G 31 [.string .empty] H' (.int .i64 0) := fun H' => by
    have h := utfCheck_sv G H' .empty (by decide)
    rwa [show chkU (nums ByteArray.empty) = 0 from by decide +kernel] at h
  have cP : ∀ H' : List Ent, SV Tryz.prog G 52 [psV 0 0 .empty .empty .empty] H' (.int .i64 0) := fun H' => by
    have h := pCheck_sv G H' M hM 0 0 .empty .empty .empty (by decide) (by decide)
    rwa [(parE_iff 0 0 .empty .empty .empty).2 okP_0] at h
  have cL : ∀ H' : List Ent, SV Tryz.prog G 55 [.agg #[.string buf, .bool false]] H' (.int .i64 0) := fun H' => by
    have h := lineCheck_sv G H' buf false
    rwa [if_neg (by omega)] at h
  have hlen := wk_len (S := S) (N := N) (K := K) (P := [.slice na nn nc, .int .i64 0, .slice va vn vc]) (E := cliX buf ed) rfl rfl rfl
  refine sv_enter1 Tryz.func23 rfl rfl rfl rfl rfl ?_
  repeat' ((first | (apply g_sl; (first | (apply ks_nil; refine sl_nil ?_) | (apply ks_move; refine s_move rfl rfl ?_) | (apply ks_load; ((refine s_load rfl rfl ?_; (refine ld_cell (big_post rfl (big_post rfl (big_pre rfl))) ?_)))) | (apply ks_asgn; refine s_asgn rfl rfl ?_) | (apply ks_field; (refine s_field (c_field0 rfl rfl) rfl ?_)) | (apply ks_extr; refine s_extr (y_extract rfl rfl rfl) rfl ?_) | (apply ks_fn; (refine c_callv rfl rfl rfl (cV _ (fun _ hw => hw.subs (by repeat ((exact Subs.sub (by repeat ((first | exact List.Sublist.refl _ | refine List.Sublist.cons _ ?_)))))))) rfl rfl ?_)) | (apply ks_box; refine c_box rfl rfl rfl rfl rfl rfl (fun _ => ?_)))) | (apply sw_seq) | ((fail_if_success (refine g_reg (id := 2) ?_)); apply sw_region) | (apply at_thn)))
  refine sw_cut1 (α := Unit) (fun _ => [(38, .agg #[.int .i64 0, .int .i64 0, .int .i64 0, .int .i64 0, .int .i64 0, .int .i64 0, .int .i64 0, .int .i64 0, .int .i64 0]), (39, .int .i64 0), (2, .int .i64 0)]) (fun _ => H) (fun _ => True) ?_ ?_
  · repeat' ((first | (apply g_sl; (first | (apply ks_nil; refine sl_nil ?_) | (apply ks_fn; (((first | refine c_callv rfl rfl rfl (cI _) rfl rfl ?_ | refine c_callv rfl rfl rfl (cU _) rfl rfl ?_ | refine c_callv rfl rfl rfl (cP _) rfl rfl ?_ | refine c_callv rfl rfl rfl (cS _ (fun _ hw => hw.subs (by repeat ((exact Subs.sub (by repeat ((first | exact List.Sublist.refl _ | refine List.Sublist.cons _ ?_)))))))) rfl rfl ?_ | refine c_callv rfl rfl rfl (cN _) rfl rfl ?_ | refine c_callv rfl rfl rfl (cA _ (fun _ hw => hw.subs (by repeat ((exact Subs.sub (by repeat ((first | exact List.Sublist.refl _ | refine List.Sublist.cons _ ?_)))))))) rfl rfl ?_ | refine c_callv rfl rfl rfl (cK _) rfl rfl ?_ | refine c_callv rfl rfl rfl (cL _) rfl rfl ?_)))))) | (apply g_atso; refine so_back (k := 0) (fun _ hw => hw.subs (by repeat ((first | refine Subs.cons (by repeat constructor) ?_ | exact Subs.sub (by repeat ((exact List.Sublist.refl _))))))) ?_) | (apply g_sot; (first | (refine sot_skip rfl ?_) | (refine sot_take rfl rfl rfl rfl (by kernel_rfl) (by decide +kernel) (by decide +kernel) ?_; ((first | (apply ky_move; refine sy_val (y_move rfl rfl) ?_) | (apply ky_load; (first | (refine sy_load rfl ?_; (first | refine ld_cell rfl ?_ | refine ld_part rfl rfl ?_)) | (refine sy_load rfl ?_; (first | refine ld_part (big_ppre rfl) rfl ?_ | refine ld_part (big_pmid rfl) rfl ?_ | refine ld_part (big_ppost rfl (big_pmid rfl)) rfl ?_ | refine ld_part (big_ppost rfl (big_ppost rfl (big_ppre rfl))) rfl ?_ | refine ld_part (big_ppost rfl (big_ppost rfl (big_pmid rfl))) rfl ?_ | refine ld_part (big_ppost rfl (big_ppost rfl (big_ppost rfl rfl))) rfl ?_)))) | (apply ky_field; (refine sy_val (c_field0 rfl rfl) ?_)) | (apply ky_build; (refine sy_val (c_build rfl rfl rfl) ?_))))) | (refine sot_next rfl ?_) | (refine so_done (by decide +kernel) ?_) | (refine sot_all (by kernel_rfl) ?_))) | (apply g_soa; (first | (refine soa_end rfl) | (refine soa_no (by decide +kernel) ?_) | (refine soa_yes rfl ?_ ?_))) | ((refine g_reg (id := 2) ?_; refine c_drawno _ (fun _ hw => hw) ?_))))
    all_goals exact at_meet () trivial (by repeat ((first | exact Le.nil _ | refine Le.cons (by (rfl)) ?_))) (fun _ hw => hw.subs (by repeat ((exact Subs.sub (by repeat ((first | exact List.Sublist.refl _ | refine List.Sublist.cons _ ?_)))))))
  rintro ⟨⟩ -
  repeat' (((apply sw_block)))
  refine sw_loopN 10 (srd_succ ?_)
  repeat' ((first | (apply g_sl; (first | (apply ks_nil; refine sl_nil ?_) | (apply ks_move; refine s_move rfl rfl ?_) | (apply ks_bin; refine s_bin rfl rfl rfl ?_; (((first | (apply kb_add; (refine bb_add ⟨by omega, by omega⟩ ?_)) | refine bb_of rfl ?_)))) | (apply ks_asgn; refine s_asgn rfl rfl ?_) | (apply ks_index; (refine s_index (c_indexArr rfl rfl rfl (by omega) (by omega) rfl) rfl ?_)))) | (apply sw_seq) | (apply at_srd) | (apply sw_skip) | (apply sw_ret) | (apply sw_exit) | (apply sw_block) | (apply sw_region) | (refine sw_cd rfl ?_; (first | (apply gd_t) | (apply gd_ft))) | (apply at_thn) | (apply at_thn_exit) | (apply at_inb) | (apply at_inb_exit)))
  all_goals (skip)
  all_goals ((refine e_sv (by (exact .inr rfl)) rfl (by repeat ((exact List.Sublist.refl _))) ?_; rfl))
theorem cliCheck_sv (G : Ctx) (H : List Ent) (s : Scr) (f : Fre s) (S P N K : List Value) [hN : Len N 520] [hK : Len K 38] (h : CliS G H s S P) (buf : ByteArray) (ed : Bool) (hb : buf.size < 1024) (M : Int) (hM : ∀ H w, Holds G H w → w.cell? ⟨2, 0, none⟩ = some (.int .i64 M))
    (cN : ∀ H' : List Ent, SV Tryz.prog G 53 [.agg N.toArray] H' (.int .i64 0)) (cK : ∀ H' : List Ent, SV Tryz.prog G 54 [.agg K.toArray] H' (.int .i64 0)) :
    SV Tryz.prog G 23 [.agg (wkC S N P K (cliX buf ed)).toArray] H (.int .i64 0) := by
  obtain ⟨h1, na, nc, va, vc, rfl, h2, h3, h4⟩ := h
  haveI : Len S 33 := ⟨h1.len⟩
  obtain ⟨ga, gn, gc, oa, on, oc, pa, pn, pc, X, rfl, hg, ho, hp, hr, hX, hgn, hon, hpn, hgc, hoc⟩ := h1
  refine cliCheck_gen G H _ N K na 1 nc va 0 vc buf ed hb M hM (fun H' hh => ?_) cN (fun H' hh => ?_) e0 (fun H' hh => ?_) cK
  · haveI : RdC G H' ga (qds s.C) := ⟨fun w hw => hg.here w (hh w hw)⟩
    haveI : RdC G H' oa (qds s.D) := ⟨fun w hw => ho.here w (hh w hw)⟩
    haveI : RdC G H' pa (X.map rxV) := ⟨fun w hw => hp.here w (hh w hw)⟩
    exact scrCheck_sv G H' s f X ga gn gc oa on oc pa pn pc hgn hgc hon hoc hpn hX (hr.mono hh)
  · haveI : RdC G H' na (strs [xterm]) := ⟨fun w hw => h2.here w (hh w hw)⟩
    haveI : CapC G H' na 1 nc := ⟨fun w hw => h3.here w (hh w hw)⟩
    have h := sortsCheck_sv G H' [xterm] na 1 nc 0 rfl (fun x hx => by rw [List.mem_singleton] at hx; subst hx; decide) (by decide)
    rwa [show sortsE [xterm] 0 = 0 from by decide +kernel] at h
  · haveI : RdC G H' va (vrs []) := ⟨fun w hw => h4.here w (hh w hw)⟩
    have h := envWrite_sv G H' [] va 0 vc rfl rfl (by decide)
    rwa [show writeV [] = (e0, 0) from by decide +kernel] at h
end Go.Proofs.YtmbfechiallppaaGreatDoor
end
section
namespace Go.Sx
open Go Go.RowKit Go.Fw
theorem set_postS {a N c c' : List Value} {off m : Nat} {v : Value} [hN : Len N m] (h2 : Nat.ble (a.length + m) off = true) (h : c.set (off - (a.length + m)) v = c') : (big a N c).set off v = big a N c' := by
  have h2 := Nat.le_of_ble_eq_true h2
  have hN := hN.here
  subst h
  unfold big
  rw [List.set_append_right _ _ (by omega), List.set_append_right _ _ (by omega), hN, Nat.sub_sub]
theorem over_postS {a N c c' vs : List Value} {m off : Nat} [hN : Len N m] (h2 : Nat.ble (a.length + m) off = true) (h : over c (off - (a.length + m)) vs = c') : over (big a N c) off vs = big a N c' := by
  have h2 := Nat.le_of_ble_eq_true h2
  have hN := hN.here
  have e3 : (a ++ N).length = a.length + m := by rw [List.length_append, hN]
  subst h
  unfold over big
  rw [← List.append_assoc, List.take_append, List.take_of_length_le (by omega), List.drop_append, show (a ++ N).drop (off + vs.length) = [] from List.drop_eq_nil_of_le (by omega), e3, List.nil_append]
  simp only [List.append_assoc]
  congr 5
  omega
end Go.Sx
namespace Go.Proofs.YtmbfechiallppaaGreatDoor
open Go Go.RowKit Go.Fw Go.Sx
set_option maxRecDepth 100000
set_option maxHeartbeats 2000000
attribute [local irreducible] SW SL SQ AtQ SV SC BB LD PK Yields SO SOT SOA SY negC
theorem scrCloneS_sc (G : Ctx) (H : List Ent) (s : Scr) (f : Fre s) (S : List Value) (h : ScS G H s S) :
    SC Tryz.prog G 56 [.agg S.toArray] H fun v H' => ∃ S' E, v = .agg S'.toArray ∧ H' = E ++ H ∧ ScS G E s S' := by
  obtain ⟨ga, gn, gc, oa, on, oc, pa, pn, pc, X, rfl, hg, ho, hp, hr, hX, hgn, hon, hpn, hgc, hoc⟩ := h
  have h := scrClone_sc G H s f X ga gn gc oa on oc pa pn pc hgn hon hpn hX hr
  refine sc_imp h fun v H' => ?_
  rintro ⟨gb, gc2, ob, oc2, pa2, pc2, Y, E, rfl, rfl, r1, r2, r3, r4⟩
  refine ⟨_, .own 104 4 (some ⟨gb, 0, none⟩) gn gc2 (qds s.C) :: .own 126 1 pa2 Y.length pc2 (Y.map rxV) :: (E ++ [.own 104 4 (some ⟨ob, 0, none⟩) on oc2 (qds s.D)]), rfl, by simp, some ⟨gb, 0, none⟩, gn, gc2, some ⟨ob, 0, none⟩, on, oc2, pa2, Y.length, pc2, Y, rfl, ?_⟩
  exact ⟨inferInstance, ⟨Rd.mem (e := 104) (size := 4) (n := on) (c := oc2) (by simp)⟩, inferInstance, r1.mono (fun w hw => hw.sub (List.Sublist.cons _ (List.Sublist.cons _ (List.sublist_append_left E _)))), r2, hgn, hon, rfl, r3, r4⟩
theorem cliClone_gen (G : Ctx) (H : List Ent) (S N K : List Value) [hS : Len S 33] [hN : Len N 520] [hK : Len K 38] (na : Option Addr) (nn nc : Nat) (va : Option Addr) (vn vc : Nat) (buf : ByteArray) (ed : Bool) (l L : List Value) [h1 : RdC G H na l] [h2 : RdC G H va L]
    (hl : l.length = nn * 1) (hl1 : l.all (·.oneCell') = true) (hL : L.length = vn * 4) (hL1 : L.all (·.oneCell') = true) (hnn : nn ≤ 100000000) (hvn : vn ≤ 100000000) (R : List Value → List Ent → Prop) (hR : ∀ S' E, R S' E → S'.length = 33 ∧ S'.all (·.oneCell') = true) (hN1 : N.all (·.oneCell') = true) (hK1 : K.all (·.oneCell') = true) (hS1 : S.all (·.oneCell') = true)
    (cS : ∀ H' : List Ent, (∀ w, Holds G H' w → Holds G H w) → SC Tryz.prog G 56 [.agg S.toArray] H' fun v H'' => ∃ S' E, v = .agg S'.toArray ∧ H'' = E ++ H' ∧ R S' E) :
    SC Tryz.prog G 24 [.agg (wkC S N [.slice na nn nc, .int .i64 0, .slice va vn vc] K (cliX buf ed)).toArray] H fun v H' => ∃ S' E a1 c1 a2 c2, v = .agg (wkC S' N [.slice a1 nn c1, .int .i64 0, .slice a2 vn c2] K (cliX buf ed)).toArray ∧ R S' E ∧
      H' = .own 143 4 a2 vn c2 L :: .own 9 1 a1 nn c1 l :: (E ++ H) := by
  have cC1 := fun (H : List Ent) [RdC G H na l] => cloneS_sc G H na nn nc hl hl1 hnn
  have cC2 := fun (H : List Ent) [RdC G H va L] => cloneV_sc G H va vn vc hL hL1 hvn
  have hlen := fun (S a b : List Value) (hS : Len S 33) (ha : a.length = 3) (hb : b.length = 7) => wk_len (S := S) (N := N) (K := K) (P := a) (E := b) (k := 613) ha hb rfl
  have hone : ∀ (S a b : List Value), S.all (·.oneCell') = true → a.all (·.oneCell') = true → b.all (·.oneCell') = true → (wkC S N a K b).all (·.oneCell') = true := fun S a b hS ha hb => big_all rfl hS (big_all rfl hN1 (big_all ha hK1 hb))
  refine sc_enter1 Tryz.func24 rfl rfl rfl rfl rfl ?_
  repeat' ((first | (apply g_sl; (first | (apply ks_nil; refine sl_nil ?_) | (apply ks_load; (((refine s_load rfl rfl ?_; (refine ld_part (big_pmid rfl) rfl ?_))))) | (apply ks_field; (refine s_field (c_field0 rfl rfl) rfl ?_)) | (apply ks_fn; ((refine c_call rfl rfl rfl (cS _ (fun _ hw => hw.subs (by repeat ((exact Subs.sub (by repeat ((first | exact List.Sublist.refl _ | refine List.Sublist.cons _ ?_)))))))) rfl rfl ?_; rintro _ _ ⟨S', E, rfl, rfl, hRS⟩))) | (apply ks_store; (((((obtain ⟨hS', hS1'⟩ := hR _ _ hRS; haveI : Len S' 33 := ⟨hS'⟩; refine c_storepV (off := 12) rfl rfl rfl rfl hS1' hS' (by rw [hlen _ _ _ hS rfl rfl]; decide) (over_mid (m := 33) rfl hS') rfl ?_)))))) | (apply ks_box; refine c_box rfl rfl rfl rfl rfl rfl (fun _ => ?_)) | (apply ks_alloc; refine c_alloc rfl rfl rfl rfl (fun _ => ?_)))) | (apply sw_seq) | ((fail_if_success (refine g_reg (id := 2) ?_)); apply sw_region) | (apply at_thn)))
  rename_i b1 b2
  have hS' : Len S' 33 := inferInstance
  have hS1' := (hR _ _ hRS).2
  refine sw_cut1 (α := (Option Addr × Nat) × Option Addr × Nat) (fun _ => [(1, .pointer (some ⟨b1, 0, none⟩)), (2, .pointer (some ⟨b2, 0, none⟩))])
    (fun g => .blk b1 55 (big cli0 S' (big [] N (big [.slice g.1.1 nn g.1.2, .int .i64 0, .slice g.2.1 vn g.2.2] K (cliX buf ed)))) :: .own 143 4 g.2.1 vn g.2.2 L :: .own 9 1 g.1.1 nn g.1.2 l :: (E ++ .blk b2 55 cliZ :: H)) (fun _ => True) ?_ ?_
  · repeat' ((first | (apply g_sl; (first | (apply ks_nil; refine sl_nil ?_) | (apply ks_load; (((refine s_load rfl rfl ?_; (refine ld_cell (big_post rfl (big_post rfl (big_pre rfl))) ?_))))) | (apply ks_fn; ((first | (refine c_call rfl rfl rfl (cC1 _) rfl rfl ?_; rintro _ _ ⟨a1, c1, rfl, rfl⟩) | (refine c_call rfl rfl rfl (cC2 _) rfl rfl ?_; rintro _ _ ⟨a2, c2, rfl, rfl⟩)))) | (apply ks_store; ((((refine c_storekV rfl rfl rfl rfl rfl (set_postS rfl (set_postS rfl (set_pre rfl))) (by rw [hlen _ _ _ (by assumption) rfl rfl]; decide) rfl ?_))))))) | (apply g_atso; refine so_back (k := 0) (fun _ hw => hw.subs (by repeat ((exact Subs.sub (by repeat ((first | exact List.Sublist.refl _ | refine List.Sublist.cons _ ?_))))))) ?_) | (apply g_sot; (first | (refine sot_skip rfl ?_) | (refine sot_take rfl rfl rfl rfl (by kernel_rfl) (by decide +kernel) (by decide +kernel) ?_; (((apply ky_field; (first | refine sy_val (c_field0 rfl rfl) ?_ | refine sy_val (c_field rfl rfl) ?_))))) | (refine sot_next rfl ?_) | (refine so_done (by decide +kernel) ?_) | (refine sot_all (by kernel_rfl) ?_))) | (apply g_soa; (first | (refine soa_end rfl) | (refine soa_no (by decide +kernel) ?_) | (refine soa_yes rfl ?_ ?_))) | ((refine g_reg (id := 2) ?_; refine c_drawnoB (b := b1) ?_))))
    all_goals exact at_meet ((a1, c1), a2, c2) trivial (by repeat ((first | exact Le.nil _ | refine Le.cons (by (rfl)) ?_))) (fun _ hw => hw.subs (by repeat ((first | refine Subs.cons (by repeat constructor) ?_ | exact Subs.sub (by repeat ((exact List.Sublist.refl _)))))))
  rintro ⟨⟨a1, c1⟩, a2, c2⟩ -
  have hz : cliZ.length = 613 := by unfold cliZ; exact big_len (m := 520) (by rw [show (big [Value.slice none 0 0, .int .i64 0, .slice none 0 0] keyZ cliE).length = 48 from big_len (m := 38) rfl]; rfl)
  have hw := hlen S' [.slice a1 nn c1, .int .i64 0, .slice a2 vn c2] (cliX buf ed) hS' rfl rfl
  have hw1 := hone S' [.slice a1 nn c1, .int .i64 0, .slice a2 vn c2] (cliX buf ed) hS1' rfl rfl
  repeat' ((first | (apply g_sl; (first | (apply ks_nil; refine sl_nil ?_) | (apply ks_load; (((refine s_load rfl rfl ?_; refine ld_whole (by rw [hw]; rfl) ?_)))) | (apply ks_store; ((((refine c_storewV rfl rfl rfl rfl hw1 hw hz rfl ?_))))))) | (apply sw_seq) | (apply sw_ret) | (apply sw_region) | (apply at_thn)))
  refine e_scc (.own 143 4 a2 vn c2 L :: .own 9 1 a1 nn c1 l :: (E ++ H)) (.inr rfl) rfl hw rfl (fun _ hh => hh.sub (List.Sublist.cons _ (List.Sublist.cons _ (List.Sublist.refl _)))) ?_
  exact ⟨S', E, a1, c1, a2, c2, rfl, hRS, rfl⟩
theorem cliClone_sc (G : Ctx) (H : List Ent) (s : Scr) (f : Fre s) (S P N K : List Value) [hN : Len N 520] [hK : Len K 38] (h : CliS G H s S P) (buf : ByteArray) (ed : Bool) (hN1 : N.all (·.oneCell') = true) (hK1 : K.all (·.oneCell') = true) :
    SC Tryz.prog G 24 [.agg (wkC S N P K (cliX buf ed)).toArray] H fun v H' => ∃ S' P' E, v = .agg (wkC S' N P' K (cliX buf ed)).toArray ∧ H' = E ++ H ∧ CliS G E s S' P' := by
  obtain ⟨h1, na, nc, va, vc, rfl, h2, h3, h4⟩ := h
  haveI : Len S 33 := ⟨h1.len⟩
  have h := cliClone_gen G H S N K na 1 nc va 0 vc buf ed (strs [xterm]) (vrs []) rfl rfl rfl rfl (by decide) (by decide) (fun S' E => ScS G E s S') (fun S' E hh => ⟨hh.len, hh.one⟩) hN1 hK1 h1.one (fun H' hh => scrCloneS_sc G H' s f S (h1.mono hh))
  refine sc_imp h fun v H' => ?_
  rintro ⟨S', E, a1, c1, a2, c2, rfl, hS, rfl⟩
  exact ⟨S', _, .own 143 4 a2 0 c2 (vrs []) :: .own 9 1 a1 1 c1 (strs [xterm]) :: E, rfl, rfl, hS.mono (fun w hw => hw.sub (List.Sublist.cons _ (List.Sublist.cons _ (List.Sublist.refl E)))), a1, c1, a2, c2, rfl, inferInstance, inferInstance, inferInstance⟩
end Go.Proofs.YtmbfechiallppaaGreatDoor
end
section
namespace Go.Proofs.YtmbfechiallppaaGreatDoor
open Go Go.RowKit Go.Fw Go.Sx
set_option maxRecDepth 100000
set_option maxHeartbeats 2000000
attribute [local irreducible] SW SL SQ AtQ SV SC BB LD PK Yields SO SOT SOA SY negC
abbrev cliW (buf : ByteArray) (ed : Bool) (sent : ByteArray) : List Value := [.int .u64 0, .int .u64 0, .int .u64 0, .int .u64 0, .string buf, .bool false, .bool ed, .string sent]
theorem us_sv (G : Ctx) (H : List Ent) (wb : Nat) (S N P K E : List Value) [hS : Len S 33] [hN : Len N 520] [hb : HasBlk H wb 101 (wkC S N P K E)] (opt : Int) (ho : 0 ≤ opt ∧ opt ≤ 255) (u : Int) (hu : N[opt.toNat]? = some (.int .u8 u)) (b : Bool) (hub : (u == 1) = b) : SV Tryz.prog G 63 [.pointer (some ⟨wb, 0, none⟩), .int .i64 opt] H (.bool b) := by
  have hv : (wkC S N P K E)[45 + opt.toNat * 1]? = some (.int .u8 u) := by
    refine big_post (m := 33) (Nat.ble_eq_true_of_le (by show 45 ≤ _; omega)) ?_
    refine big_mid (Nat.zero_le _) ?_
    rw [show 45 + opt.toNat * 1 - (cli0.length + 33) - ([] : List Value).length = opt.toNat from by show 45 + opt.toNat * 1 - 45 - 0 = _; omega]
    exact hu
  generalize wkC S N P K E = cs at *
  refine sv_enter2 Tryz.func63 rfl rfl rfl rfl rfl ?_
  repeat' ((first | (apply g_sl; (first | (apply ks_nil; refine sl_nil ?_) | (apply ks_move; refine s_move rfl rfl ?_) | (apply ks_bin; refine s_bin rfl rfl rfl ?_; ((((refine bb_of rfl ?_))))) | (apply ks_load; (((refine s_load rfl rfl ?_; refine ld_cell hv ?_)))) | (apply ks_asgn; refine s_asgn rfl rfl ?_) | (apply ks_field; (first | refine s_field (c_field0 rfl rfl) rfl ?_ | refine s_field (c_field rfl rfl) rfl ?_)) | (apply ks_indexA; (((refine s_indexA (c_indexP rfl rfl rfl (by omega) (by omega)) rfl ?_)))) | (apply ks_nilc; refine s_nilc (y_nilCheck rfl rfl) rfl ?_))) | (apply sw_seq) | (apply sw_ret) | (apply sw_region) | (apply at_thn)))
  refine e_sv (by (exact .inr rfl)) rfl (by repeat ((exact List.Sublist.refl _))) ?_
  exact congrArg Value.bool hub
theorem him_sv (G : Ctx) (H : List Ent) (wb : Nat) (S N P K E : List Value) [hS : Len S 33] [hN : Len N 520] [hb : HasBlk H wb 101 (wkC S N P K E)] (opt : Int) (ho : 0 ≤ opt ∧ opt ≤ 255) (u : Int) (hu : N[256 + opt.toNat]? = some (.int .u8 u)) (b : Bool) (hub : (u == 1) = b) : SV Tryz.prog G 102 [.pointer (some ⟨wb, 0, none⟩), .int .i64 opt] H (.bool b) := by
  have hv : (wkC S N P K E)[301 + opt.toNat * 1]? = some (.int .u8 u) := by
    refine big_post (m := 33) (Nat.ble_eq_true_of_le (by show 45 ≤ _; omega)) ?_
    refine big_mid (Nat.zero_le _) ?_
    rw [show 301 + opt.toNat * 1 - (cli0.length + 33) - ([] : List Value).length = 256 + opt.toNat from by show 301 + opt.toNat * 1 - 45 - 0 = _; omega]
    exact hu
  generalize wkC S N P K E = cs at *
  refine sv_enter2 Tryz.func102 rfl rfl rfl rfl rfl ?_
  repeat' ((first | (apply g_sl; (first | (apply ks_nil; refine sl_nil ?_) | (apply ks_move; refine s_move rfl rfl ?_) | (apply ks_bin; refine s_bin rfl rfl rfl ?_; ((((refine bb_of rfl ?_))))) | (apply ks_load; (((refine s_load rfl rfl ?_; refine ld_cell hv ?_)))) | (apply ks_asgn; refine s_asgn rfl rfl ?_) | (apply ks_field; (first | refine s_field (c_field0 rfl rfl) rfl ?_ | refine s_field (c_field rfl rfl) rfl ?_)) | (apply ks_indexA; (((refine s_indexA (c_indexP rfl rfl rfl (by omega) (by omega)) rfl ?_)))) | (apply ks_nilc; refine s_nilc (y_nilCheck rfl rfl) rfl ?_))) | (apply sw_seq) | (apply sw_ret) | (apply sw_region) | (apply at_thn)))
  refine e_sv (by (exact .inr rfl)) rfl (by repeat ((exact List.Sublist.refl _))) ?_
  exact congrArg Value.bool hub
theorem text_sc (G : Ctx) (H : List Ent) (M : Int) (hM : ∀ H w, Holds G H w → w.cell? ⟨2, 0, none⟩ = some (.int .i64 M)) (wb : Nat) (S N : List Value) (p0 p1 p2 : Value) (K : List Value) [hS : Len S 33] [hN : Len N 520] [hK : Len K 38] (buf : ByteArray) (ed : Bool) (sent : ByteArray) (u : Int) (hu : N[0]? = some (.int .u8 u)) (hub : (u == 1) = false)
    (d d1 d2 : ByteArray) (hd : d.size ≤ 1048576) (h1 : strOfNums (u8s (d.data.toList.flatMap outB)) = d1) (hd1 : d1.size ≤ 4000000) (h2 : escS d1 = d2) (hz : sent.size ≤ 4000000) (hz2 : d2.size ≤ 8000000) :
    SC Tryz.prog G 61 [.pointer (some ⟨wb, 0, none⟩), .string d] (.blk wb 101 (wkC S N [p0, p1, p2] K (cliW buf ed sent)) :: H) fun v H' => v = resV [] ∧ H' = .blk wb 101 (wkC S N [p0, p1, p2] K (cliW buf ed (sent ++ d2))) :: H := by
  have cU := fun (H : List Ent) [HasBlk H wb 101 (wkC S N [p0, p1, p2] K (cliW buf ed sent))] => us_sv G H wb S N [p0, p1, p2] K (cliW buf ed sent) 0 (by decide) u hu false hub
  have cO := fun H => nvtOut_sv G H d hd
  have cE := fun H => escape_sv G H M (hM H) d1 hd1
  rw [h1] at cO
  rw [h2] at cE
  have hlen := wk_len (S := S) (N := N) (K := K) (P := [p0, p1, p2]) (E := cliW buf ed sent) (k := 614) rfl rfl rfl
  refine sc_enter2 Tryz.func61 rfl rfl rfl rfl rfl ?_
  repeat' ((first | (apply g_sl; (first | (apply ks_nil; refine sl_nil ?_) | (apply ks_load; (((refine s_load rfl rfl ?_; (refine ld_cell (big_post rfl (big_post rfl (big_post rfl rfl))) ?_))))) | (apply ks_fn; ((first | refine c_callv rfl rfl rfl (cU _) rfl rfl ?_ | refine c_callv rfl rfl rfl (cO _) rfl rfl ?_ | refine c_callv rfl rfl rfl (cE _) rfl rfl ?_))) | (apply ks_store; ((((refine c_storekV rfl rfl rfl rfl rfl (set_postS rfl (set_postS rfl (set_post rfl rfl))) (by rw [hlen]; decide) rfl ?_))))))) | (apply g_atso; refine so_back (k := 0) (fun _ hw => hw.subs (by repeat ((exact Subs.sub (by repeat ((first | exact List.Sublist.refl _ | refine List.Sublist.cons _ ?_))))))) ?_) | (apply g_sot; (first | (refine sot_skip rfl ?_) | (refine sot_take rfl rfl rfl rfl (by kernel_rfl) (by decide +kernel) (by decide +kernel) ?_; ((first | (apply ky_move; refine sy_val (y_move rfl rfl) ?_) | (apply ky_bin; refine sy_bin rfl rfl ?_; (((refine bb_cat (by omega) ?_)))) | (apply ky_field; (refine sy_val (c_field0 rfl rfl) ?_)) | (apply ky_nilc; refine sy_val (y_nilCheck rfl rfl) ?_)))) | (refine sot_next rfl ?_) | (refine so_done (by decide +kernel) ?_) | (refine sot_all (by kernel_rfl) ?_))) | (apply g_soa; (first | (refine soa_end rfl) | (refine soa_no (by decide +kernel) ?_) | (refine soa_yes rfl ?_ ?_))) | ((refine g_reg (id := 0) ?_; refine c_drawnoB (b := wb) ?_))))
  all_goals
    refine e_scf _ (by (exact .inl rfl)) rfl (fun _ hw => hw) ?_
    exact ⟨rfl, rfl⟩
end Go.Proofs.YtmbfechiallppaaGreatDoor
end
section
namespace Go.Proofs.YtmbfechiallppaaGreatDoor
open Go Go.RowKit Go.Fw Go.Sx
set_option maxRecDepth 100000
set_option maxHeartbeats 2000000
attribute [local irreducible] SW SL SQ AtQ SV SC BB LD PK Yields SO SOT SOA SY negC
theorem showS_sc (G : Ctx) (H : List Ent) (M : Int) (hM : ∀ H w, Holds G H w → w.cell? ⟨2, 0, none⟩ = some (.int .i64 M)) (s s' : Scr) (f : Fre s) (S : List Value) (h : ScS G H s S) (L : List Int) (ha : acts s (runP p00 L).2 s') (ao : Option Addr) (n co : Nat) [h4 : RdC G H ao (ints L)] (hn : n = L.length) (hmn : n ≤ 4000000) :
    SC Tryz.prog G 16 [.agg S.toArray, .slice ao n co] H fun v H' => ∃ S' E, v = .tuple #[.agg S'.toArray, .string ⟨#[]⟩, .int .i64 0] ∧ H' = E ++ H ∧ ScS G E s' S' := by
  obtain ⟨ga, gn, gc, oa, on, oc, pa, pn, pc, X, rfl, hS⟩ := h
  refine sc_imp (show_sc G H M hM s s' f X ga gn gc oa on oc pa pn pc hS L ha okP_0 ao n co hn hmn) fun v H' => ?_
  rintro ⟨ga2, gn2, gc2, oa2, on2, oc2, pa2, pn2, pc2, X2, E, rfl, rfl, hS2⟩
  exact ⟨_, E, rfl, rfl, ga2, gn2, gc2, oa2, on2, oc2, pa2, pn2, pc2, X2, rfl, hS2⟩
theorem display_sc (G : Ctx) (H : List Ent) (M : Int) (hM : ∀ H w, Holds G H w → w.cell? ⟨2, 0, none⟩ = some (.int .i64 M)) (hT : ∀ H w, Holds G H w → Lib.Utf8Tabs 0 1 w)
    (s s' : Scr) (f : Fre s) (wb : Nat) (S N : List Value) (p0 p1 p2 : Value) (K : List Value) [hN : Len N 520] [hK : Len K 38] (buf : ByteArray) (ed : Bool) (sent : ByteArray) (h : ScS G H s S)
    (d d1 : ByteArray) (hd : d.size ≤ 4000) (h1 : (⟨(d.data.toList.flatMap (fun b => if b = 13 then [13, 10] else [b])).toArray⟩ : ByteArray) = d1) (hd1 : d1.size ≤ 8000) (r : ByteArray) (L : List Int) (e : Int) (hf : feedU ⟨#[]⟩ d1 = (r, L, e)) (hL : L.length ≤ 100000) (ha : acts s (runP p00 L).2 s') :
    SC Tryz.prog G 103 [.pointer (some ⟨wb, 0, none⟩), .string d] (.blk wb 101 (wkC S N [p0, p1, p2] K (cliW buf ed sent)) :: H) fun v H' => ∃ S' E, v = resV [] ∧ H' = .blk wb 101 (wkC S' N [p0, p1, p2] K (cliW buf ed sent)) :: (E ++ H) ∧ ScS G E s' S' := by
  haveI hS : Len S 33 := ⟨h.len⟩
  have cR : ∀ H', SV Tryz.prog G 44 [.string d, .string ⟨#[13]⟩, .string ⟨#[13, 10]⟩] H' (.string d1) := fun H' => by
    have h := replAll_sv G H' M (hM H') d (by omega) 13 [13, 10] (by decide) (by decide)
    rw [h1] at h
    exact h
  have cF := fun H => feed_sc G H hT ⟨#[]⟩ d1 (by decide) (by omega)
  rw [hf] at cF
  dsimp only at cF
  have cW := fun (H' : List Ent) (hh : ∀ w, Holds G H' w → Holds G H w) (ao : Option Addr) (co : Nat) (h4 : RdC G H' ao (ints L)) => showS_sc G H' M hM s s' f S (h.mono hh) L ha ao L.length co rfl (by omega)
  have hlen := wk_len (S := S) (N := N) (K := K) (P := [p0, p1, p2]) (E := cliW buf ed sent) (k := 614) rfl rfl rfl
  clear hM hT
  refine sc_enter2 Tryz.func103 rfl rfl rfl rfl rfl ?_
  repeat' ((first | (apply g_sl; (first | (apply ks_nil; refine sl_nil ?_) | (apply ks_move; refine s_move rfl rfl ?_) | (apply ks_load; (((refine s_load rfl rfl ?_; (refine ld_part (big_pmid rfl) rfl ?_))))) | (apply ks_asgn; refine s_asgn rfl rfl ?_) | (apply ks_field; (refine s_field (c_field0 rfl rfl) rfl ?_)) | (apply ks_extr; refine s_extr (y_extract rfl rfl rfl) rfl ?_) | (apply ks_nilc; refine s_nilc (y_nilCheck rfl rfl) rfl ?_) | (apply ks_fn; ((first | refine c_callv rfl rfl rfl (cR _) rfl rfl ?_ | (refine c_call rfl rfl rfl (cF _) rfl rfl ?_; rintro _ _ ⟨ao, co, rfl, rfl⟩) | (refine c_call rfl rfl rfl (cW _ (fun _ hw => hw.subs (by repeat ((exact Subs.sub (by repeat ((first | exact List.Sublist.refl _ | refine List.Sublist.cons _ ?_))))))) _ _ inferInstance) rfl rfl ?_; rintro _ _ ⟨S', E, rfl, rfl, hS2⟩; (have hl2 := hS2.len); (have ho2 := hS2.one))))) | (apply ks_store; ((((refine c_storepV (off := 12) rfl rfl rfl rfl ho2 hl2 (by rw [hlen]; decide) (over_mid (m := 33) rfl hl2) rfl ?_))))))) | (apply sw_seq) | (apply sw_region) | (apply at_thn)))
  refine e_scf _ (by (exact .inl rfl)) rfl (fun _ hw => hw) ?_
  exact ⟨S', E ++ [.own 3 1 ao L.length co (ints L)], rfl, by simp, hS2.mono (fun w hw => hw.sub (List.sublist_append_left E _))⟩
end Go.Proofs.YtmbfechiallppaaGreatDoor
end
section
namespace Go.Proofs.YtmbfechiallppaaGreatDoor
open Go Go.RowKit Go.Fw Go.Sx
set_option maxRecDepth 100000
set_option maxHeartbeats 1000000
attribute [local irreducible] SW SL SQ AtQ SV SC BB LD PK Yields SO SOT SOA SY
theorem nums_nil0' {s : ByteArray} (h : s.size = 0) : s = ⟨#[]⟩ := nums_inj (List.eq_nil_of_length_eq_zero (by rw [nums_length]; exact h))
theorem repB_sv (G : Ctx) (H : List Ent) (n : Nat) (hn : n ≤ 100000) : SV Tryz.prog G 252 [.string ⟨#[8, 32, 8]⟩, .int .i64 n] H (.string (backS n)) :=
  sv_of_calls (callee_of Tryz.func252 rfl rfl) fun w _ => Tryz.strings_Repeat ⟨#[8, 32, 8]⟩ n w (by omega) (by show 3 * n ≤ _; omega)
theorem trimB_sv (G : Ctx) (H : List Ent) (s : ByteArray) (hs : s.size ≤ 100000) : SV Tryz.prog G 215 [.string s, .string ⟨#[32]⟩] H (.string (trimS s)) :=
  sv_of_calls (callee_of Tryz.func215 rfl rfl) fun w _ => (Tryz.strings_TrimRight_one s 32 (by decide) w (by omega)).mono fun e w' ⟨h1, h2⟩ => ⟨h1, by rw [h2]; exact Below.refl _ _⟩
theorem lastB_sv (G : Ctx) (H : List Ent) (s : ByteArray) (hs : s.size ≤ 100000) : SV Tryz.prog G 216 [.string s, .int .u8 32] H (.int .i64 (lastS s)) :=
  sv_of_calls (callee_of Tryz.func216 rfl rfl) fun w _ => (Tryz.strings_LastIndexByte s 32 (by omega) w).mono fun e w' ⟨h1, h2⟩ => ⟨h1, by rw [h2]; exact Below.refl _ _⟩
end Go.Proofs.YtmbfechiallppaaGreatDoor
end
