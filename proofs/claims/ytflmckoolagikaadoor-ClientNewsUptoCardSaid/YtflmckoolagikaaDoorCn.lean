/- farlaw.ClientNews returns true for every input of bulk at most 1048576, and each argument reads as it read. -/
import Derived.Test.YtflmckoolagikaaDoorCn5
import Derived.Test.YtflmckoolagikaaDoorRows
import Derived.WalkKit
import Derived.WalkSpells
import Derived.WalkLawsBesides
import Derived.Handy
import Derived.Lib.Hide
import Derived.Laws.BitsAllLaws
import Derived.Deep.MidRow
import Derived.Deep.WholeRow
import Derived.ProofKit
import Derived.OpenShut
import Derived.JoinedCond
import Derived.SliceStrings
import Derived.BigQuiet
import Derived.Laws.CopyOwn
import Derived.Deep.QuietTactic
import Derived.Laws.AppendOwnNone
import Derived.Laws.MakeOwn
import Derived.Laws.IdiomStrings
import Derived.OrdersHeld
import Derived.Lib.SliceRun
import Derived.ChangeKeysEq
import Derived.Laws.CopyRow
import Derived.Test.YtflmckoolagikaaDoorCards
import Derived.Test.YtflmckoolagikaaDoorTie
import Derived.Deep.DeepHandedRow
import Derived.Shelf.Vars
import Derived.Lib.AppendStr
import Derived.ArgAppend
import Derived.Laws.RangeAny
import Derived.Maps.RangeRun
import Derived.StillTailTactics
import Derived.RegionTactic
import Derived.ChangeAlike
import Derived.Lib.Replace
import Derived.Lib.Join
import Derived.Lib.IndexLaws
import Derived.Shelf.Strings.Builder1
import Derived.Shelf.Strings.Builder2
import Derived.Shelf.Strings.OnBuilder
import Derived.Shelf.Strings.Trim
import Derived.Shelf.Small.Utf8
import Derived.Shelf.Small.Strs
import Derived.Shelf.Strings.BuilderF
import Derived.Shelf.Utf8.RuneCount
import Derived.Shelf.Strconv.Atoi
import Derived.Shelf.Strconv.Itoa0
import Derived.Shelf.Strconv.Itoa1
import Derived.Shelf.LaysM
import Derived.Shelf.Strconv.Itoa2
import Derived.Shelf.Strconv.Itoa3
import Derived.Shelf.Strconv.AtoiErrFast
import Derived.Shelf.Strconv.ParseIntEmpty
import Derived.Shelf.Strconv.AtoiFail
import Derived.Shelf.Strconv.Clone
import Derived.Shelf.Strconv.SyntaxError
import Derived.Shelf.LaysC
import Derived.Shelf.Strconv.ToError
import Derived.Shelf.Strconv.AtoiErr
import Derived.Shelf.Strconv.Lower
import Derived.Shelf.Strconv.ParseUint10
import Derived.Shelf.Strconv.ParseUint10Empty
import Derived.Shelf.Strconv.ParseUint10Any
import Derived.Shelf.Strconv.ParseInt10
import Derived.Shelf.Strconv.AtoiLong
import Derived.Shelf.Strconv.AtoiInnerAll
import Derived.Shelf.Strconv.RangeError
import Derived.Shelf.Strconv.ToErrorRange
import Derived.Shelf.Strconv.AtoiAll
import Derived.Shelf.Strconv.ErrVarAll
import Derived.Shelf.Strings.Search1
import Derived.Shelf.Strings.Search2
import Derived.Shelf.Strings.Search3
import Derived.Shelf.Strings.Count
import Derived.Shelf.Strings.Shaped
import Derived.Shelf.Strings.Prefix
import Derived.Shelf.Strings.Split
import Derived.Shelf.Strings.Replace
import Derived.Shelf.Strings.SplitShaped
import Derived.Shelf.Unicode.Decode
import Derived.Shelf.Strings.Runes
import Derived.Shelf.Strings.RuneCount
import Derived.Shelf.Strings.AsciiSet
import Derived.Shelf.Strings.Explode
import Derived.Shelf.Bits.Mul64
import Derived.Shelf.Strings.Repeat
import Derived.Shelf.Unicode.DecodeSlow
import Derived.Shelf.Unicode.DecodeAny
import Derived.Shelf.Unicode.DecodeLast
import Derived.Shelf.Slices.Equal
import Derived.Ground.Names2Prog
import Derived.Shelf.Slices.Clone
import Derived.Ground.SlgnProg
import Derived.Shelf.SlicesE.Clone
import Derived.Shelf.Unicode.ValidAny
import Derived.Test.YtflmckoolagikaaDoorProg
namespace Go.Proofs.YtflmckoolagikaaDoor
open Go Go.RowKit Go.Fw Go.Sx Go.ChangeShapes Go.WideShapes Go.ChangeAt
set_option maxRecDepth 100000
set_option maxHeartbeats 2000000
attribute [local irreducible] SW SL SQ AtQ SV SC BB LD PK Yields SO SOT SOA SY negC
theorem own : ownKnob Tryd.prog.godebug = none := by kernel_rfl
theorem laidOut : laidOutB Tryd.prog = true := by kernel_rfl
abbrev A3 := Int
abbrev en3 : A3 → List Value := fun z => [.int .i64 z]
abbrev ok3 : World → A3 → Prop := fun _ z => (Lit.int .i64 z).wf = true
abbrev bk3 : A3 → Nat := fun _ => 0
theorem tr3 : Tr Tryd.prog 3 A3 en3 ok3 bk3 := Tr.int Tryd.underlying3 (by kernel_rfl)
abbrev A9 := ByteArray
abbrev en9 : A9 → List Value := fun z => [.string z]
abbrev ok9 : World → A9 → Prop := fun _ z => z.size ≤ maxLen
abbrev bk9 : A9 → Nat := fun z => z.size
theorem tr9 : Tr Tryd.prog 9 A9 en9 ok9 bk9 := Tr.str Tryd.underlying9 (by kernel_rfl)
abbrev A50 := Rx A9
abbrev en50 : A50 → List Value := fun x => [rxV x]
abbrev ok50 : World → A50 → Prop := fun W x => x.2.2.length ≤ x.2.1 ∧ x.2.2.length ≤ maxLen ∧ At W x.1 (x.2.2.flatMap en9) ∧ ∀ y ∈ x.2.2, ok9 W y
abbrev bk50 : A50 → Nat := fun x => (x.2.2.map fun y => bk9 y + 1).sum
theorem tr50 : Tr Tryd.prog 50 A50 en50 ok50 bk50 := Tr.slice tr9 Tryd.underlying50 (by kernel_rfl) (of_decide_eq_true (by kernel_rfl))
abbrev A4 := Bool
abbrev en4 : A4 → List Value := fun z => [.bool z]
abbrev ok4 : World → A4 → Prop := fun _ _ => True
abbrev bk4 : A4 → Nat := fun _ => 0
theorem tr4 : Tr Tryd.prog 4 A4 en4 ok4 bk4 := Tr.bool Tryd.underlying4 (by kernel_rfl)
abbrev A121 := (A9) × (A9) × (A4) × (A4)
abbrev en121 : A121 → List Value := fun p => en9 p.1 ++ (en9 p.2.1 ++ (en4 p.2.2.1 ++ (en4 p.2.2.2)))
abbrev ok121 : World → A121 → Prop := fun W p => ok9 W p.1 ∧ ok9 W p.2.1 ∧ ok4 W p.2.2.1 ∧ ok4 W p.2.2.2
abbrev bk121 : A121 → Nat := fun p => bk9 p.1 + (bk9 p.2.1 + (bk4 p.2.2.1 + (bk4 p.2.2.2)))
theorem tr121 : Tr Tryd.prog 121 A121 en121 ok121 bk121 := Tr.struct (l := [(0, 9), (1, 9), (2, 4), (3, 4)]) (n := 4) (TrS.cons (o := 0) (o' := 1) (n := 4) tr9 (by kernel_rfl) (TrS.cons (o := 1) (o' := 2) (n := 4) tr9 (by kernel_rfl) (TrS.cons (o := 2) (o' := 3) (n := 4) tr4 (by kernel_rfl) (TrS.one (o := 3) (n := 4) tr4 (by kernel_rfl))))) Tryd.underlying121 (by kernel_rfl) (by kernel_rfl)
abbrev A47 := Rx A121
abbrev en47 : A47 → List Value := fun x => [rxV x]
abbrev ok47 : World → A47 → Prop := fun W x => x.2.2.length ≤ x.2.1 ∧ x.2.2.length ≤ maxLen ∧ At W x.1 (x.2.2.flatMap en121) ∧ ∀ y ∈ x.2.2, ok121 W y
abbrev bk47 : A47 → Nat := fun x => (x.2.2.map fun y => bk121 y + 1).sum
theorem tr47 : Tr Tryd.prog 47 A47 en47 ok47 bk47 := Tr.slice tr121 Tryd.underlying47 (by kernel_rfl) (of_decide_eq_true (by kernel_rfl))
abbrev A51 := Int
abbrev en51 : A51 → List Value := fun z => [.int .u64 z]
abbrev ok51 : World → A51 → Prop := fun _ z => (Lit.int .u64 z).wf = true
abbrev bk51 : A51 → Nat := fun _ => 0
theorem tr51 : Tr Tryd.prog 51 A51 en51 ok51 bk51 := Tr.int Tryd.underlying51 (by kernel_rfl)
abbrev A52 := {L : List A51 // L.length = 4}
abbrev en52 : A52 → List Value := fun L => L.1.flatMap en51
abbrev ok52 : World → A52 → Prop := fun W L => ∀ y ∈ L.1, ok51 W y
abbrev bk52 : A52 → Nat := fun _ => 0
theorem tr52 : Tr Tryd.prog 52 A52 en52 ok52 bk52 := Tr.array tr51 Tryd.underlying52 (by kernel_rfl)
abbrev A54 := (A52) × (A52)
abbrev en54 : A54 → List Value := fun p => en52 p.1 ++ (en52 p.2)
abbrev ok54 : World → A54 → Prop := fun W p => ok52 W p.1 ∧ ok52 W p.2
abbrev bk54 : A54 → Nat := fun p => bk52 p.1 + (bk52 p.2)
theorem tr54 : Tr Tryd.prog 54 A54 en54 ok54 bk54 := Tr.struct (l := [(0, 52), (4, 52)]) (n := 8) (TrS.cons (o := 0) (o' := 4) (n := 8) tr52 (by kernel_rfl) (TrS.one (o := 4) (n := 8) tr52 (by kernel_rfl))) Tryd.underlying54 (by kernel_rfl) (by kernel_rfl)
theorem eqVar_sv (G : Ctx) (H : List Ent) (L : List Vr) {vs us : List Value} (a a2 : Option Addr) (n m c c2 : Nat) [h1 : RdC G H a vs] [h2 : RdC G H a2 us] (hv : vs = vrs L) (hu : us = vrs L) (hn : n = L.length) (hn2 : m = L.length) (hm : n ≤ 9223372036854775807) : SV Tryd.prog G 67 [.slice a n c, .slice a2 m c2] H (.bool true) := by
  obtain rfl : m = n := by omega
  have hlx : vs.length = m * 4 := by rw [hv, vrs_len, hn]
  have hlu : us.length = m * 4 := by rw [hu, vrs_len, hn]
  have hel : ∀ (k : Nat) x, L[k]? = some x → take? (vs.drop ((k : Int).toNat * 4)) 4 = some (vrC x) ∧ take? (us.drop ((k : Int).toNat * 4)) 4 = some (vrC x) := fun k x hx => by subst hv; subst hu; exact ⟨fm_elem hx, fm_elem hx⟩
  have Hn := Lib.hid hn
  have Hel := Lib.hid hel
  clear hel hv hu hn hn2
  refine sv_enter2 Tryd.func67 rfl rfl rfl rfl rfl ?_
  repeat' (first | (apply g_sl; first | (apply ks_nil; refine sl_nil ?_) | (apply ks_move; refine s_move rfl rfl ?_) | (apply ks_bin; refine s_bin rfl rfl rfl ?_; first | fail | (first | (apply kb_add; first | refine bb_add ⟨by omega, by omega⟩ ?_ | refine bb_of rfl ?_) | refine bb_of rfl ?_)) | (apply ks_load; first | (refine s_load rfl rfl ?_; first | refine ld_cell rfl ?_ | refine ld_whole rfl ?_ | refine ld_elem rfl ?_ | refine ld_part rfl rfl ?_) | fail) | (apply ks_asgn; refine s_asgn rfl rfl ?_) | (apply ks_indexA; first | refine s_indexA (c_indexAddr rfl rfl rfl rfl (by omega) (by omega)) rfl ?_ | fail) | (apply ks_bi; first | fail | refine s_call (c_len rfl rfl) rfl ?_ | refine s_call (c_len_str rfl rfl) rfl ?_ | refine s_call (c_bi rfl rfl rfl rfl) rfl ?_ | refine c_append rfl rfl rfl rfl (by first | rfl | simp [ints]) (by first | rfl | exact ints_one _ | exact octs_one _ | exact strs_one _) (by omega) rfl rfl (fun _ _ => ?_) | refine c_append_nil rfl rfl rfl rfl (by first | rfl | simp [ints]) (by first | rfl | exact ints_one _ | exact octs_one _ | exact strs_one _) (by omega) rfl rfl (fun _ _ => ?_)) | fail) | (apply sw_seq) | (apply at_srd) | (apply sw_skip) | (apply sw_ret) | (apply sw_exit) | (apply sw_block) | (apply sw_region) | (refine sw_cd rfl ?_; first | (apply gd_t) | (apply gd_ft) | (apply gd_tf) | (apply gd_dec_t <;> intro hq <;> (try (exfalso; omega))) | (apply gd_dec_f <;> intro hq <;> (try (exfalso; omega))) | (apply gd_beq_t <;> intro hq <;> (try (exfalso; omega))) | (apply gd_beq_f <;> intro hq <;> (try (exfalso; omega))) | (apply gd_bne_t <;> intro hq <;> (try (exfalso; omega))) | (apply gd_bne_f <;> intro hq <;> (try (exfalso; omega))) | (apply gd_not_t <;> intro hq) | (apply gd_not_f <;> intro hq) | (apply gd_raw_t <;> intro hq) | (apply gd_raw_f <;> intro hq)) | (apply at_thn) | (apply at_thn_ret) | (apply at_thn_exit) | (apply at_inb) | (apply at_inb_ret) | (apply at_inb_exit) | refine at_inb_pass rfl ?_ | refine c_drawn (by kernel_rfl) ?_)
  refine sw_loopg (α := Nat) (fun j => [(0, .slice a m c), (1, .slice a2 m c2), (12, .int .i64 m), (13, .int .i64 j)]) (fun _ => H)
    (fun j => j ≤ m) (fun j => m - j) 0 (Nat.zero_le _) (by repeat (first | exact Le.nil _ | refine Le.cons (by first | rfl | (exact congrArg some (congrArg (Value.int _) (by omega)))) ?_)) (fun _ hw => hw.subs (by repeat (first | refine Subs.cons (by repeat constructor) ?_ | exact Subs.sub (by repeat (first | exact List.Sublist.refl _ | exact List.nil_sublist _ | refine List.Sublist.cons _ ?_))))) ?_
  intro j hj
  by_cases hlt : (j : Int) < m
  · obtain ⟨x, hx⟩ := get_of (X := L) (k := j) (by rw [← Hn.out]; omega)
    have heq := vrEq x
    obtain ⟨nm, vl, u, st⟩ := x
    have e1 : take? (vs.drop ((j : Int).toNat * 4)) 4 = some [.string nm, .string vl, .bool u, .bool st] := (Hel.out j _ hx).1
    have e2 : take? (us.drop ((j : Int).toNat * 4)) 4 = some [.string nm, .string vl, .bool u, .bool st] := (Hel.out j _ hx).2
    clear hx
    repeat' (first | (apply g_sl; first | (apply ks_nil; refine sl_nil ?_) | (apply ks_move; refine s_move rfl rfl ?_) | (apply ks_bin; refine s_bin rfl rfl rfl ?_; first | first | (refine s_indexA (c_indexAddr rfl rfl rfl hlx (by omega) (by omega)) rfl ?_) | (first | (apply kb_add; first | refine bb_add ⟨by omega, by omega⟩ ?_ | refine bb_of rfl ?_) | refine bb_of rfl ?_)) | (apply ks_load; first | (refine s_load rfl rfl ?_; first | refine ld_cell rfl ?_ | refine ld_whole rfl ?_ | refine ld_elem rfl ?_ | refine ld_part rfl rfl ?_) | first | (refine s_indexA (c_indexAddr rfl rfl rfl hlx (by omega) (by omega)) rfl ?_)) | (apply ks_asgn; refine s_asgn rfl rfl ?_) | (apply ks_indexA; first | refine s_indexA (c_indexAddr rfl rfl rfl rfl (by omega) (by omega)) rfl ?_ | first | (refine s_indexA (c_indexAddr rfl rfl rfl hlx (by omega) (by omega)) rfl ?_)) | (apply ks_bi; first | first | (refine s_indexA (c_indexAddr rfl rfl rfl hlx (by omega) (by omega)) rfl ?_) | refine s_call (c_len rfl rfl) rfl ?_ | refine s_call (c_len_str rfl rfl) rfl ?_ | refine s_call (c_bi rfl rfl rfl rfl) rfl ?_ | refine c_append rfl rfl rfl rfl (by first | rfl | simp [ints]) (by first | rfl | exact ints_one _ | exact octs_one _ | exact strs_one _) (by omega) rfl rfl (fun _ _ => ?_) | refine c_append_nil rfl rfl rfl rfl (by first | rfl | simp [ints]) (by first | rfl | exact ints_one _ | exact octs_one _ | exact strs_one _) (by omega) rfl rfl (fun _ _ => ?_)) | first | (refine s_indexA (c_indexAddr rfl rfl rfl hlx (by omega) (by omega)) rfl ?_)) | (apply g_sq; first | (apply kq_nil; refine sq_nil ?_) | (apply kq_move; refine q_move rfl rfl ?_) | (apply kq_bin; refine q_bin rfl rfl rfl ?_; first | first | (refine q_indexA (c_indexAddr rfl rfl rfl hlx (by omega) (by omega)) rfl ?_) | (refine q_indexA (c_indexAddr rfl rfl rfl hlu (by omega) (by omega)) rfl ?_) | (refine q_load rfl rfl ?_; first | refine ld_elems e1 rfl ?_ | refine ld_elems e2 rfl ?_) | (refine bb_nev heq (by kernel_rfl) ?_) | (first | (apply kb_add; first | refine bb_add ⟨by omega, by omega⟩ ?_ | refine bb_of rfl ?_) | refine bb_of rfl ?_)) | (apply kq_load; first | (refine q_load rfl rfl ?_; first | refine ld_cell rfl ?_ | refine ld_whole rfl ?_ | refine ld_elem rfl ?_ | refine ld_part rfl rfl ?_) | first | (refine q_indexA (c_indexAddr rfl rfl rfl hlx (by omega) (by omega)) rfl ?_) | (refine q_indexA (c_indexAddr rfl rfl rfl hlu (by omega) (by omega)) rfl ?_) | (refine q_load rfl rfl ?_; first | refine ld_elems e1 rfl ?_ | refine ld_elems e2 rfl ?_) | (refine bb_nev heq (by kernel_rfl) ?_)) | (apply kq_asgn; refine q_asgn rfl rfl ?_) | (apply kq_indexA; first | refine q_indexA (c_indexAddr rfl rfl rfl rfl (by omega) (by omega)) rfl ?_ | first | (refine q_indexA (c_indexAddr rfl rfl rfl hlx (by omega) (by omega)) rfl ?_) | (refine q_indexA (c_indexAddr rfl rfl rfl hlu (by omega) (by omega)) rfl ?_) | (refine q_load rfl rfl ?_; first | refine ld_elems e1 rfl ?_ | refine ld_elems e2 rfl ?_) | (refine bb_nev heq (by kernel_rfl) ?_)) | (apply kq_bi; first | first | (refine q_indexA (c_indexAddr rfl rfl rfl hlx (by omega) (by omega)) rfl ?_) | (refine q_indexA (c_indexAddr rfl rfl rfl hlu (by omega) (by omega)) rfl ?_) | (refine q_load rfl rfl ?_; first | refine ld_elems e1 rfl ?_ | refine ld_elems e2 rfl ?_) | (refine bb_nev heq (by kernel_rfl) ?_) | refine q_call (c_len rfl rfl) rfl ?_ | refine q_call (c_len_str rfl rfl) rfl ?_) | first | (refine q_indexA (c_indexAddr rfl rfl rfl hlx (by omega) (by omega)) rfl ?_) | (refine q_indexA (c_indexAddr rfl rfl rfl hlu (by omega) (by omega)) rfl ?_) | (refine q_load rfl rfl ?_; first | refine ld_elems e1 rfl ?_ | refine ld_elems e2 rfl ?_) | (refine bb_nev heq (by kernel_rfl) ?_)) | (apply sw_seq) | (apply at_srd) | (apply sw_skip) | (apply sw_ret) | (apply sw_exit) | (apply sw_block) | (apply sw_region) | (refine sw_cd rfl ?_; first | (apply gd_t) | (apply gd_ft) | (apply gd_tf) | (apply gd_dec_t <;> intro hq <;> (try (exfalso; omega))) | (apply gd_dec_f <;> intro hq <;> (try (exfalso; omega))) | (apply gd_beq_t <;> intro hq <;> (try (exfalso; omega))) | (apply gd_beq_f <;> intro hq <;> (try (exfalso; omega))) | (apply gd_bne_t <;> intro hq <;> (try (exfalso; omega))) | (apply gd_bne_f <;> intro hq <;> (try (exfalso; omega))) | (apply gd_not_t <;> intro hq) | (apply gd_not_f <;> intro hq) | (apply gd_raw_t <;> intro hq) | (apply gd_raw_f <;> intro hq)) | (apply at_thn) | (apply at_thn_ret) | (apply at_thn_exit) | (apply at_inb) | (apply at_inb_ret) | (apply at_inb_exit) | refine at_inb_pass rfl ?_ | refine c_drawn (by kernel_rfl) ?_)
    exact at_meet (j + 1) ⟨by omega, by omega⟩ (by repeat (first | exact Le.nil _ | refine Le.cons (by first | rfl | (exact congrArg some (congrArg (Value.int _) (by omega)))) ?_)) (fun _ hw => hw.subs (by repeat (first | refine Subs.cons (by repeat constructor) ?_ | exact Subs.sub (by repeat (first | exact List.Sublist.refl _ | exact List.nil_sublist _ | refine List.Sublist.cons _ ?_)))))
  · obtain rfl : m = j := by omega
    repeat' (first | (apply g_sl; first | (apply ks_nil; refine sl_nil ?_) | (apply ks_move; refine s_move rfl rfl ?_) | (apply ks_bin; refine s_bin rfl rfl rfl ?_; first | fail | (first | (apply kb_add; first | refine bb_add ⟨by omega, by omega⟩ ?_ | refine bb_of rfl ?_) | refine bb_of rfl ?_)) | (apply ks_load; first | (refine s_load rfl rfl ?_; first | refine ld_cell rfl ?_ | refine ld_whole rfl ?_ | refine ld_elem rfl ?_ | refine ld_part rfl rfl ?_) | fail) | (apply ks_asgn; refine s_asgn rfl rfl ?_) | (apply ks_indexA; first | refine s_indexA (c_indexAddr rfl rfl rfl rfl (by omega) (by omega)) rfl ?_ | fail) | (apply ks_bi; first | fail | refine s_call (c_len rfl rfl) rfl ?_ | refine s_call (c_len_str rfl rfl) rfl ?_ | refine s_call (c_bi rfl rfl rfl rfl) rfl ?_ | refine c_append rfl rfl rfl rfl (by first | rfl | simp [ints]) (by first | rfl | exact ints_one _ | exact octs_one _ | exact strs_one _) (by omega) rfl rfl (fun _ _ => ?_) | refine c_append_nil rfl rfl rfl rfl (by first | rfl | simp [ints]) (by first | rfl | exact ints_one _ | exact octs_one _ | exact strs_one _) (by omega) rfl rfl (fun _ _ => ?_)) | fail) | (apply sw_seq) | (apply at_srd) | (apply sw_skip) | (apply sw_ret) | (apply sw_exit) | (apply sw_block) | (apply sw_region) | (refine sw_cd rfl ?_; first | (apply gd_t) | (apply gd_ft) | (apply gd_tf) | (apply gd_dec_t <;> intro hq <;> (try (exfalso; omega))) | (apply gd_dec_f <;> intro hq <;> (try (exfalso; omega))) | (apply gd_beq_t <;> intro hq <;> (try (exfalso; omega))) | (apply gd_beq_f <;> intro hq <;> (try (exfalso; omega))) | (apply gd_bne_t <;> intro hq <;> (try (exfalso; omega))) | (apply gd_bne_f <;> intro hq <;> (try (exfalso; omega))) | (apply gd_not_t <;> intro hq) | (apply gd_not_f <;> intro hq) | (apply gd_raw_t <;> intro hq) | (apply gd_raw_f <;> intro hq)) | (apply at_thn) | (apply at_thn_ret) | (apply at_thn_exit) | (apply at_inb) | (apply at_inb_ret) | (apply at_inb_exit) | refine at_inb_pass rfl ?_ | refine c_drawn (by kernel_rfl) ?_)
    refine e_sv (by first | exact .inl rfl | exact .inr rfl) rfl (by repeat (first | exact List.Sublist.refl _ | exact List.nil_sublist _ | refine List.Sublist.cons _ ?_)) ?_
    rfl
theorem eqStrsSame_sv (G : Ctx) (H : List Ent) (xs : List ByteArray) (a1 a2 : Option Addr) (n1 n2 c1 c2 : Nat) [h1 : RdC G H a1 (Fw.strs xs)] [h2 : RdC G H a2 (Fw.strs xs)] (hn1 : n1 = xs.length) (hn2 : n2 = xs.length) (hm : xs.length ≤ maxLen) :
    SV Tryd.prog G 66 [.slice a1 n1 c1, .slice a2 n2 c2] H (.bool true) := by
  have h : ∀ w, Holds G H w → Calls Tryd.prog 66 #[.slice a1 n1 c1, .slice a2 n2 c2] w fun e w' => e = .returned (.bool (decide (xs = xs))) ∧ Below w.heap.size w w' := fun w hw => eqStrs_any xs xs a1 a2 n1 n2 c1 c2 w hn1 hn2 hm hm (h1.here w hw) (h2.here w hw)
  rw [show decide (xs = xs) = true from by simp] at h
  exact sv_of_calls (callee_of Tryd.func66 rfl rfl) h
theorem clientNews_sv (G : Ctx) (mm : Int) (hM : ∀ H w, Holds G H w → w.cell? ⟨2, 0, none⟩ = some (.int .i64 mm)) (w h : Int) (l : List ByteArray) (a : Option Addr) (n c : Nat) (L : List Vr) (va : Option Addr) (vn vc : Nat) (x : Nat → Int) [ha : ∀ H, RdC G H a (strs l)] [hC : ∀ H, CapC G H a n c] [hv : ∀ H, RdC G H va (vrs L)]
    (hn : n = l.length) (hz : ∀ y ∈ l, y.size ≤ maxLen) (hm : n ≤ 2000000) (hvn : vn = L.length) (hvm : vn ≤ 2000000) :
    SV Tryd.prog G 7 [.int .i64 w, .int .i64 h, .slice a n c, .slice va vn vc, .agg (endsL x).toArray] [] (.bool true) := by
  have cS := fun (H : List Ent) (a : Option Addr) (c : Nat) [RdC G H a (strs l)] [CapC G H a n c] => sortsCheck_sv G H l a n c 0 hn hz (by unfold maxLen; omega)
  have cR := fun (H : List Ent) [RdC G H a (strs l)] => sortsRight_sv G H l a n c 0 hn hz (by unfold maxLen; omega)
  have cW := fun (H : List Ent) [RdC G H va (vrs L)] => envWrite_sv G H L va vn vc rfl hvn (by unfold maxLen; omega)
  have cV := fun (H : List Ent) [RdC G H va (vrs L)] => varsText_sv G H mm hM L va vn vc rfl hvn (by unfold maxLen; omega)
  have hcz := cliZ_len
  have hca := cliZ_all
  by_cases hok : sizeE w h = 0 ∧ sortsE l 0 = 0 ∧ (writeV L).2 = 0
  · obtain ⟨hs, h1, h2⟩ := hok
    obtain ⟨W, rfl, V, rfl, hw, hh⟩ : ∃ W : Nat, w = W ∧ ∃ V : Nat, h = V ∧ (1 ≤ W ∧ W ≤ 160) ∧ (1 ≤ V ∧ V ≤ 60) := by
      rcases sizeE_01 w h with ⟨h3, h4⟩ | ⟨h3, h4⟩
      · exact ⟨w.toNat, by omega, h.toNat, by omega, by omega, by omega⟩
      · omega
    have c1 := fun H => cliNew_ok G H W V hw hh l a n c L va vn vc x hn hz (by omega) hvn (by omega) h1 h2 cS cW
    have c2 := fun H => ncliNew_ok G H W V hw hh l a n c L va vn vc x h1 h2 cR cV
    have hp : W * V ≤ 100000 := Nat.le_trans (Nat.mul_le_mul hw.2 hh.2) (by decide)
    have hl1 : W * V = (newS W V).C.length := by show W * V = (List.replicate _ _).length; rw [List.length_replicate]
    have hl2 : W * V = (newS W V).D.length := hl1
    have c3 : ∀ (H : List Ent) (ga oa na xa gb : Option Addr) (oc nc xc : Nat), RdC G H ga (qds (newS W V).C) → RdC G H oa (qds (newS W V).D) → RdC G H gb (qds (newS W V).C) → RdC G H na (strs l) → RdC G H xa (vrs L) →
        SV Tryd.prog G 24 [.agg (newC (scrC (newS W V) ga (W * V) (W * V) oa (W * V) oc none 0 0) x na n nc xa vn xc).toArray, .agg (newC (scrC (newS W V) gb (W * V) (W * V) gb (W * V) (W * V) none 0 0) x a n c va vn vc).toArray] H (.bool true) := by
      intro H ga oa na xa gb oc nc xc r1 r2 r3 r4 r5
      refine sameCli_sv G H (scrC (newS W V) ga (W * V) (W * V) oa (W * V) oc none 0 0) (scrC (newS W V) gb (W * V) (W * V) gb (W * V) (W * V) none 0 0) rfl rfl x l L na a xa va n nc c vn xc vc (fun H' hH => ?_) (fun H' hH => ?_) (fun H' hH => ?_)
      · haveI : RdC G H' ga (qds (newS W V).C) := ⟨fun w hw => r1.here w (hH w hw)⟩
        haveI : RdC G H' oa (qds (newS W V).D) := ⟨fun w hw => r2.here w (hH w hw)⟩
        haveI : RdC G H' gb (qds (newS W V).C) := ⟨fun w hw => r3.here w (hH w hw)⟩
        haveI : RdC G H' gb (qds (newS W V).D) := ⟨fun w hw => r3.here w (hH w hw)⟩
        exact sameScr_sv G H' (newS W V) ga gb oa gb none none (W * V) (W * V) (W * V) (W * V) oc (W * V) 0 0 hl1 hl2 hp hp rfl
      · haveI : RdC G H' na (strs l) := ⟨fun w hw => r4.here w (hH w hw)⟩
        exact eqStrsSame_sv G H' l na a n n nc c hn hn (by rw [← hn]; unfold maxLen; omega)
      · haveI : RdC G H' xa (vrs L) := ⟨fun w hw => r5.here w (hH w hw)⟩
        exact eqVar_sv G H' L xa va vn vn xc vc rfl rfl hvn hvn (by omega)
    have f1 := fun (S : List Value) (na : Option Addr) (nn nc : Nat) (va : Option Addr) (vn vc : Nat) (h : S.length = 33) => newC_len x na nn nc va vn vc h
    have f2 := fun (S : List Value) (na : Option Addr) (nn nc : Nat) (va : Option Addr) (vn vc : Nat) (h : S.all (·.oneCell') = true) => newC_all x na nn nc va vn vc h
    have f3 := fun (S : List Value) (na : Option Addr) (nn nc : Nat) (va : Option Addr) (vn vc : Nat) (h : S.length = 33) => show Nat.beq (newC S x na nn nc va vn vc).length 613 = true by rw [newC_len x na nn nc va vn vc h]; rfl
    clear hM cS cR cW cV h1 h2 hs hn hz hvn hl1 hl2 hp
    generalize W * V = p at *
    generalize hCd : (newS W V).C = SC' at *
    generalize hDd : (newS W V).D = SD' at *
    refine sv_enter5 Tryd.func7 rfl rfl rfl rfl rfl ?_
    repeat' (first | (apply g_sl; first | (apply ks_nil; refine sl_nil ?_) | (apply ks_move; refine s_move rfl rfl ?_) | (apply ks_bin; refine s_bin rfl rfl rfl ?_; first | first | (refine s_load rfl rfl ?_; refine ld_whole (f3 _ _ _ _ _ _ _ rfl) ?_) | (refine c_storewV rfl rfl rfl rfl (f2 _ _ _ _ _ _ _ rfl) (f1 _ _ _ _ _ _ _ rfl) hcz rfl ?_) | (first | refine bb_of rfl ?_)) | (apply ks_load; first | (refine s_load rfl rfl ?_; first | refine ld_cell rfl ?_ | refine ld_whole rfl ?_ | refine ld_elem rfl ?_ | refine ld_part rfl rfl ?_) | first | (refine s_load rfl rfl ?_; refine ld_whole (f3 _ _ _ _ _ _ _ rfl) ?_) | (refine c_storewV rfl rfl rfl rfl (f2 _ _ _ _ _ _ _ rfl) (f1 _ _ _ _ _ _ _ rfl) hcz rfl ?_)) | (apply ks_asgn; refine s_asgn rfl rfl ?_) | (apply ks_pick; refine s_pick rfl rfl ?_; first | (apply kp_t; refine pk_t rfl ?_) | (apply kp_f; refine pk_f rfl ?_) | refine pk_s rfl rfl ?_) | (apply ks_extr; refine s_extr (y_extract rfl rfl rfl) rfl ?_) | (apply ks_fn; first | first | (refine c_call rfl rfl rfl (c1 _) rfl rfl ?_; rintro _ _ ⟨ga, oa, oc, na, nc, xa, xc, rfl, rfl⟩) | (refine c_call rfl rfl rfl (c2 _) rfl rfl ?_; rintro _ _ ⟨gb, rfl, rfl⟩) | refine c_callv rfl rfl rfl (c3 _ _ _ _ _ _ _ _ _ inferInstance inferInstance inferInstance inferInstance inferInstance) rfl rfl ?_) | (apply ks_store; first | first | refine c_store rfl rfl rfl rfl rfl rfl rfl ?_ | refine c_storew rfl rfl rfl rfl rfl rfl rfl rfl ?_ | refine c_storee rfl rfl rfl rfl rfl (by omega) rfl ?_ | first | (refine s_load rfl rfl ?_; refine ld_whole (f3 _ _ _ _ _ _ _ rfl) ?_) | (refine c_storewV rfl rfl rfl rfl (f2 _ _ _ _ _ _ _ rfl) (f1 _ _ _ _ _ _ _ rfl) hcz rfl ?_)) | (apply ks_box; refine c_box rfl rfl rfl rfl rfl rfl (fun _ => ?_)) | (apply ks_alloc; refine c_alloc rfl rfl rfl rfl (fun _ => ?_)) | (apply ks_guard; first | (refine sl_gd rfl rfl rfl rfl ?_; first | (apply gd_t) | (apply gd_ft) | (apply gd_tf) | (apply gd_dec_t <;> intro hq <;> (try (exfalso; omega))) | (apply gd_dec_f <;> intro hq <;> (try (exfalso; omega))) | (apply gd_beq_t <;> intro hq <;> (try (exfalso; omega))) | (apply gd_beq_f <;> intro hq <;> (try (exfalso; omega))) | (apply gd_bne_t <;> intro hq <;> (try (exfalso; omega))) | (apply gd_bne_f <;> intro hq <;> (try (exfalso; omega))) | (apply gd_not_t <;> intro hq) | (apply gd_not_f <;> intro hq) | (apply gd_raw_t <;> intro hq) | (apply gd_raw_f <;> intro hq)) | refine sl_skip_u rfl rfl rfl rfl rfl rfl ?_) | first | (refine s_load rfl rfl ?_; refine ld_whole (f3 _ _ _ _ _ _ _ rfl) ?_) | (refine c_storewV rfl rfl rfl rfl (f2 _ _ _ _ _ _ _ rfl) (f1 _ _ _ _ _ _ _ rfl) hcz rfl ?_)) | (apply sw_seq) | (apply at_srd) | (apply sw_skip) | (apply sw_ret) | (apply sw_exit) | (apply sw_block) | (apply sw_region) | (refine sw_cd rfl ?_; first | (apply gd_t) | (apply gd_ft) | (apply gd_tf) | (apply gd_dec_t <;> intro hq <;> (try (exfalso; omega))) | (apply gd_dec_f <;> intro hq <;> (try (exfalso; omega))) | (apply gd_beq_t <;> intro hq <;> (try (exfalso; omega))) | (apply gd_beq_f <;> intro hq <;> (try (exfalso; omega))) | (apply gd_bne_t <;> intro hq <;> (try (exfalso; omega))) | (apply gd_bne_f <;> intro hq <;> (try (exfalso; omega))) | (apply gd_not_t <;> intro hq) | (apply gd_not_f <;> intro hq) | (apply gd_raw_t <;> intro hq) | (apply gd_raw_f <;> intro hq)) | (apply at_thn) | (apply at_thn_ret) | (apply at_thn_exit) | (apply at_inb) | (apply at_inb_ret) | (apply at_inb_exit) | refine at_inb_pass rfl ?_ | refine c_drawn (by kernel_rfl) ?_)
    all_goals first | exact absurd rfl (by assumption) | (refine e_sv (by first | exact .inl rfl | exact .inr rfl) rfl (List.nil_sublist _) ?_; simp [resV])
  · have he : ∃ e : Int, e ≠ 0 ∧ ((sizeE w h = 1 ∧ e = 1) ∨ (sizeE w h = 0 ∧ sortsE l 0 ≠ 0 ∧ e = sortsE l 0) ∨ (sizeE w h = 0 ∧ sortsE l 0 = 0 ∧ (writeV L).2 ≠ 0 ∧ e = (writeV L).2)) := by
      rcases sizeE_01 w h with ⟨h3, h4⟩ | ⟨h3, h4⟩
      · by_cases h1 : sortsE l 0 = 0
        · by_cases h2 : (writeV L).2 = 0
          · exact absurd ⟨h3, h1, h2⟩ hok
          · exact ⟨_, h2, .inr (.inr ⟨h3, h1, h2, rfl⟩)⟩
        · exact ⟨_, h1, .inr (.inl ⟨h3, h1, rfl⟩)⟩
      · exact ⟨1, by decide, .inl ⟨h3, rfl⟩⟩
    obtain ⟨e, he0, he⟩ := he
    have c1 := fun H => cliNew_e G H w h e l a n c L va vn vc x hn (by omega) hvn (by omega) he cS cW
    have c2 := fun H => ncliNew_e G H w h e l a n c L va vn vc x he cR cV
    have rs : ∀ H, RdC G H none (strs []) := fun H => ⟨fun _ _ => .inl rfl⟩
    have rv : ∀ H, RdC G H none (vrs []) := fun H => ⟨fun _ _ => .inl rfl⟩
    have c3 := fun H => sameCliZ_sv G H (fun H' _ => sameScrZ_sv G H') (fun H' _ => by haveI := rs H'; exact eqStrsSame_sv G H' [] none none 0 0 0 0 rfl rfl (by decide)) (fun H' _ => by haveI := rv H'; exact eqVar_sv G H' [] none none 0 0 0 0 rfl rfl rfl rfl (by decide))
    clear hM cS cR cW cV hok he hn hz hvn
    refine sv_enter5 Tryd.func7 rfl rfl rfl rfl rfl ?_
    repeat' (first | (apply g_sl; first | (apply ks_nil; refine sl_nil ?_) | (apply ks_move; refine s_move rfl rfl ?_) | (apply ks_bin; refine s_bin rfl rfl rfl ?_; first | first | (refine s_load rfl rfl ?_; refine ld_whole (by rw [hcz]; rfl) ?_) | (refine c_storewV rfl rfl rfl rfl hca hcz hcz rfl ?_) | (first | refine bb_of rfl ?_)) | (apply ks_load; first | (refine s_load rfl rfl ?_; first | refine ld_cell rfl ?_ | refine ld_whole rfl ?_ | refine ld_elem rfl ?_ | refine ld_part rfl rfl ?_) | first | (refine s_load rfl rfl ?_; refine ld_whole (by rw [hcz]; rfl) ?_) | (refine c_storewV rfl rfl rfl rfl hca hcz hcz rfl ?_)) | (apply ks_asgn; refine s_asgn rfl rfl ?_) | (apply ks_pick; refine s_pick rfl rfl ?_; first | (apply kp_t; refine pk_t rfl ?_) | (apply kp_f; refine pk_f rfl ?_) | refine pk_s rfl rfl ?_) | (apply ks_extr; refine s_extr (y_extract rfl rfl rfl) rfl ?_) | (apply ks_fn; first | first | refine c_callv rfl rfl rfl (c1 _) rfl rfl ?_ | refine c_callv rfl rfl rfl (c2 _) rfl rfl ?_ | refine c_callv rfl rfl rfl (c3 _) rfl rfl ?_) | (apply ks_store; first | first | refine c_store rfl rfl rfl rfl rfl rfl rfl ?_ | refine c_storew rfl rfl rfl rfl rfl rfl rfl rfl ?_ | refine c_storee rfl rfl rfl rfl rfl (by omega) rfl ?_ | first | (refine s_load rfl rfl ?_; refine ld_whole (by rw [hcz]; rfl) ?_) | (refine c_storewV rfl rfl rfl rfl hca hcz hcz rfl ?_)) | (apply ks_box; refine c_box rfl rfl rfl rfl rfl rfl (fun _ => ?_)) | (apply ks_alloc; refine c_alloc rfl rfl rfl rfl (fun _ => ?_)) | (apply ks_guard; first | (refine sl_gd rfl rfl rfl rfl ?_; first | (apply gd_t) | (apply gd_ft) | (apply gd_tf) | (apply gd_dec_t <;> intro hq <;> (try (exfalso; omega))) | (apply gd_dec_f <;> intro hq <;> (try (exfalso; omega))) | (apply gd_beq_t <;> intro hq <;> (try (exfalso; omega))) | (apply gd_beq_f <;> intro hq <;> (try (exfalso; omega))) | (apply gd_bne_t <;> intro hq <;> (try (exfalso; omega))) | (apply gd_bne_f <;> intro hq <;> (try (exfalso; omega))) | (apply gd_not_t <;> intro hq) | (apply gd_not_f <;> intro hq) | (apply gd_raw_t <;> intro hq) | (apply gd_raw_f <;> intro hq)) | refine sl_skip_u rfl rfl rfl rfl rfl rfl ?_) | first | (refine s_load rfl rfl ?_; refine ld_whole (by rw [hcz]; rfl) ?_) | (refine c_storewV rfl rfl rfl rfl hca hcz hcz rfl ?_)) | (apply sw_seq) | (apply at_srd) | (apply sw_skip) | (apply sw_ret) | (apply sw_exit) | (apply sw_block) | (apply sw_region) | (refine sw_cd rfl ?_; first | (apply gd_t) | (apply gd_ft) | (apply gd_tf) | (apply gd_dec_t <;> intro hq <;> (try (exfalso; omega))) | (apply gd_dec_f <;> intro hq <;> (try (exfalso; omega))) | (apply gd_beq_t <;> intro hq <;> (try (exfalso; omega))) | (apply gd_beq_f <;> intro hq <;> (try (exfalso; omega))) | (apply gd_bne_t <;> intro hq <;> (try (exfalso; omega))) | (apply gd_bne_f <;> intro hq <;> (try (exfalso; omega))) | (apply gd_not_t <;> intro hq) | (apply gd_not_f <;> intro hq) | (apply gd_raw_t <;> intro hq) | (apply gd_raw_f <;> intro hq)) | (apply at_thn) | (apply at_thn_ret) | (apply at_thn_exit) | (apply at_inb) | (apply at_inb_ret) | (apply at_inb_exit) | refine at_inb_pass rfl ?_ | refine c_drawn (by kernel_rfl) ?_)
    all_goals first | exact absurd rfl (by assumption) | (refine e_sv (by first | exact .inl rfl | exact .inr rfl) rfl (List.nil_sublist _) ?_; simp [resV])
theorem vr_sum : ∀ L : List Vr, L.length ≤ (L.map fun y => y.1.size + (y.2.1.size + (0 + 0)) + 1).sum
  | [] => Nat.le_refl _
  | x :: L => by have := vr_sum L; simp only [List.map_cons, List.sum_cons, List.length_cons] at *; omega
theorem st_sum : ∀ L : List ByteArray, L.length ≤ (L.map fun y => y.size + 1).sum
  | [] => Nat.le_refl _
  | x :: L => by have := st_sum L; simp only [List.map_cons, List.sum_cons, List.length_cons] at *; omega
theorem clientNews_walk (W : World) (y0 : A3) (_ : ok3 W y0) (y1 : A3) (_ : ok3 W y1) (y2 : A50) (o2 : ok50 W y2) (y3 : A47) (o3 : ok47 W y3) (y4 : A54) (_ : ok54 W y4) (hb : bk3 y0 + (bk3 y1 + (bk50 y2 + (bk47 y3 + bk54 y4))) ≤ 1048576) (_ : laidMetH Tryd.prog Rows.clientNewsRow.laid W) (hS : W.ShapedOpen Tryd.prog) : Calls Tryd.prog 7 #[.int .i64 y0, .int .i64 y1, rxV y2, rxV y3, .agg (en54 y4).toArray] W fun e w' => e = .returned (.bool true) ∧ Below W.heap.size W w' := by
  obtain ⟨m, hM⟩ := maxLen_cell W hS
  obtain ⟨a, c, l⟩ := y2
  obtain ⟨va, vc, L⟩ := y3
  obtain ⟨⟨l1, h1⟩, ⟨l2, h2⟩⟩ := y4
  obtain ⟨hc, hlm, hA, hz⟩ := o2
  obtain ⟨-, -, hV, -⟩ := o3
  have hA' : At W a (Fw.strs l) := by
    have e : l.flatMap (fun z => [Value.string z]) = Fw.strs l := fm_map Value.string l
    exact e ▸ hA
  have hV' : At W va (vrs L) := hV
  have hb' : 0 + (0 + ((l.map fun y => y.size + 1).sum + ((List.map (fun y : Vr => y.1.size + (y.2.1.size + (0 + 0)) + 1) L).sum + (0 + 0)))) ≤ 1048576 := hb
  have ht := vr_sum L
  have ht2 : l.length ≤ (l.map fun y => y.size + 1).sum := st_sum l
  haveI : ∀ H, RdC ⟨W.heap.size, W⟩ H a (Fw.strs l) := fun H => RdC.top hA'
  haveI : ∀ H, RdC ⟨W.heap.size, W⟩ H va (vrs L) := fun H => RdC.top hV'
  haveI : ∀ H, CapC ⟨W.heap.size, W⟩ H a l.length c := fun H => ⟨fun _ _ => hc⟩
  match l1, h1, l2, h2 with
  | [x0, x1, x2, x3], _, [x4, x5, x6, x7], _ =>
    have h9 := calls_of_sv (clientNews_sv _ m hM y0 y1 l a l.length c L va L.length vc (fun i => [x0, x1, x2, x3, x4, x5, x6, x7].getD i 0) rfl hz (by omega) rfl (by omega))
    exact h9
set_option maxRecDepth 100000 in
theorem clientNews_law {H : Type} (enc : TypeId × Value → H) (W : World) {base : Nat} {v0 v1 v2 v3 v4 : Value} {d0 d1 d2 d3 d4 : DataW H} {p0 p1 p2 p3 p4 : List MemPlace}
    (k0 : Value.okWide Tryd.prog W .any base 3 v0) (h0 : DataW.Trod enc Tryd.prog W 0 (fun _ => true) true 3 v0 d0 p0)
    (k1 : Value.okWide Tryd.prog W .any base 3 v1) (h1 : DataW.Trod enc Tryd.prog W 0 (fun _ => true) true 3 v1 d1 p1)
    (k2 : Value.okWide Tryd.prog W .any base 50 v2) (h2 : DataW.Trod enc Tryd.prog W 0 (fun _ => true) true 50 v2 d2 p2)
    (k3 : Value.okWide Tryd.prog W .any base 47 v3) (h3 : DataW.Trod enc Tryd.prog W 0 (fun _ => true) true 47 v3 d3 p3)
    (k4 : Value.okWide Tryd.prog W .any base 54 v4) (h4 : DataW.Trod enc Tryd.prog W 0 (fun _ => true) true 54 v4 d4 p4)
    (hk : Rows.uptoSmall H [d0, d1, d2, d3, d4] = true)
    (hL : laidMetH Tryd.prog Rows.clientNewsUptoRow.laid W) (hS : W.ShapedOpen Tryd.prog)
    : Calls Tryd.prog 7 #[v0, v1, v2, v3, v4] W fun e w' => e = .returned (.bool true) ∧ Below W.heap.size W w' := by
  obtain ⟨y0, rfl, o0, b0⟩ := tr_int Tryd.underlying3 tr3 k0 h0
  obtain ⟨y1, rfl, o1, b1⟩ := tr_int Tryd.underlying3 tr3 k1 h1
  obtain ⟨y2, rfl, o2, b2⟩ := tr_slice Tryd.underlying50 tr50 k2 h2
  obtain ⟨y3, rfl, o3, b3⟩ := tr_slice Tryd.underlying47 tr47 k3 h3
  obtain ⟨y4, rfl, o4, b4⟩ := tr_agg Tryd.underlying54 tr54 k4 h4
  have hb := bulk_all hk
  simp only [Rows.uptoBulkAll] at hb
  exact clientNews_walk W y0 o0 y1 o1 y2 o2 y3 o3 y4 o4 (by omega) hL hS
set_option maxRecDepth 100000 in
theorem clientNews_contract (H : Type) (enc : TypeId × Value → H) (W : World) (base : Nat) (args : Array Value) (ds gs : List (DataW H)) (before : List MemPlace)
    (hval : ∀ (j : Nat) t v, Tryd.f7.params[j]? = some t → args[j]? = some v → Value.okWide Tryd.prog W .any base t v)
    (hW : DataW.Whole enc Tryd.prog Tryd.f7.params.toList Rows.clientNewsSpec.vars false W args.toList ds gs before) (hk : Rows.uptoSmall H (ds ++ gs) = true) (hL : laidMetH Tryd.prog Rows.clientNewsUptoRow.laid W) (hS : W.ShapedOpen Tryd.prog) :
    Calls Tryd.prog 7 args W fun e W' => ∃ v, e = .returned v ∧ Rows.clientNewsSpec.post enc Tryd.prog Tryd.f7 false true false false W args v W' := by
  have hW' := hW
  obtain ⟨p, q, hA0, hV, rfl, hfz, hnd⟩ := hW'
  have hA : DataW.TrodAll enc Tryd.prog W 0 (fun _ => true) true Tryd.f7.params.toList args.toList ds p := hA0
  rw [Tryd.params7] at hA hval
  obtain ⟨v0, vs0, d0, ds0, p0, q0, hargs, rfl, rfl, h0, r0⟩ := trodAll_cons hA
  obtain ⟨v1, vs1, d1, ds1, p1, q1, rfl, rfl, rfl, h1, r1⟩ := trodAll_cons r0
  obtain ⟨v2, vs2, d2, ds2, p2, q2, rfl, rfl, rfl, h2, r2⟩ := trodAll_cons r1
  obtain ⟨v3, vs3, d3, ds3, p3, q3, rfl, rfl, rfl, h3, r3⟩ := trodAll_cons r2
  obtain ⟨v4, vs4, d4, ds4, p4, q4, rfl, rfl, rfl, h4, r4⟩ := trodAll_cons r3
  obtain ⟨rfl, rfl, rfl⟩ := trodAll_nil r4
  obtain rfl : args = #[v0, v1, v2, v3, v4] := by cases args; simp_all
  obtain ⟨rfl, rfl⟩ := trodVars_none hV
  clear hA0
  have k0 := hval 0 3 v0 rfl rfl
  have k1 := hval 1 3 v1 rfl rfl
  have k2 := hval 2 50 v2 rfl rfl
  have k3 := hval 3 47 v3 rfl rfl
  have k4 := hval 4 54 v4 rfl rfl
  simp only [List.append_nil] at hk
  refine (clientNews_law enc W k0 h0 k1 h1 k2 h2 k3 h3 k4 h4 hk hL hS).mono fun e W' ⟨he, hg⟩ => ?_
  subst he
  exact ⟨_, rfl, law_post (s := Rows.clientNewsSpec) laidOut (by kernel_rfl) rfl Tryd.underlying4 rfl hW rfl hg⟩
noncomputable def clientNews_world (os : Os) : World := { World.holding Tryd.prog os ⟨#[], #[], []⟩ with heap := (((World.holding Tryd.prog os ⟨#[], #[], []⟩).heap.modify 1 fun | .cells _ t frozen => .cells (dCells Rows.laid_unicode_utf8_acceptRanges).toArray t frozen | o => o).modify 0 fun | .cells _ t frozen => .cells (dCells Rows.laid_unicode_utf8_first).toArray t frozen | o => o) }
theorem clientNews_met (os : Os) : laidMet Tryd.prog Rows.clientNewsUptoRow.laid ((clientNews_world os).forCall (fun _ _ => 0) ⟨#[], #[.int .i64 0, .int .i64 0, .slice none 0 0, .slice none 0 0, .agg #[.int .u64 0, .int .u64 0, .int .u64 0, .int .u64 0, .int .u64 0, .int .u64 0, .int .u64 0, .int .u64 0]], []⟩).memory := laidMet_of_run' 12 (by kernel_rfl) (by kernel_rfl)
theorem clientNews_reads (os : Os) {H : Type} (enc : TypeId × Value → H) : ∃ places, DataW.whole enc Tryd.prog ((clientNews_world os).forCall (fun _ _ => 0) ⟨#[], #[.int .i64 0, .int .i64 0, .slice none 0 0, .slice none 0 0, .agg #[.int .u64 0, .int .u64 0, .int .u64 0, .int .u64 0, .int .u64 0, .int .u64 0, .int .u64 0, .int .u64 0]], []⟩).memory Tryd.f7.params.toList Rows.clientNewsSpec.vars false (#[.int .i64 0, .int .i64 0, .slice none 0 0, .slice none 0 0, .agg #[.int .u64 0, .int .u64 0, .int .u64 0, .int .u64 0, .int .u64 0, .int .u64 0, .int .u64 0, .int .u64 0]] : Array Value).toList 12 = some ([.lit (.int .i64 0), .lit (.int .i64 0), .nil, .nil, .agg [.agg [.lit (.int .u64 0), .lit (.int .u64 0), .lit (.int .u64 0), .lit (.int .u64 0)], .agg [.lit (.int .u64 0), .lit (.int .u64 0), .lit (.int .u64 0), .lit (.int .u64 0)]]], [], places) := ⟨[], by kernel_rfl⟩
set_option maxRecDepth 100000 in
theorem clientNews_lifted (os : Os) (started : os.Started) (H : Type) (enc : TypeId × Value → H) (F : Stop.Interp) :
    ReturnsInHanded {} Tryd.checked os 7 .any ((Rows.OpenSpec.upto Rows.clientNewsSpec).preRow enc Tryd.prog Tryd.f7 Rows.clientNewsUptoRow.domain false Rows.clientNewsUptoRow.laid) (((Rows.OpenSpec.upto Rows.clientNewsSpec).at F).post enc Tryd.prog Tryd.f7 false true false false) := by
  obtain ⟨places, hx⟩ := clientNews_reads os enc
  refine returnsInHanded_of_row (C := Tryd.checked) (s := Rows.OpenSpec.upto Rows.clientNewsSpec) own started (by kernel_rfl) Tryd.func7
    (witness_row_at (enc := enc) (C := Tryd.checked) false (clientNews_world os) #[.int .i64 0, .int .i64 0, .slice none 0 0, .slice none 0 0, .agg #[.int .u64 0, .int .u64 0, .int .u64 0, .int .u64 0, .int .u64 0, .int .u64 0, .int .u64 0, .int .u64 0]] rfl (by kernel_rfl) (by kernel_rfl) (by kernel_rfl)
      (OpenSpec.preRow_of_cond 12 hx (by kernel_rfl) (fun k hk => by cases hk; kernel_rfl) (by kernel_rfl) (clientNews_met os))) ?_
  intro W base args ds gs before hval hW _ hk _ hL hS _
  exact clientNews_contract H enc W base args ds gs before hval hW (hk _ rfl) hL hS
theorem clientNews_holds : Rows.ClientNewsUptoSaid :=
  OpenClaim.holds_of_cond 7 Tryd.f7 rfl rfl rfl rfl rfl rfl rfl ⟨rfl, rfl, rfl, rfl, rfl⟩ rfl rfl rfl rfl rfl (by kernel_rfl) Tryd.func7 (by kernel_rfl)
    (of_decide_eq_true (by kernel_rfl)) (by unfold Func.isWrapper; first | (rw [if_pos (by decide +kernel)]; kernel_rfl) | (rw [if_neg (by decide +kernel)]; exact ⟨rfl, rfl⟩))
    (fun os started H enc _ F => by rw [OpenClaim.pre_eq_preRow]; exact clientNews_lifted os started H enc F)
theorem clientNews_plain (f : FuncId) (fn : Func) (hf : Tryd.pinned.checked.prog.funcNamed "farwriter/farlaw.ClientNews" = some f) (hfn : Tryd.pinned.checked.prog.funcs[f]? = some fn) :
    true = Tryd.pinned.checked.prog.looks [] ∧ ∀ (j : Nat) t, fn.params[j]? = some t → Tryd.pinned.checked.prog.wantsStandIn t = false := by
  obtain rfl : f = 7 := Option.some.inj ((show Tryd.prog.funcNamed "farwriter/farlaw.ClientNews" = some 7 by kernel_rfl).symm.trans hf) |>.symm
  obtain rfl : fn = Tryd.f7 := (Option.some.inj (Tryd.func7.symm.trans hfn)).symm
  refine ⟨by kernel_rfl, fun j t ht => ?_⟩
  rw [Tryd.params7] at ht
  have hm : t ∈ [3, 3, 50, 47, 54] := by simpa using Array.mem_of_getElem? ht
  have hall : ([3, 3, 50, 47, 54].all fun u => !Tryd.prog.wantsStandIn u) = true := by kernel_rfl
  exact (show Tryd.prog.wantsStandIn t = false by simpa using List.all_eq_true.1 hall t hm)
theorem clientNews_card : Rows.ClientNewsUptoCardSaid :=
  Claim7.holds_tied_plain_at .later [] _ _ _ _ clientNews_holds (fun _ h => by cases h) (by kernel_rfl) (fun _ h => by cases h) clientNewsUpto_row_tie rfl ⟨rfl, rfl⟩ (by kernel_rfl) rfl clientNews_plain (by kernel_rfl)
end Go.Proofs.YtflmckoolagikaaDoor
