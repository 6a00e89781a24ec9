/- farlaw.ParseWrites returns true for every input of bulk at most 1048576, and the argument reads as it read. -/
import Derived.Test.YtflmckoolagikaaDoorPw6
import Derived.Test.YtflmckoolagikaaDoorRows
import Derived.WalkKit
import Derived.WalkSpells
import Derived.WalkLawsBesides
import Derived.Handy
import Derived.Lib.Hide
import Derived.Laws.BitsAllLaws
import Derived.Deep.MidRow
import Derived.Deep.WholeRow
import Derived.ProofKit
import Derived.OpenShut
import Derived.JoinedCond
import Derived.SliceStrings
import Derived.BigQuiet
import Derived.Laws.CopyOwn
import Derived.Deep.QuietTactic
import Derived.Laws.AppendOwnNone
import Derived.Laws.MakeOwn
import Derived.Laws.IdiomStrings
import Derived.OrdersHeld
import Derived.Lib.SliceRun
import Derived.ChangeKeysEq
import Derived.Laws.CopyRow
import Derived.Test.YtflmckoolagikaaDoorCards
import Derived.Test.YtflmckoolagikaaDoorTie
import Derived.Deep.DeepHandedRow
import Derived.Shelf.Vars
import Derived.Shelf.Strings.Builder1
import Derived.Shelf.Strings.Builder2
import Derived.Shelf.Strings.OnBuilder
import Derived.Shelf.Strings.Trim
import Derived.Shelf.Small.Utf8
import Derived.Shelf.Small.Strs
import Derived.Shelf.Strings.BuilderF
import Derived.Shelf.Strconv.Atoi
import Derived.Shelf.Strconv.Itoa0
import Derived.Shelf.Strconv.Itoa1
import Derived.Shelf.LaysM
import Derived.Shelf.Strconv.Itoa2
import Derived.Shelf.Strconv.Itoa3
import Derived.Shelf.Strconv.AtoiErrFast
import Derived.Shelf.Strconv.ParseIntEmpty
import Derived.Shelf.Strconv.AtoiFail
import Derived.Shelf.Strconv.Clone
import Derived.Shelf.Strconv.SyntaxError
import Derived.Shelf.LaysC
import Derived.Shelf.Strconv.ToError
import Derived.Shelf.Strconv.AtoiErr
import Derived.Shelf.Strconv.Lower
import Derived.Shelf.Strconv.ParseUint10
import Derived.Shelf.Strconv.ParseUint10Empty
import Derived.Shelf.Strconv.ParseUint10Any
import Derived.Shelf.Strconv.ParseInt10
import Derived.Shelf.Strconv.AtoiLong
import Derived.Shelf.Strconv.AtoiInnerAll
import Derived.Shelf.Strconv.RangeError
import Derived.Shelf.Strconv.ToErrorRange
import Derived.Shelf.Strconv.AtoiAll
import Derived.Shelf.Strconv.ErrVarAll
import Derived.Shelf.Strings.Search1
import Derived.Shelf.Strings.Search2
import Derived.Shelf.Strings.Search3
import Derived.Shelf.Strings.Count
import Derived.Shelf.Strings.Shaped
import Derived.Shelf.Strings.Prefix
import Derived.Shelf.Strings.Split
import Derived.Shelf.Strings.Replace
import Derived.Shelf.Strings.SplitShaped
import Derived.Shelf.Strings.Runes
import Derived.Shelf.Strings.AsciiSet
import Derived.Shelf.Bits.Mul64
import Derived.Shelf.Strings.Repeat
import Derived.Shelf.Unicode.DecodeSlow
import Derived.Shelf.Unicode.DecodeAny
import Derived.Shelf.Slices.Equal
import Derived.Shelf.Unicode.ValidAny
import Derived.Test.YtflmckoolagikaaDoorProg
import Derived.Lib.LaidU8
import Derived.Lib.AppendStr
import Derived.ArgAppend
import Derived.Lib.Replace
import Derived.Lib.Join
import Derived.Lib.IndexLaws
import Derived.Lib.ItoaNum
import Derived.Lib.IndexMore
import Derived.Lib.SplitLaws
import Derived.Lib.AppendIntMem
import Derived.Lib.Bytealg
import Derived.Lib.Repeat
import Derived.Lib.DecodeN
import Derived.Lib.ValidU
import Derived.Lib.MapLaws
import Derived.Laws.RangeAny
namespace Go.Proofs.YtflmckoolagikaaDoor
open Go Go.RowKit Go.Fw Go.Sx Go.ChangeShapes Go.WideShapes Go.ChangeAt
set_option maxRecDepth 100000
set_option maxHeartbeats 2000000
attribute [local irreducible] SW SL SQ AtQ SV SC BB LD PK Yields SO SOT SOA SY
theorem own : ownKnob Tryd.prog.godebug = none := by kernel_rfl
theorem laidOut : laidOutB Tryd.prog = true := by kernel_rfl
abbrev A3 := Int
abbrev en3 : A3 → List Value := fun z => [.int .i64 z]
abbrev ok3 : World → A3 → Prop := fun _ z => (Lit.int .i64 z).wf = true
abbrev bk3 : A3 → Nat := fun _ => 0
theorem tr3 : Tr Tryd.prog 3 A3 en3 ok3 bk3 := Tr.int Tryd.underlying3 (by kernel_rfl)
abbrev A9 := ByteArray
abbrev en9 : A9 → List Value := fun z => [.string z]
abbrev ok9 : World → A9 → Prop := fun _ z => z.size ≤ maxLen
abbrev bk9 : A9 → Nat := fun z => z.size
theorem tr9 : Tr Tryd.prog 9 A9 en9 ok9 bk9 := Tr.str Tryd.underlying9 (by kernel_rfl)
abbrev A24 := Rx A3
abbrev en24 : A24 → List Value := fun x => [rxV x]
abbrev ok24 : World → A24 → Prop := fun W x => x.2.2.length ≤ x.2.1 ∧ x.2.2.length ≤ maxLen ∧ At W x.1 (x.2.2.flatMap en3) ∧ ∀ y ∈ x.2.2, ok3 W y
abbrev bk24 : A24 → Nat := fun x => (x.2.2.map fun y => bk3 y + 1).sum
theorem tr24 : Tr Tryd.prog 24 A24 en24 ok24 bk24 := Tr.slice tr3 Tryd.underlying24 (by kernel_rfl) (of_decide_eq_true (by kernel_rfl))
abbrev A35 := (A3) × (A3) × (A3) × (A9) × (A24) × (A9)
abbrev en35 : A35 → List Value := fun p => en3 p.1 ++ (en3 p.2.1 ++ (en3 p.2.2.1 ++ (en9 p.2.2.2.1 ++ (en24 p.2.2.2.2.1 ++ (en9 p.2.2.2.2.2)))))
abbrev ok35 : World → A35 → Prop := fun W p => ok3 W p.1 ∧ ok3 W p.2.1 ∧ ok3 W p.2.2.1 ∧ ok9 W p.2.2.2.1 ∧ ok24 W p.2.2.2.2.1 ∧ ok9 W p.2.2.2.2.2
abbrev bk35 : A35 → Nat := fun p => bk3 p.1 + (bk3 p.2.1 + (bk3 p.2.2.1 + (bk9 p.2.2.2.1 + (bk24 p.2.2.2.2.1 + (bk9 p.2.2.2.2.2)))))
theorem tr35 : Tr Tryd.prog 35 A35 en35 ok35 bk35 := Tr.struct (l := [(0, 3), (1, 3), (2, 3), (3, 9), (4, 24), (5, 9)]) (n := 6) (TrS.cons (o := 0) (o' := 1) (n := 6) tr3 (by kernel_rfl) (TrS.cons (o := 1) (o' := 2) (n := 6) tr3 (by kernel_rfl) (TrS.cons (o := 2) (o' := 3) (n := 6) tr3 (by kernel_rfl) (TrS.cons (o := 3) (o' := 4) (n := 6) tr9 (by kernel_rfl) (TrS.cons (o := 4) (o' := 5) (n := 6) tr24 (by kernel_rfl) (TrS.one (o := 5) (n := 6) tr9 (by kernel_rfl))))))) Tryd.underlying35 (by kernel_rfl) (by kernel_rfl)
theorem parseWrites_sv (G : Ctx) (M : Int) (hM : ∀ H w, Holds G H w → w.cell? ⟨2, 0, none⟩ = some (.int .i64 M)) (hT : ∀ H, Pow10 G H) (hU : ∀ H w, Holds G H w → Lib.Utf8Tabs 0 1 w) (k c m : Int) (i : ByteArray) (hi : i.size ≤ 2000000) (L : List Int) (t : ByteArray) (ht : t.size ≤ 2000000) (a : Option Addr) (cp : Nat) [h1 : ∀ H, RdC G H a (ints L)] (hmn : L.length ≤ 2000000) (hcp : L.length ≤ cp) : SV Tryd.prog G 4 [acV k c m i a L.length cp t] [] (.bool true) := by
  have c1 := fun H => write_sc G H hT hU k c m i hi L t ht a cp hmn
  have c2 := fun H => actRunes_sc G H M hM k c m i hi L t ht a cp hmn hcp
  clear hM hT hU
  unfold WrR at c1 c2
  refine sv_enter1 Tryd.func4 rfl rfl rfl rfl rfl ?_
  repeat' (first | (apply g_sl; first | (apply ks_nil; refine sl_nil ?_) | (apply ks_move; refine s_move rfl rfl ?_) | (apply ks_bin; refine s_bin rfl rfl rfl ?_; first | fail | (first | refine bb_of rfl ?_)) | (apply ks_load; first | (refine s_load rfl rfl ?_; first | refine ld_cell rfl ?_ | refine ld_whole rfl ?_ | refine ld_elem rfl ?_ | refine ld_part rfl rfl ?_) | fail) | (apply ks_asgn; refine s_asgn rfl rfl ?_) | (apply ks_pick; refine s_pick rfl rfl ?_; first | (apply kp_t; refine pk_t rfl ?_) | (apply kp_f; refine pk_f rfl ?_) | refine pk_s rfl rfl ?_) | (apply ks_extr; refine s_extr (y_extract rfl rfl rfl) rfl ?_) | (apply ks_fn; first | first | (refine c_call rfl rfl rfl (c1 _) rfl rfl ?_; rintro _ _ ⟨F, l, a1, k1, e, rfl, hl, hs, rfl, hg⟩) | (refine c_call rfl rfl rfl (c2 _) rfl rfl ?_; rintro _ _ ⟨F2, l2, a2, k2, e2, rfl, hl2, hs2, rfl, hg2⟩)) | (apply ks_box; refine c_box rfl rfl rfl rfl rfl rfl (fun _ => ?_)) | (apply ks_guard; first | (refine sl_gd rfl rfl rfl rfl ?_; first | (apply gd_t) | (apply gd_ft) | (apply gd_tf) | (apply gd_dec_t <;> intro hq <;> (try (exfalso; omega))) | (apply gd_dec_f <;> intro hq <;> (try (exfalso; omega))) | (apply gd_beq_t <;> intro hq <;> (try (exfalso; omega))) | (apply gd_beq_f <;> intro hq <;> (try (exfalso; omega))) | (apply gd_bne_t <;> intro hq <;> (try (exfalso; omega))) | (apply gd_bne_f <;> intro hq <;> (try (exfalso; omega))) | (apply gd_not_t <;> intro hq) | (apply gd_not_f <;> intro hq) | (apply gd_raw_t <;> intro hq) | (apply gd_raw_f <;> intro hq)) | refine sl_skip_u rfl rfl rfl rfl rfl rfl ?_) | fail) | (apply sw_seq) | (apply at_srd) | (apply sw_skip) | (apply sw_ret) | (apply sw_exit) | (apply sw_block) | ((fail_if_success (refine g_reg (id := 3) ?_)); apply sw_region) | (refine sw_cd rfl ?_; first | (apply gd_t) | (apply gd_ft) | (apply gd_tf) | (apply gd_dec_t <;> intro hq <;> (try (exfalso; omega))) | (apply gd_dec_f <;> intro hq <;> (try (exfalso; omega))) | (apply gd_beq_t <;> intro hq <;> (try (exfalso; omega))) | (apply gd_beq_f <;> intro hq <;> (try (exfalso; omega))) | (apply gd_bne_t <;> intro hq <;> (try (exfalso; omega))) | (apply gd_bne_f <;> intro hq <;> (try (exfalso; omega))) | (apply gd_not_t <;> intro hq) | (apply gd_not_f <;> intro hq) | (apply gd_raw_t <;> intro hq) | (apply gd_raw_f <;> intro hq)) | (apply at_thn) | (apply at_thn_ret) | (apply at_thn_exit) | (apply at_inb) | (apply at_inb_ret) | (apply at_inb_exit) | refine at_inb_pass rfl ?_ | ((fail_if_success (refine g_reg (id := 3) ?_)); refine c_drawn (by kernel_rfl) ?_))
  have heq : l = l2 ∧ e = e2 := by
    rcases hg with ⟨g1, rfl, rfl⟩ | ⟨g1, rfl, rfl⟩ <;> rcases hg2 with ⟨g2, rfl, rfl⟩ | ⟨g2, rfl, rfl⟩
    · exact ⟨rfl, rfl⟩
    · exact absurd g1 g2
    · exact absurd g2 g1
    · exact ⟨rfl, rfl⟩
  obtain ⟨rfl, rfl⟩ := heq
  clear hg hg2 c1 c2
  have c3 := fun (K : List Ent) (h3 : Sl ints G K (a1, k1, l)) (h4 : Sl ints G K (a2, k2, l)) => eqD_sv G K (a1, k1, l) (a2, k2, l) h3 h4
  dsimp only at c3
  rw [decide_eq_true rfl] at c3
  repeat' (first | (apply g_sl; first | (apply ks_nil; refine sl_nil ?_) | (apply ks_move; refine s_move rfl rfl ?_) | (apply ks_bin; refine s_bin rfl rfl rfl ?_; first | fail | (first | refine bb_of rfl ?_)) | (apply ks_load; first | (refine s_load rfl rfl ?_; first | refine ld_cell rfl ?_ | refine ld_whole rfl ?_ | refine ld_elem rfl ?_ | refine ld_part rfl rfl ?_) | fail) | (apply ks_asgn; refine s_asgn rfl rfl ?_) | (apply ks_pick; refine s_pick rfl rfl ?_; first | (apply kp_t; refine pk_t rfl ?_) | (apply kp_f; refine pk_f rfl ?_) | refine pk_s rfl rfl ?_) | (apply ks_extr; refine s_extr (y_extract rfl rfl rfl) rfl ?_) | (apply ks_fn; first | refine c_callv rfl rfl rfl (c3 _ (hs.mono fun _ hw => hw.sub (by repeat (first | exact List.sublist_append_left _ _ | refine List.Sublist.cons _ ?_ | refine List.Sublist.trans ?_ (List.sublist_append_right _ _)))) (hs2.mono fun _ hw => hw.sub (by repeat (first | exact List.sublist_append_left _ _ | refine List.Sublist.cons _ ?_ | refine List.Sublist.trans ?_ (List.sublist_append_right _ _))))) rfl rfl ?_) | (apply ks_box; refine c_box rfl rfl rfl rfl rfl rfl (fun _ => ?_)) | (apply ks_guard; first | (refine sl_gd rfl rfl rfl rfl ?_; first | (apply gd_t) | (apply gd_ft) | (apply gd_tf) | (apply gd_dec_t <;> intro hq <;> (try (exfalso; omega))) | (apply gd_dec_f <;> intro hq <;> (try (exfalso; omega))) | (apply gd_beq_t <;> intro hq <;> (try (exfalso; omega))) | (apply gd_beq_f <;> intro hq <;> (try (exfalso; omega))) | (apply gd_bne_t <;> intro hq <;> (try (exfalso; omega))) | (apply gd_bne_f <;> intro hq <;> (try (exfalso; omega))) | (apply gd_not_t <;> intro hq) | (apply gd_not_f <;> intro hq) | (apply gd_raw_t <;> intro hq) | (apply gd_raw_f <;> intro hq)) | refine sl_skip_u rfl rfl rfl rfl rfl rfl ?_) | fail) | (apply sw_seq) | (apply at_srd) | (apply sw_skip) | (apply sw_ret) | (apply sw_exit) | (apply sw_block) | (apply sw_region) | (refine sw_cd rfl ?_; first | (apply gd_t) | (apply gd_ft) | (apply gd_tf) | (apply gd_dec_t <;> intro hq <;> (try (exfalso; omega))) | (apply gd_dec_f <;> intro hq <;> (try (exfalso; omega))) | (apply gd_beq_t <;> intro hq <;> (try (exfalso; omega))) | (apply gd_beq_f <;> intro hq <;> (try (exfalso; omega))) | (apply gd_bne_t <;> intro hq <;> (try (exfalso; omega))) | (apply gd_bne_f <;> intro hq <;> (try (exfalso; omega))) | (apply gd_not_t <;> intro hq) | (apply gd_not_f <;> intro hq) | (apply gd_raw_t <;> intro hq) | (apply gd_raw_f <;> intro hq)) | (apply at_thn) | (apply at_thn_ret) | (apply at_thn_exit) | (apply at_inb) | (apply at_inb_ret) | (apply at_inb_exit) | refine at_inb_pass rfl ?_ | refine c_drawn (by kernel_rfl) ?_)
  all_goals first | exact absurd rfl (by assumption) | (exfalso; omega) | (refine e_sv (by first | exact .inl rfl | exact .inr rfl) rfl (List.nil_sublist _) ?_; simp [resV])
theorem parseWrites_walk (W : World) (y0 : A35) (o0 : ok35 W y0) (hb : bk35 y0 ≤ 1048576) (hL : laidMetH Tryd.prog Rows.parseWritesRow.laid W) (hS : W.ShapedOpen Tryd.prog) : Calls Tryd.prog 4 #[.agg (en35 y0).toArray] W fun e w' => e = .returned (.bool true) ∧ Below W.heap.size W w' := by
  obtain ⟨m', hM⟩ := maxLen_cell W hS
  have hL' : laidMet Tryd.prog Rows.parseWritesRow.laid W := hL
  have hT := pow10_hold (W := W) (laid := Rows.parseWritesRow.laid) hL' (by simp [Rows.parseWritesRow])
  have hU := u8_hold (u8Tabs hL' (by simp [Rows.parseWritesRow]) (by simp [Rows.parseWritesRow]))
  obtain ⟨k, c, m, i, ⟨a, cp, L⟩, t⟩ := y0
  obtain ⟨-, -, -, -, ⟨hc, -, hA, -⟩, -⟩ := o0
  have hA' : At W a (ints L) := by
    have e : L.flatMap (fun z => [Value.int .i64 z]) = ints L := fm_map (Value.int .i64) L
    rw [← e]; exact hA
  haveI : ∀ H, RdC ⟨W.heap.size, W⟩ H a (ints L) := fun H => RdC.top hA'
  have hb' : 0 + (0 + (0 + (i.size + ((List.map (fun _ : Int => 0 + 1) L).sum + t.size)))) ≤ 1048576 := hb
  have hsum : (List.map (fun _ : Int => 0 + 1) L).sum = L.length := by
    clear hb' hb hA hA' this hc
    induction L with
    | nil => rfl
    | cons x L ih => rw [List.map_cons, List.sum_cons, List.length_cons, ih]; omega
  exact calls_of_sv (parseWrites_sv _ m' hM hT hU k c m i (by omega) L t (by omega) a cp (by omega) hc)
set_option maxRecDepth 100000 in
theorem parseWrites_law {H : Type} (enc : TypeId × Value → H) (W : World) {base : Nat} {v0 : Value} {d0 : DataW H} {p0 : List MemPlace}
    (k0 : Value.okWide Tryd.prog W .any base 35 v0) (h0 : DataW.Trod enc Tryd.prog W 0 (fun _ => true) true 35 v0 d0 p0)
    (hk : Rows.uptoSmall H [d0] = true)
    (hL : laidMetH Tryd.prog Rows.parseWritesUptoRow.laid W) (hS : W.ShapedOpen Tryd.prog)
    : Calls Tryd.prog 4 #[v0] W fun e w' => e = .returned (.bool true) ∧ Below W.heap.size W w' := by
  obtain ⟨y0, rfl, o0, b0⟩ := tr_agg Tryd.underlying35 tr35 k0 h0
  have hb := bulk_all hk
  simp only [Rows.uptoBulkAll] at hb
  exact parseWrites_walk W y0 o0 (by omega) hL hS
set_option maxRecDepth 100000 in
theorem parseWrites_contract (H : Type) (enc : TypeId × Value → H) (W : World) (base : Nat) (args : Array Value) (ds gs : List (DataW H)) (before : List MemPlace)
    (hval : ∀ (j : Nat) t v, Tryd.f4.params[j]? = some t → args[j]? = some v → Value.okWide Tryd.prog W .any base t v)
    (hW : DataW.Whole enc Tryd.prog Tryd.f4.params.toList Rows.parseWritesSpec.vars false W args.toList ds gs before) (hk : Rows.uptoSmall H (ds ++ gs) = true) (hL : laidMetH Tryd.prog Rows.parseWritesUptoRow.laid W) (hS : W.ShapedOpen Tryd.prog) :
    Calls Tryd.prog 4 args W fun e W' => ∃ v, e = .returned v ∧ Rows.parseWritesSpec.post enc Tryd.prog Tryd.f4 false true false false W args v W' := by
  have hW' := hW
  obtain ⟨p, q, hA0, hV, rfl, hfz, hnd⟩ := hW'
  have hA : DataW.TrodAll enc Tryd.prog W 0 (fun _ => true) true Tryd.f4.params.toList args.toList ds p := hA0
  rw [Tryd.params4] at hA hval
  obtain ⟨v0, vs0, d0, ds0, p0, q0, hargs, rfl, rfl, h0, r0⟩ := trodAll_cons hA
  obtain ⟨rfl, rfl, rfl⟩ := trodAll_nil r0
  obtain rfl : args = #[v0] := by cases args; simp_all
  obtain ⟨rfl, rfl⟩ := trodVars_none hV
  clear hA0
  have k0 := hval 0 35 v0 rfl rfl
  simp only [List.append_nil] at hk
  refine (parseWrites_law enc W k0 h0 hk hL hS).mono fun e W' ⟨he, hg⟩ => ?_
  subst he
  exact ⟨_, rfl, law_post (s := Rows.parseWritesSpec) laidOut (by kernel_rfl) rfl Tryd.underlying4 rfl hW rfl hg⟩
noncomputable def parseWrites_world (os : Os) : World := { World.holding Tryd.prog os ⟨#[], #[], []⟩ with heap := ((((((World.holding Tryd.prog os ⟨#[], #[], []⟩).heap.modify 6 fun | .cells _ t frozen => .cells (dCells Rows.laid_math_bits_deBruijn32tab).toArray t frozen | o => o).modify 7 fun | .cells _ t frozen => .cells (dCells Rows.laid_math_bits_deBruijn64tab).toArray t frozen | o => o).modify 5 fun | .cells _ t frozen => .cells (dCells Rows.laid_internal_strconv_uint64pow10).toArray t frozen | o => o).modify 1 fun | .cells _ t frozen => .cells (dCells Rows.laid_unicode_utf8_acceptRanges).toArray t frozen | o => o).modify 0 fun | .cells _ t frozen => .cells (dCells Rows.laid_unicode_utf8_first).toArray t frozen | o => o) }
theorem parseWrites_met (os : Os) : laidMet Tryd.prog Rows.parseWritesUptoRow.laid ((parseWrites_world os).forCall (fun _ _ => 0) ⟨#[], #[.agg #[.int .i64 0, .int .i64 0, .int .i64 0, .string .empty, .slice none 0 0, .string .empty]], []⟩).memory := laidMet_of_run' 12 (by kernel_rfl) (by kernel_rfl)
theorem parseWrites_reads (os : Os) {H : Type} (enc : TypeId × Value → H) : ∃ places, DataW.whole enc Tryd.prog ((parseWrites_world os).forCall (fun _ _ => 0) ⟨#[], #[.agg #[.int .i64 0, .int .i64 0, .int .i64 0, .string .empty, .slice none 0 0, .string .empty]], []⟩).memory Tryd.f4.params.toList Rows.parseWritesSpec.vars false (#[.agg #[.int .i64 0, .int .i64 0, .int .i64 0, .string .empty, .slice none 0 0, .string .empty]] : Array Value).toList 12 = some ([.agg [.lit (.int .i64 0), .lit (.int .i64 0), .lit (.int .i64 0), .lit (.string []), .nil, .lit (.string [])]], [], places) := ⟨[], by kernel_rfl⟩
set_option maxRecDepth 100000 in
theorem parseWrites_lifted (os : Os) (started : os.Started) (H : Type) (enc : TypeId × Value → H) (F : Stop.Interp) :
    ReturnsInHanded {} Tryd.checked os 4 .any ((Rows.OpenSpec.upto Rows.parseWritesSpec).preRow enc Tryd.prog Tryd.f4 Rows.parseWritesUptoRow.domain false Rows.parseWritesUptoRow.laid) (((Rows.OpenSpec.upto Rows.parseWritesSpec).at F).post enc Tryd.prog Tryd.f4 false true false false) := by
  obtain ⟨places, hx⟩ := parseWrites_reads os enc
  refine returnsInHanded_of_row (C := Tryd.checked) (s := Rows.OpenSpec.upto Rows.parseWritesSpec) own started (by kernel_rfl) Tryd.func4
    (witness_row_at (enc := enc) (C := Tryd.checked) false (parseWrites_world os) #[.agg #[.int .i64 0, .int .i64 0, .int .i64 0, .string .empty, .slice none 0 0, .string .empty]] rfl (by kernel_rfl) (by kernel_rfl) (by kernel_rfl)
      (OpenSpec.preRow_of_cond 12 hx (by kernel_rfl) (fun k hk => by cases hk; kernel_rfl) (by kernel_rfl) (parseWrites_met os))) ?_
  intro W base args ds gs before hval hW _ hk _ hL hS _
  exact parseWrites_contract H enc W base args ds gs before hval hW (hk _ rfl) hL hS
theorem parseWrites_holds : Rows.ParseWritesUptoSaid :=
  OpenClaim.holds_of_cond 4 Tryd.f4 rfl rfl rfl rfl rfl rfl rfl ⟨rfl, rfl, rfl, rfl, rfl⟩ rfl rfl rfl rfl rfl (by kernel_rfl) Tryd.func4 (by kernel_rfl)
    (of_decide_eq_true (by kernel_rfl)) (by unfold Func.isWrapper; first | (rw [if_pos (by decide +kernel)]; kernel_rfl) | (rw [if_neg (by decide +kernel)]; exact ⟨rfl, rfl⟩))
    (fun os started H enc _ F => by rw [OpenClaim.pre_eq_preRow]; exact parseWrites_lifted os started H enc F)
theorem parseWrites_plain (f : FuncId) (fn : Func) (hf : Tryd.pinned.checked.prog.funcNamed "farwriter/farlaw.ParseWrites" = some f) (hfn : Tryd.pinned.checked.prog.funcs[f]? = some fn) :
    true = Tryd.pinned.checked.prog.looks [] ∧ ∀ (j : Nat) t, fn.params[j]? = some t → Tryd.pinned.checked.prog.wantsStandIn t = false := by
  obtain rfl : f = 4 := Option.some.inj ((show Tryd.prog.funcNamed "farwriter/farlaw.ParseWrites" = some 4 by kernel_rfl).symm.trans hf) |>.symm
  obtain rfl : fn = Tryd.f4 := (Option.some.inj (Tryd.func4.symm.trans hfn)).symm
  refine ⟨by kernel_rfl, fun j t ht => ?_⟩
  rw [Tryd.params4] at ht
  have hm : t ∈ [35] := by simpa using Array.mem_of_getElem? ht
  have hall : ([35].all fun u => !Tryd.prog.wantsStandIn u) = true := by kernel_rfl
  exact (show Tryd.prog.wantsStandIn t = false by simpa using List.all_eq_true.1 hall t hm)
theorem parseWrites_card : Rows.ParseWritesUptoCardSaid :=
  Claim7.holds_tied_plain_at .later [] _ _ _ _ parseWrites_holds (fun _ h => by cases h) (by kernel_rfl) (fun _ h => by cases h) parseWritesUpto_row_tie rfl ⟨rfl, rfl⟩ (by kernel_rfl) rfl parseWrites_plain (by kernel_rfl)
end Go.Proofs.YtflmckoolagikaaDoor
