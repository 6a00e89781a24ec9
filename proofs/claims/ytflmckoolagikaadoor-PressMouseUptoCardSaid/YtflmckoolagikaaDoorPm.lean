/- farlaw.PressMouse returns true for every input of bulk at most 1048576, and each argument reads as it read. -/
import Derived.Test.YtflmckoolagikaaDoorPm4
import Derived.Test.YtflmckoolagikaaDoorRows
import Derived.WalkKit
import Derived.WalkSpells
import Derived.WalkLawsBesides
import Derived.Handy
import Derived.Lib.Hide
import Derived.Laws.BitsAllLaws
import Derived.Deep.MidRow
import Derived.Deep.WholeRow
import Derived.ProofKit
import Derived.OpenShut
import Derived.JoinedCond
import Derived.SliceStrings
import Derived.BigQuiet
import Derived.Laws.CopyOwn
import Derived.Deep.QuietTactic
import Derived.Laws.AppendOwnNone
import Derived.Laws.MakeOwn
import Derived.Laws.IdiomStrings
import Derived.OrdersHeld
import Derived.Lib.SliceRun
import Derived.ChangeKeysEq
import Derived.Laws.CopyRow
import Derived.Test.YtflmckoolagikaaDoorCards
import Derived.Test.YtflmckoolagikaaDoorTie
import Derived.Deep.DeepHandedRow
import Derived.Shelf.Vars
import Derived.Lib.AppendStr
import Derived.ArgAppend
import Derived.Lib.Replace
import Derived.Lib.Join
import Derived.Lib.IndexLaws
import Derived.Shelf.Strings.Builder1
import Derived.Shelf.Strings.Builder2
import Derived.Shelf.Strings.OnBuilder
import Derived.Shelf.Strings.Trim
import Derived.Shelf.Small.Utf8
import Derived.Shelf.Small.Strs
import Derived.Shelf.Strings.BuilderF
import Derived.Shelf.Strconv.Atoi
import Derived.Shelf.Strconv.Itoa0
import Derived.Shelf.Strconv.Itoa1
import Derived.Shelf.LaysM
import Derived.Shelf.Strconv.Itoa2
import Derived.Shelf.Strconv.Itoa3
import Derived.Shelf.Strconv.AtoiErrFast
import Derived.Shelf.Strconv.ParseIntEmpty
import Derived.Shelf.Strconv.AtoiFail
import Derived.Shelf.Strconv.Clone
import Derived.Shelf.Strconv.SyntaxError
import Derived.Shelf.LaysC
import Derived.Shelf.Strconv.ToError
import Derived.Shelf.Strconv.AtoiErr
import Derived.Shelf.Strconv.Lower
import Derived.Shelf.Strconv.ParseUint10
import Derived.Shelf.Strconv.ParseUint10Empty
import Derived.Shelf.Strconv.ParseUint10Any
import Derived.Shelf.Strconv.ParseInt10
import Derived.Shelf.Strconv.AtoiLong
import Derived.Shelf.Strconv.AtoiInnerAll
import Derived.Shelf.Strconv.RangeError
import Derived.Shelf.Strconv.ToErrorRange
import Derived.Shelf.Strconv.AtoiAll
import Derived.Shelf.Strconv.ErrVarAll
import Derived.Shelf.Strings.Search1
import Derived.Shelf.Strings.Search2
import Derived.Shelf.Strings.Search3
import Derived.Shelf.Strings.Count
import Derived.Shelf.Strings.Shaped
import Derived.Shelf.Strings.Prefix
import Derived.Shelf.Strings.Split
import Derived.Shelf.Strings.Replace
import Derived.Shelf.Strings.SplitShaped
import Derived.Shelf.Strings.Runes
import Derived.Shelf.Strings.AsciiSet
import Derived.Shelf.Bits.Mul64
import Derived.Shelf.Strings.Repeat
import Derived.Shelf.Unicode.DecodeSlow
import Derived.Shelf.Unicode.DecodeAny
import Derived.Shelf.Slices.Equal
import Derived.Shelf.Unicode.ValidAny
import Derived.Test.YtflmckoolagikaaDoorProg
import Derived.Lib.ItoaNum
import Derived.Lib.IndexMore
import Derived.Lib.SplitLaws
import Derived.Lib.AppendIntMem
import Derived.Lib.LaidU8
import Derived.Lib.AtoiAll
import Derived.Lib.AtoiErrMem
namespace Go.Proofs.YtflmckoolagikaaDoor
open Go Go.RowKit Go.Fw Go.Sx Go.ChangeShapes Go.WideShapes Go.ChangeAt
set_option maxRecDepth 100000
set_option maxHeartbeats 2000000
theorem own : ownKnob Tryd.prog.godebug = none := by kernel_rfl
theorem laidOut : laidOutB Tryd.prog = true := by kernel_rfl
abbrev A3 := Int
abbrev en3 : A3 → List Value := fun z => [.int .i64 z]
abbrev ok3 : World → A3 → Prop := fun _ z => (Lit.int .i64 z).wf = true
abbrev bk3 : A3 → Nat := fun _ => 0
theorem tr3 : Tr Tryd.prog 3 A3 en3 ok3 bk3 := Tr.int Tryd.underlying3 (by kernel_rfl)
abbrev A4 := Bool
abbrev en4 : A4 → List Value := fun z => [.bool z]
abbrev ok4 : World → A4 → Prop := fun _ _ => True
abbrev bk4 : A4 → Nat := fun _ => 0
theorem tr4 : Tr Tryd.prog 4 A4 en4 ok4 bk4 := Tr.bool Tryd.underlying4 (by kernel_rfl)
abbrev A41 := (A3) × (A3) × (A3) × (A3) × (A4)
abbrev en41 : A41 → List Value := fun p => en3 p.1 ++ (en3 p.2.1 ++ (en3 p.2.2.1 ++ (en3 p.2.2.2.1 ++ (en4 p.2.2.2.2))))
abbrev ok41 : World → A41 → Prop := fun W p => ok3 W p.1 ∧ ok3 W p.2.1 ∧ ok3 W p.2.2.1 ∧ ok3 W p.2.2.2.1 ∧ ok4 W p.2.2.2.2
abbrev bk41 : A41 → Nat := fun p => bk3 p.1 + (bk3 p.2.1 + (bk3 p.2.2.1 + (bk3 p.2.2.2.1 + (bk4 p.2.2.2.2))))
theorem tr41 : Tr Tryd.prog 41 A41 en41 ok41 bk41 := Tr.struct (l := [(0, 3), (1, 3), (2, 3), (3, 3), (4, 4)]) (n := 5) (TrS.cons (o := 0) (o' := 1) (n := 5) tr3 (by kernel_rfl) (TrS.cons (o := 1) (o' := 2) (n := 5) tr3 (by kernel_rfl) (TrS.cons (o := 2) (o' := 3) (n := 5) tr3 (by kernel_rfl) (TrS.cons (o := 3) (o' := 4) (n := 5) tr3 (by kernel_rfl) (TrS.one (o := 4) (n := 5) tr4 (by kernel_rfl)))))) Tryd.underlying41 (by kernel_rfl) (by kernel_rfl)
abbrev A9 := ByteArray
abbrev en9 : A9 → List Value := fun z => [.string z]
abbrev ok9 : World → A9 → Prop := fun _ z => z.size ≤ maxLen
abbrev bk9 : A9 → Nat := fun z => z.size
theorem tr9 : Tr Tryd.prog 9 A9 en9 ok9 bk9 := Tr.str Tryd.underlying9 (by kernel_rfl)
theorem mouEq (b c r q : Int) (up : Bool) : EqVal Tryd.prog 10000 41 (.agg [.int .i64 b, .int .i64 c, .int .i64 r, .int .i64 q, .bool up].toArray) (.agg [.int .i64 b, .int .i64 c, .int .i64 r, .int .i64 q, .bool up].toArray) true := by
  have hfs : Tryd.prog.fieldsOf 41 = (match Tryd.prog.underlying 41 with | some (.struct fs) => fs | _ => #[]) := rfl
  refine eqval_struct (d := 9999) (by rw [hfs, Tryd.underlying41]) (by kernel_rfl) ?_
  rw [hfs, Tryd.underlying41]
  refine .eq (by decide) (u := .int .i64 b) (v := .int .i64 b) (part_one rfl) (part_one rfl) (eqself_int _) ?_
  refine .eq (by decide) (u := .int .i64 c) (v := .int .i64 c) (part_one rfl) (part_one rfl) (eqself_int _) ?_
  refine .eq (by decide) (u := .int .i64 r) (v := .int .i64 r) (part_one rfl) (part_one rfl) (eqself_int _) ?_
  refine .eq (by decide) (u := .int .i64 q) (v := .int .i64 q) (part_one rfl) (part_one rfl) (eqself_int _) ?_
  exact .eq (by decide) (u := .bool up) (v := .bool up) (part_one rfl) (part_one rfl) (eqself_bool _ Tryd.underlying4) .nil
theorem sv_of_sc {P : Program} {G : Ctx} {f : FuncId} {args : List Value} {H : List Ent} {R : Value → List Ent → Prop} {v : Value} (h : SC P G f args H R) (hi : ∀ u H', R u H' → u = v ∧ H' = H) : SV P G f args H v := sc_imp h hi
attribute [local irreducible] SW SL SQ AtQ SV SC BB LD PK Yields SO SOT SOA SY
theorem pressMouse_sv (G : Ctx) (M : Int) (hM : ∀ H w, Holds G H w → w.cell? ⟨2, 0, none⟩ = some (.int .i64 M)) (hT : ∀ H, Pow10 G H) (hE : ErrsOk G) (b c r q : Int) (up : Bool) (modes : Int) (s : ByteArray) (hs : s.size ≤ 2000000) : SV Tryd.prog G 5 [mouV b c r q up, .int .i64 modes, .string s] [] (.bool true) := by
  have c1 := fun H => mouse_sv G H hT b c r q up modes
  have c2 := fun H => mouseText_sv G H b c r q up modes
  generalize mouseP b c r q up (ibits .and .i64 modes 512) (ibits .and .i64 modes 1024) = Z at *
  obtain ⟨b', c', r', q', up', e, h3, h4⟩ : ∃ b' c' r' q' up' e, (∀ H, SV Tryd.prog G 18 [.string s] H (.tuple #[mouV b' c' r' q' up', .int .i64 e])) ∧ (∀ H, SV Tryd.prog G 19 [.string s] H (.tuple #[mouV b' c' r' q' up', .int .i64 e])) := by
    by_cases hg : ∃ b c r q up, goodM s b c r q up
    · obtain ⟨b', c', r', q', up', hg⟩ := hg
      have key : ∀ v, UnR s v → v = .tuple #[mouV b' c' r' q' up', .int .i64 0] := fun v hv => by
        rcases hv with ⟨b2, c2, r2, q2, up2, h, rfl⟩ | ⟨h, _⟩
        · obtain ⟨rfl, rfl, rfl, rfl, rfl⟩ := goodM_uniq hg h
          rfl
        · exact absurd hg (h _ _ _ _ _)
      exact ⟨b', c', r', q', up', 0, fun H => sv_of_sc (unmouse_yes G H M hM hT s hs b' c' r' q' up' hg) fun v H' h => ⟨key v h.1, h.2⟩, fun H => sv_of_sc (textMouse_sc G H s hs) fun v H' h => ⟨key v h.1, h.2⟩⟩
    · have hno : ∀ b c r q up, ¬ goodM s b c r q up := fun b c r q up h => hg ⟨b, c, r, q, up, h⟩
      have key : ∀ v, UnR s v → v = .tuple #[mouV 0 0 0 0 false, .int .i64 4] := fun v hv => by
        rcases hv with ⟨b2, c2, r2, q2, up2, h, rfl⟩ | ⟨_, h⟩
        · exact absurd h (hno _ _ _ _ _)
        · exact h
      exact ⟨0, 0, 0, 0, false, 4, fun H => sv_of_sc (unmouse_no G H M hM hT hE s hs hno) fun v H' h => ⟨key v h.1, h.2⟩, fun H => sv_of_sc (textMouse_sc G H s hs) fun v H' h => ⟨key v h.1, h.2⟩⟩
  have heq := mouEq b' c' r' q' up'
  clear hM hT hE
  refine sv_enter3 Tryd.func5 rfl rfl rfl rfl rfl ?_
  repeat' (first | (apply g_sl; first | (apply ks_nil; refine sl_nil ?_) | (apply ks_move; refine s_move rfl rfl ?_) | (apply ks_bin; refine s_bin rfl rfl rfl ?_; first | first | (refine bb_seq ?_) | (refine bb_eqv heq (by kernel_rfl) ?_) | (refine c_storew rfl rfl rfl rfl rfl rfl rfl rfl ?_) | (first | refine bb_of rfl ?_)) | (apply ks_load; first | (refine s_load rfl rfl ?_; first | refine ld_cell rfl ?_ | refine ld_whole rfl ?_ | refine ld_elem rfl ?_ | refine ld_part rfl rfl ?_) | first | (refine bb_seq ?_) | (refine bb_eqv heq (by kernel_rfl) ?_) | (refine c_storew rfl rfl rfl rfl rfl rfl rfl rfl ?_)) | (apply ks_asgn; refine s_asgn rfl rfl ?_) | (apply ks_pick; refine s_pick rfl rfl ?_; first | (apply kp_t; refine pk_t rfl ?_) | (apply kp_f; refine pk_f rfl ?_) | refine pk_s rfl rfl ?_) | (apply ks_extr; refine s_extr (y_extract rfl rfl rfl) rfl ?_) | (apply ks_fn; first | first | refine c_callv rfl rfl rfl (c1 _) rfl rfl ?_ | refine c_callv rfl rfl rfl (c2 _) rfl rfl ?_ | refine c_callv rfl rfl rfl (h3 _) rfl rfl ?_ | refine c_callv rfl rfl rfl (h4 _) rfl rfl ?_) | (apply ks_store; first | first | refine c_store rfl rfl rfl rfl rfl rfl rfl ?_ | refine c_storew rfl rfl rfl rfl rfl rfl rfl rfl ?_ | refine c_storee rfl rfl rfl rfl rfl (by omega) rfl ?_ | first | (refine bb_seq ?_) | (refine bb_eqv heq (by kernel_rfl) ?_) | (refine c_storew rfl rfl rfl rfl rfl rfl rfl rfl ?_)) | (apply ks_box; refine c_box rfl rfl rfl rfl rfl rfl (fun _ => ?_)) | (apply ks_alloc; refine c_alloc rfl rfl rfl rfl (fun _ => ?_)) | (apply ks_guard; first | (refine sl_gd rfl rfl rfl rfl ?_; first | (apply gd_t) | (apply gd_ft) | (apply gd_tf) | (apply gd_dec_t <;> intro hq <;> (try (exfalso; omega))) | (apply gd_dec_f <;> intro hq <;> (try (exfalso; omega))) | (apply gd_beq_t <;> intro hq <;> (try (exfalso; omega))) | (apply gd_beq_f <;> intro hq <;> (try (exfalso; omega))) | (apply gd_bne_t <;> intro hq <;> (try (exfalso; omega))) | (apply gd_bne_f <;> intro hq <;> (try (exfalso; omega))) | (apply gd_not_t <;> intro hq) | (apply gd_not_f <;> intro hq) | (apply gd_raw_t <;> intro hq) | (apply gd_raw_f <;> intro hq)) | refine sl_skip_u rfl rfl rfl rfl rfl rfl ?_) | first | (refine bb_seq ?_) | (refine bb_eqv heq (by kernel_rfl) ?_) | (refine c_storew rfl rfl rfl rfl rfl rfl rfl rfl ?_)) | (apply sw_seq) | (apply at_srd) | (apply sw_skip) | (apply sw_ret) | (apply sw_exit) | (apply sw_block) | (apply sw_region) | (refine sw_cd rfl ?_; first | (apply gd_t) | (apply gd_ft) | (apply gd_tf) | (apply gd_dec_t <;> intro hq <;> (try (exfalso; omega))) | (apply gd_dec_f <;> intro hq <;> (try (exfalso; omega))) | (apply gd_beq_t <;> intro hq <;> (try (exfalso; omega))) | (apply gd_beq_f <;> intro hq <;> (try (exfalso; omega))) | (apply gd_bne_t <;> intro hq <;> (try (exfalso; omega))) | (apply gd_bne_f <;> intro hq <;> (try (exfalso; omega))) | (apply gd_not_t <;> intro hq) | (apply gd_not_f <;> intro hq) | (apply gd_raw_t <;> intro hq) | (apply gd_raw_f <;> intro hq)) | (apply at_thn) | (apply at_thn_ret) | (apply at_thn_exit) | (apply at_inb) | (apply at_inb_ret) | (apply at_inb_exit) | refine at_inb_pass rfl ?_ | refine c_drawn (by kernel_rfl) ?_)
  all_goals first | exact absurd rfl (by assumption) | (exact absurd rfl (of_decide_eq_false (by assumption))) | (exfalso; omega) | (refine e_sv (by first | exact .inl rfl | exact .inr rfl) rfl (List.nil_sublist _) ?_; simp [resV])
theorem pressMouse_walk (W : World) (y0 : A41) (o0 : ok41 W y0) (y1 : A3) (o1 : ok3 W y1) (y2 : A9) (o2 : ok9 W y2) (hb : bk41 y0 + (bk3 y1 + bk9 y2) ≤ 1048576) (hL : laidMetH Tryd.prog Rows.pressMouseRow.laid W) (hS : W.ShapedOpen Tryd.prog) : Calls Tryd.prog 5 #[.agg (en41 y0).toArray, .int .i64 y1, .string y2] W fun e w' => e = .returned (.bool true) ∧ Below W.heap.size W w' := by
  obtain ⟨m', hM⟩ := maxLen_cell W hS
  have hL' : laidMet Tryd.prog Rows.pressMouseRow.laid W := hL
  have hT := pow10_hold (W := W) (laid := Rows.pressMouseRow.laid) hL' (by simp [Rows.pressMouseRow])
  have hE := errsOk_hold (W := W) (laid := Rows.pressMouseRow.laid) hL' (by simp [Rows.pressMouseRow]) (by simp [Rows.pressMouseRow])
  obtain ⟨b, c, r, q, up⟩ := y0
  have hb' : (0 + (0 + (0 + (0 + 0)))) + (0 + y2.size) ≤ 1048576 := hb
  exact calls_of_sv (pressMouse_sv _ m' hM hT hE b c r q up y1 y2 (by omega))
set_option maxRecDepth 100000 in
theorem pressMouse_law {H : Type} (enc : TypeId × Value → H) (W : World) {base : Nat} {v0 v1 v2 : Value} {d0 d1 d2 : DataW H} {p0 p1 p2 : List MemPlace}
    (k0 : Value.okWide Tryd.prog W .any base 41 v0) (h0 : DataW.Trod enc Tryd.prog W 0 (fun _ => true) true 41 v0 d0 p0)
    (k1 : Value.okWide Tryd.prog W .any base 3 v1) (h1 : DataW.Trod enc Tryd.prog W 0 (fun _ => true) true 3 v1 d1 p1)
    (k2 : Value.okWide Tryd.prog W .any base 9 v2) (h2 : DataW.Trod enc Tryd.prog W 0 (fun _ => true) true 9 v2 d2 p2)
    (hk : Rows.uptoSmall H [d0, d1, d2] = true)
    (hL : laidMetH Tryd.prog Rows.pressMouseUptoRow.laid W) (hS : W.ShapedOpen Tryd.prog)
    : Calls Tryd.prog 5 #[v0, v1, v2] W fun e w' => e = .returned (.bool true) ∧ Below W.heap.size W w' := by
  obtain ⟨y0, rfl, o0, b0⟩ := tr_agg Tryd.underlying41 tr41 k0 h0
  obtain ⟨y1, rfl, o1, b1⟩ := tr_int Tryd.underlying3 tr3 k1 h1
  obtain ⟨y2, rfl, o2, b2⟩ := tr_str Tryd.underlying9 tr9 k2 h2
  have hb := bulk_all hk
  simp only [Rows.uptoBulkAll] at hb
  exact pressMouse_walk W y0 o0 y1 o1 y2 o2 (by omega) hL hS
set_option maxRecDepth 100000 in
theorem pressMouse_contract (H : Type) (enc : TypeId × Value → H) (W : World) (base : Nat) (args : Array Value) (ds gs : List (DataW H)) (before : List MemPlace)
    (hval : ∀ (j : Nat) t v, Tryd.f5.params[j]? = some t → args[j]? = some v → Value.okWide Tryd.prog W .any base t v)
    (hW : DataW.Whole enc Tryd.prog Tryd.f5.params.toList Rows.pressMouseSpec.vars false W args.toList ds gs before) (hk : Rows.uptoSmall H (ds ++ gs) = true) (hL : laidMetH Tryd.prog Rows.pressMouseUptoRow.laid W) (hS : W.ShapedOpen Tryd.prog) :
    Calls Tryd.prog 5 args W fun e W' => ∃ v, e = .returned v ∧ Rows.pressMouseSpec.post enc Tryd.prog Tryd.f5 false true false false W args v W' := by
  have hW' := hW
  obtain ⟨p, q, hA0, hV, rfl, hfz, hnd⟩ := hW'
  have hA : DataW.TrodAll enc Tryd.prog W 0 (fun _ => true) true Tryd.f5.params.toList args.toList ds p := hA0
  rw [Tryd.params5] at hA hval
  obtain ⟨v0, vs0, d0, ds0, p0, q0, hargs, rfl, rfl, h0, r0⟩ := trodAll_cons hA
  obtain ⟨v1, vs1, d1, ds1, p1, q1, rfl, rfl, rfl, h1, r1⟩ := trodAll_cons r0
  obtain ⟨v2, vs2, d2, ds2, p2, q2, rfl, rfl, rfl, h2, r2⟩ := trodAll_cons r1
  obtain ⟨rfl, rfl, rfl⟩ := trodAll_nil r2
  obtain rfl : args = #[v0, v1, v2] := by cases args; simp_all
  obtain ⟨rfl, rfl⟩ := trodVars_none hV
  clear hA0
  have k0 := hval 0 41 v0 rfl rfl
  have k1 := hval 1 3 v1 rfl rfl
  have k2 := hval 2 9 v2 rfl rfl
  simp only [List.append_nil] at hk
  refine (pressMouse_law enc W k0 h0 k1 h1 k2 h2 hk hL hS).mono fun e W' ⟨he, hg⟩ => ?_
  subst he
  exact ⟨_, rfl, law_post (s := Rows.pressMouseSpec) laidOut (by kernel_rfl) rfl Tryd.underlying4 rfl hW rfl hg⟩
noncomputable def pressMouse_world (os : Os) : World := { World.holding Tryd.prog os ⟨#[.cells #[.string ⟨#[118, 97, 108, 117, 101, 32, 111, 117, 116, 32, 111, 102, 32, 114, 97, 110, 103, 101]⟩] 243 (0, 0), .cells #[.string ⟨#[105, 110, 118, 97, 108, 105, 100, 32, 115, 121, 110, 116, 97, 120]⟩] 243 (0, 0)], #[], []⟩ with heap := ((((((((World.holding Tryd.prog os ⟨#[.cells #[.string ⟨#[118, 97, 108, 117, 101, 32, 111, 117, 116, 32, 111, 102, 32, 114, 97, 110, 103, 101]⟩] 243 (0, 0), .cells #[.string ⟨#[105, 110, 118, 97, 108, 105, 100, 32, 115, 121, 110, 116, 97, 120]⟩] 243 (0, 0)], #[], []⟩).heap.modify 6 fun | .cells _ t frozen => .cells (dCells Rows.laid_math_bits_deBruijn32tab).toArray t frozen | o => o).modify 7 fun | .cells _ t frozen => .cells (dCells Rows.laid_math_bits_deBruijn64tab).toArray t frozen | o => o).modify 5 fun | .cells _ t frozen => .cells (dCells Rows.laid_internal_strconv_uint64pow10).toArray t frozen | o => o).modify 1 fun | .cells _ t frozen => .cells (dCells Rows.laid_unicode_utf8_acceptRanges).toArray t frozen | o => o).modify 4 fun | .cells _ t frozen => .cells #[.iface 241 (.pointer (some ⟨(World.settled Tryd.prog os).heap.size + 0, 0, none⟩))] t frozen | o => o).modify 3 fun | .cells _ t frozen => .cells #[.iface 241 (.pointer (some ⟨(World.settled Tryd.prog os).heap.size + 1, 0, none⟩))] t frozen | o => o).modify 0 fun | .cells _ t frozen => .cells (dCells Rows.laid_unicode_utf8_first).toArray t frozen | o => o) }
theorem pressMouse_met (os : Os) : laidMet Tryd.prog Rows.pressMouseUptoRow.laid ((pressMouse_world os).forCall (fun _ _ => 0) ⟨#[], #[.agg #[.int .i64 0, .int .i64 0, .int .i64 0, .int .i64 0, .bool false], .int .i64 0, .string .empty], []⟩).memory := laidMet_of_run' 12 (by kernel_rfl) (by kernel_rfl)
theorem pressMouse_reads (os : Os) {H : Type} (enc : TypeId × Value → H) : ∃ places, DataW.whole enc Tryd.prog ((pressMouse_world os).forCall (fun _ _ => 0) ⟨#[], #[.agg #[.int .i64 0, .int .i64 0, .int .i64 0, .int .i64 0, .bool false], .int .i64 0, .string .empty], []⟩).memory Tryd.f5.params.toList Rows.pressMouseSpec.vars false (#[.agg #[.int .i64 0, .int .i64 0, .int .i64 0, .int .i64 0, .bool false], .int .i64 0, .string .empty] : Array Value).toList 12 = some ([.agg [.lit (.int .i64 0), .lit (.int .i64 0), .lit (.int .i64 0), .lit (.int .i64 0), .lit (.bool false)], .lit (.int .i64 0), .lit (.string [])], [], places) := ⟨[], by kernel_rfl⟩
set_option maxRecDepth 100000 in
theorem pressMouse_lifted (os : Os) (started : os.Started) (H : Type) (enc : TypeId × Value → H) (F : Stop.Interp) :
    ReturnsInHanded {} Tryd.checked os 5 .any ((Rows.OpenSpec.upto Rows.pressMouseSpec).preRow enc Tryd.prog Tryd.f5 Rows.pressMouseUptoRow.domain false Rows.pressMouseUptoRow.laid) (((Rows.OpenSpec.upto Rows.pressMouseSpec).at F).post enc Tryd.prog Tryd.f5 false true false false) := by
  obtain ⟨places, hx⟩ := pressMouse_reads os enc
  refine returnsInHanded_of_row (C := Tryd.checked) (s := Rows.OpenSpec.upto Rows.pressMouseSpec) own started (by kernel_rfl) Tryd.func5
    (witness_row_at (enc := enc) (C := Tryd.checked) false (pressMouse_world os) #[.agg #[.int .i64 0, .int .i64 0, .int .i64 0, .int .i64 0, .bool false], .int .i64 0, .string .empty] rfl (by kernel_rfl) (by kernel_rfl) (by kernel_rfl)
      (OpenSpec.preRow_of_cond 12 hx (by kernel_rfl) (fun k hk => by cases hk; kernel_rfl) (by kernel_rfl) (pressMouse_met os))) ?_
  intro W base args ds gs before hval hW _ hk _ hL hS _
  exact pressMouse_contract H enc W base args ds gs before hval hW (hk _ rfl) hL hS
theorem pressMouse_holds : Rows.PressMouseUptoSaid :=
  OpenClaim.holds_of_cond 5 Tryd.f5 rfl rfl rfl rfl rfl rfl rfl ⟨rfl, rfl, rfl, rfl, rfl⟩ rfl rfl rfl rfl rfl (by kernel_rfl) Tryd.func5 (by kernel_rfl)
    (of_decide_eq_true (by kernel_rfl)) (by unfold Func.isWrapper; first | (rw [if_pos (by decide +kernel)]; kernel_rfl) | (rw [if_neg (by decide +kernel)]; exact ⟨rfl, rfl⟩))
    (fun os started H enc _ F => by rw [OpenClaim.pre_eq_preRow]; exact pressMouse_lifted os started H enc F)
theorem pressMouse_plain (f : FuncId) (fn : Func) (hf : Tryd.pinned.checked.prog.funcNamed "farwriter/farlaw.PressMouse" = some f) (hfn : Tryd.pinned.checked.prog.funcs[f]? = some fn) :
    true = Tryd.pinned.checked.prog.looks [] ∧ ∀ (j : Nat) t, fn.params[j]? = some t → Tryd.pinned.checked.prog.wantsStandIn t = false := by
  obtain rfl : f = 5 := Option.some.inj ((show Tryd.prog.funcNamed "farwriter/farlaw.PressMouse" = some 5 by kernel_rfl).symm.trans hf) |>.symm
  obtain rfl : fn = Tryd.f5 := (Option.some.inj (Tryd.func5.symm.trans hfn)).symm
  refine ⟨by kernel_rfl, fun j t ht => ?_⟩
  rw [Tryd.params5] at ht
  have hm : t ∈ [41, 3, 9] := by simpa using Array.mem_of_getElem? ht
  have hall : ([41, 3, 9].all fun u => !Tryd.prog.wantsStandIn u) = true := by kernel_rfl
  exact (show Tryd.prog.wantsStandIn t = false by simpa using List.all_eq_true.1 hall t hm)
theorem pressMouse_card : Rows.PressMouseUptoCardSaid :=
  Claim7.holds_tied_plain_at .later [] _ _ _ _ pressMouse_holds (fun _ h => by cases h) (by kernel_rfl) (fun _ h => by cases h) pressMouseUpto_row_tie rfl ⟨rfl, rfl⟩ (by kernel_rfl) rfl pressMouse_plain (by kernel_rfl)
end Go.Proofs.YtflmckoolagikaaDoor
