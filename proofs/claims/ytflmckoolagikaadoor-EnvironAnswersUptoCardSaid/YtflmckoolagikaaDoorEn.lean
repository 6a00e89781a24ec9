/- farlaw.EnvironAnswers returns true for every input of bulk at most 1048576, and each argument reads as it read. -/
import Derived.Test.YtflmckoolagikaaDoorEn7
import Derived.Test.YtflmckoolagikaaDoorRows
import Derived.WalkKit
import Derived.WalkSpells
import Derived.WalkLawsBesides
import Derived.Handy
import Derived.Lib.Hide
import Derived.Laws.BitsAllLaws
import Derived.Deep.MidRow
import Derived.Deep.WholeRow
import Derived.ProofKit
import Derived.OpenShut
import Derived.JoinedCond
import Derived.SliceStrings
import Derived.BigQuiet
import Derived.Laws.CopyOwn
import Derived.Deep.QuietTactic
import Derived.Laws.AppendOwnNone
import Derived.Laws.MakeOwn
import Derived.Laws.IdiomStrings
import Derived.OrdersHeld
import Derived.Lib.SliceRun
import Derived.ChangeKeysEq
import Derived.Laws.CopyRow
import Derived.Test.YtflmckoolagikaaDoorCards
import Derived.Test.YtflmckoolagikaaDoorTie
import Derived.Deep.DeepHandedRow
import Derived.Shelf.Vars
import Derived.Lib.Replace
import Derived.Lib.AppendStr
import Derived.ArgAppend
import Derived.Lib.Join
import Derived.Lib.IndexLaws
import Derived.Shelf.Strings.Builder1
import Derived.Shelf.Strings.Builder2
import Derived.Shelf.Strings.OnBuilder
import Derived.Shelf.Strings.Trim
import Derived.Shelf.Small.Utf8
import Derived.Shelf.Small.Strs
import Derived.Shelf.Strings.BuilderF
import Derived.Shelf.Strconv.Atoi
import Derived.Shelf.Strconv.Itoa0
import Derived.Shelf.Strconv.Itoa1
import Derived.Shelf.LaysM
import Derived.Shelf.Strconv.Itoa2
import Derived.Shelf.Strconv.Itoa3
import Derived.Shelf.Strconv.AtoiErrFast
import Derived.Shelf.Strconv.ParseIntEmpty
import Derived.Shelf.Strconv.AtoiFail
import Derived.Shelf.Strconv.Clone
import Derived.Shelf.Strconv.SyntaxError
import Derived.Shelf.LaysC
import Derived.Shelf.Strconv.ToError
import Derived.Shelf.Strconv.AtoiErr
import Derived.Shelf.Strconv.Lower
import Derived.Shelf.Strconv.ParseUint10
import Derived.Shelf.Strconv.ParseUint10Empty
import Derived.Shelf.Strconv.ParseUint10Any
import Derived.Shelf.Strconv.ParseInt10
import Derived.Shelf.Strconv.AtoiLong
import Derived.Shelf.Strconv.AtoiInnerAll
import Derived.Shelf.Strconv.RangeError
import Derived.Shelf.Strconv.ToErrorRange
import Derived.Shelf.Strconv.AtoiAll
import Derived.Shelf.Strconv.ErrVarAll
import Derived.Shelf.Strings.Search1
import Derived.Shelf.Strings.Search2
import Derived.Shelf.Strings.Search3
import Derived.Shelf.Strings.Count
import Derived.Shelf.Strings.Shaped
import Derived.Shelf.Strings.Prefix
import Derived.Shelf.Strings.Split
import Derived.Shelf.Strings.Replace
import Derived.Shelf.Strings.SplitShaped
import Derived.Shelf.Strings.Runes
import Derived.Shelf.Strings.AsciiSet
import Derived.Shelf.Bits.Mul64
import Derived.Shelf.Strings.Repeat
import Derived.Shelf.Unicode.DecodeSlow
import Derived.Shelf.Unicode.DecodeAny
import Derived.Shelf.Slices.Equal
import Derived.Shelf.Unicode.ValidAny
import Derived.Test.YtflmckoolagikaaDoorProg
import Derived.Laws.RangeAny
import Derived.RangeFuncRecord
import Derived.RangeFuncFrom
import Derived.TacticsIn
namespace Go.Proofs.YtflmckoolagikaaDoor
open Go Go.RowKit Go.Fw Go.Sx Go.ChangeShapes Go.WideShapes Go.ChangeAt
set_option maxRecDepth 100000
set_option maxHeartbeats 2000000
attribute [local irreducible] SW SL SQ AtQ SV SC BB LD PK Yields SO SOT SOA SY
theorem own : ownKnob Tryd.prog.godebug = none := by kernel_rfl
theorem laidOut : laidOutB Tryd.prog = true := by kernel_rfl
abbrev A9 := ByteArray
abbrev en9 : A9 → List Value := fun z => [.string z]
abbrev ok9 : World → A9 → Prop := fun _ z => z.size ≤ maxLen
abbrev bk9 : A9 → Nat := fun z => z.size
theorem tr9 : Tr Tryd.prog 9 A9 en9 ok9 bk9 := Tr.str Tryd.underlying9 (by kernel_rfl)
abbrev A4 := Bool
abbrev en4 : A4 → List Value := fun z => [.bool z]
abbrev ok4 : World → A4 → Prop := fun _ _ => True
abbrev bk4 : A4 → Nat := fun _ => 0
theorem tr4 : Tr Tryd.prog 4 A4 en4 ok4 bk4 := Tr.bool Tryd.underlying4 (by kernel_rfl)
abbrev A121 := (A9) × (A9) × (A4) × (A4)
abbrev en121 : A121 → List Value := fun p => en9 p.1 ++ (en9 p.2.1 ++ (en4 p.2.2.1 ++ (en4 p.2.2.2)))
abbrev ok121 : World → A121 → Prop := fun W p => ok9 W p.1 ∧ ok9 W p.2.1 ∧ ok4 W p.2.2.1 ∧ ok4 W p.2.2.2
abbrev bk121 : A121 → Nat := fun p => bk9 p.1 + (bk9 p.2.1 + (bk4 p.2.2.1 + (bk4 p.2.2.2)))
theorem tr121 : Tr Tryd.prog 121 A121 en121 ok121 bk121 := Tr.struct (l := [(0, 9), (1, 9), (2, 4), (3, 4)]) (n := 4) (TrS.cons (o := 0) (o' := 1) (n := 4) tr9 (by kernel_rfl) (TrS.cons (o := 1) (o' := 2) (n := 4) tr9 (by kernel_rfl) (TrS.cons (o := 2) (o' := 3) (n := 4) tr4 (by kernel_rfl) (TrS.one (o := 3) (n := 4) tr4 (by kernel_rfl))))) Tryd.underlying121 (by kernel_rfl) (by kernel_rfl)
abbrev A47 := Rx A121
abbrev en47 : A47 → List Value := fun x => [rxV x]
abbrev ok47 : World → A47 → Prop := fun W x => x.2.2.length ≤ x.2.1 ∧ x.2.2.length ≤ maxLen ∧ At W x.1 (x.2.2.flatMap en121) ∧ ∀ y ∈ x.2.2, ok121 W y
abbrev bk47 : A47 → Nat := fun x => (x.2.2.map fun y => bk121 y + 1).sum
theorem tr47 : Tr Tryd.prog 47 A47 en47 ok47 bk47 := Tr.slice tr121 Tryd.underlying47 (by kernel_rfl) (of_decide_eq_true (by kernel_rfl))
theorem environAnswers_sv (G : Ctx) (m : Int) (hM : ∀ H w, Holds G H w → w.cell? ⟨2, 0, none⟩ = some (.int .i64 m)) (L : List Vr) (a : Option Addr) (n cp : Nat) (s : ByteArray) [h1 : ∀ H, RdC G H a (vrs L)] (hn : n = L.length) (hmn : n ≤ 2000000) : SV Tryd.prog G 6 [.slice a n cp, .string s] [] (.bool true) := by
  have c1 := fun H => envAnswer_sv G H L a n cp hn hmn s
  have c2 := fun H => varsAnswer_sv G H m hM L a n cp hn hmn s
  generalize ansV L s = r at *
  obtain ⟨r1, r2⟩ := r
  dsimp only at *
  clear hM hn hmn
  refine sv_enter2 Tryd.func6 rfl rfl rfl rfl rfl ?_
  repeat' (first | (apply g_sl; first | (apply ks_nil; refine sl_nil ?_) | (apply ks_move; refine s_move rfl rfl ?_) | (apply ks_bin; refine s_bin rfl rfl rfl ?_; first | first | (refine bb_seqT rfl ?_) | (first | refine bb_of rfl ?_)) | (apply ks_asgn; refine s_asgn rfl rfl ?_) | (apply ks_pick; refine s_pick rfl rfl ?_; first | (apply kp_t; refine pk_t rfl ?_) | (apply kp_f; refine pk_f rfl ?_) | refine pk_s rfl rfl ?_) | (apply ks_extr; refine s_extr (y_extract rfl rfl rfl) rfl ?_) | (apply ks_fn; first | first | refine c_callv rfl rfl rfl (c1 _) rfl rfl ?_ | refine c_callv rfl rfl rfl (c2 _) rfl rfl ?_) | (apply ks_guard; first | (refine sl_gd rfl rfl rfl rfl ?_; first | (apply gd_t) | (apply gd_ft) | (apply gd_tf) | (apply gd_dec_t <;> intro hq <;> (try (exfalso; omega))) | (apply gd_dec_f <;> intro hq <;> (try (exfalso; omega))) | (apply gd_beq_t <;> intro hq <;> (try (exfalso; omega))) | (apply gd_beq_f <;> intro hq <;> (try (exfalso; omega))) | (apply gd_bne_t <;> intro hq <;> (try (exfalso; omega))) | (apply gd_bne_f <;> intro hq <;> (try (exfalso; omega))) | (apply gd_not_t <;> intro hq) | (apply gd_not_f <;> intro hq) | (apply gd_raw_t <;> intro hq) | (apply gd_raw_f <;> intro hq)) | refine sl_skip_u rfl rfl rfl rfl rfl rfl ?_) | first | (refine bb_seqT rfl ?_)) | (apply sw_seq) | (apply at_srd) | (apply sw_skip) | (apply sw_ret) | (apply sw_exit) | (apply sw_block) | (apply sw_region) | (refine sw_cd rfl ?_; first | (apply gd_t) | (apply gd_ft) | (apply gd_tf) | (apply gd_dec_t <;> intro hq <;> (try (exfalso; omega))) | (apply gd_dec_f <;> intro hq <;> (try (exfalso; omega))) | (apply gd_beq_t <;> intro hq <;> (try (exfalso; omega))) | (apply gd_beq_f <;> intro hq <;> (try (exfalso; omega))) | (apply gd_bne_t <;> intro hq <;> (try (exfalso; omega))) | (apply gd_bne_f <;> intro hq <;> (try (exfalso; omega))) | (apply gd_not_t <;> intro hq) | (apply gd_not_f <;> intro hq) | (apply gd_raw_t <;> intro hq) | (apply gd_raw_f <;> intro hq)) | (apply at_thn) | (apply at_thn_ret) | (apply at_thn_exit) | (apply at_inb) | (apply at_inb_ret) | (apply at_inb_exit) | refine at_inb_pass rfl ?_ | refine c_drawn (by kernel_rfl) ?_)
  all_goals first | exact absurd rfl (by assumption) | (exfalso; omega) | (refine e_sv (by first | exact .inl rfl | exact .inr rfl) rfl (List.nil_sublist _) ?_; simp [resV])
theorem vr_sum : ∀ L : List Vr, L.length ≤ (L.map fun y => y.1.size + (y.2.1.size + (0 + 0)) + 1).sum
  | [] => Nat.le_refl _
  | x :: L => by have := vr_sum L; simp only [List.map_cons, List.sum_cons, List.length_cons] at *; omega
theorem environAnswers_walk (W : World) (y0 : A47) (o0 : ok47 W y0) (y1 : A9) (o1 : ok9 W y1) (hb : bk47 y0 + bk9 y1 ≤ 1048576) (_ : laidMetH Tryd.prog Rows.environAnswersRow.laid W) (hS : W.ShapedOpen Tryd.prog) : Calls Tryd.prog 6 #[rxV y0, .string y1] W fun e w' => e = .returned (.bool true) ∧ Below W.heap.size W w' := by
  obtain ⟨m, hM⟩ := maxLen_cell W hS
  obtain ⟨a, cp, L⟩ := y0
  obtain ⟨-, -, hA, -⟩ := o0
  have hA' : At W a (vrs L) := hA
  have hb' : (List.map (fun y : Vr => y.1.size + (y.2.1.size + (0 + 0)) + 1) L).sum + ByteArray.size y1 ≤ 1048576 := hb
  have ht := vr_sum L
  haveI : ∀ H, RdC ⟨W.heap.size, W⟩ H a (vrs L) := fun H => RdC.top hA'
  exact calls_of_sv (environAnswers_sv _ m hM L a L.length cp y1 rfl (by omega))
set_option maxRecDepth 100000 in
theorem environAnswers_law {H : Type} (enc : TypeId × Value → H) (W : World) {base : Nat} {v0 v1 : Value} {d0 d1 : DataW H} {p0 p1 : List MemPlace}
    (k0 : Value.okWide Tryd.prog W .any base 47 v0) (h0 : DataW.Trod enc Tryd.prog W 0 (fun _ => true) true 47 v0 d0 p0)
    (k1 : Value.okWide Tryd.prog W .any base 9 v1) (h1 : DataW.Trod enc Tryd.prog W 0 (fun _ => true) true 9 v1 d1 p1)
    (hk : Rows.uptoSmall H [d0, d1] = true)
    (hL : laidMetH Tryd.prog Rows.environAnswersUptoRow.laid W) (hS : W.ShapedOpen Tryd.prog)
    : Calls Tryd.prog 6 #[v0, v1] W fun e w' => e = .returned (.bool true) ∧ Below W.heap.size W w' := by
  obtain ⟨y0, rfl, o0, b0⟩ := tr_slice Tryd.underlying47 tr47 k0 h0
  obtain ⟨y1, rfl, o1, b1⟩ := tr_str Tryd.underlying9 tr9 k1 h1
  have hb := bulk_all hk
  simp only [Rows.uptoBulkAll] at hb
  exact environAnswers_walk W y0 o0 y1 o1 (by omega) hL hS
set_option maxRecDepth 100000 in
theorem environAnswers_contract (H : Type) (enc : TypeId × Value → H) (W : World) (base : Nat) (args : Array Value) (ds gs : List (DataW H)) (before : List MemPlace)
    (hval : ∀ (j : Nat) t v, Tryd.f6.params[j]? = some t → args[j]? = some v → Value.okWide Tryd.prog W .any base t v)
    (hW : DataW.Whole enc Tryd.prog Tryd.f6.params.toList Rows.environAnswersSpec.vars false W args.toList ds gs before) (hk : Rows.uptoSmall H (ds ++ gs) = true) (hL : laidMetH Tryd.prog Rows.environAnswersUptoRow.laid W) (hS : W.ShapedOpen Tryd.prog) :
    Calls Tryd.prog 6 args W fun e W' => ∃ v, e = .returned v ∧ Rows.environAnswersSpec.post enc Tryd.prog Tryd.f6 false true false false W args v W' := by
  have hW' := hW
  obtain ⟨p, q, hA0, hV, rfl, hfz, hnd⟩ := hW'
  have hA : DataW.TrodAll enc Tryd.prog W 0 (fun _ => true) true Tryd.f6.params.toList args.toList ds p := hA0
  rw [Tryd.params6] at hA hval
  obtain ⟨v0, vs0, d0, ds0, p0, q0, hargs, rfl, rfl, h0, r0⟩ := trodAll_cons hA
  obtain ⟨v1, vs1, d1, ds1, p1, q1, rfl, rfl, rfl, h1, r1⟩ := trodAll_cons r0
  obtain ⟨rfl, rfl, rfl⟩ := trodAll_nil r1
  obtain rfl : args = #[v0, v1] := by cases args; simp_all
  obtain ⟨rfl, rfl⟩ := trodVars_none hV
  clear hA0
  have k0 := hval 0 47 v0 rfl rfl
  have k1 := hval 1 9 v1 rfl rfl
  simp only [List.append_nil] at hk
  refine (environAnswers_law enc W k0 h0 k1 h1 hk hL hS).mono fun e W' ⟨he, hg⟩ => ?_
  subst he
  exact ⟨_, rfl, law_post (s := Rows.environAnswersSpec) laidOut (by kernel_rfl) rfl Tryd.underlying4 rfl hW rfl hg⟩
noncomputable def environAnswers_world (os : Os) : World := { World.holding Tryd.prog os ⟨#[], #[], []⟩ with heap := (((World.holding Tryd.prog os ⟨#[], #[], []⟩).heap.modify 1 fun | .cells _ t frozen => .cells (dCells Rows.laid_unicode_utf8_acceptRanges).toArray t frozen | o => o).modify 0 fun | .cells _ t frozen => .cells (dCells Rows.laid_unicode_utf8_first).toArray t frozen | o => o) }
theorem environAnswers_met (os : Os) : laidMet Tryd.prog Rows.environAnswersUptoRow.laid ((environAnswers_world os).forCall (fun _ _ => 0) ⟨#[], #[.slice none 0 0, .string .empty], []⟩).memory := laidMet_of_run' 12 (by kernel_rfl) (by kernel_rfl)
theorem environAnswers_reads (os : Os) {H : Type} (enc : TypeId × Value → H) : ∃ places, DataW.whole enc Tryd.prog ((environAnswers_world os).forCall (fun _ _ => 0) ⟨#[], #[.slice none 0 0, .string .empty], []⟩).memory Tryd.f6.params.toList Rows.environAnswersSpec.vars false (#[.slice none 0 0, .string .empty] : Array Value).toList 12 = some ([.nil, .lit (.string [])], [], places) := ⟨[], by kernel_rfl⟩
set_option maxRecDepth 100000 in
theorem environAnswers_lifted (os : Os) (started : os.Started) (H : Type) (enc : TypeId × Value → H) (F : Stop.Interp) :
    ReturnsInHanded {} Tryd.checked os 6 .any ((Rows.OpenSpec.upto Rows.environAnswersSpec).preRow enc Tryd.prog Tryd.f6 Rows.environAnswersUptoRow.domain false Rows.environAnswersUptoRow.laid) (((Rows.OpenSpec.upto Rows.environAnswersSpec).at F).post enc Tryd.prog Tryd.f6 false true false false) := by
  obtain ⟨places, hx⟩ := environAnswers_reads os enc
  refine returnsInHanded_of_row (C := Tryd.checked) (s := Rows.OpenSpec.upto Rows.environAnswersSpec) own started (by kernel_rfl) Tryd.func6
    (witness_row_at (enc := enc) (C := Tryd.checked) false (environAnswers_world os) #[.slice none 0 0, .string .empty] rfl (by kernel_rfl) (by kernel_rfl) (by kernel_rfl)
      (OpenSpec.preRow_of_cond 12 hx (by kernel_rfl) (fun k hk => by cases hk; kernel_rfl) (by kernel_rfl) (environAnswers_met os))) ?_
  intro W base args ds gs before hval hW _ hk _ hL hS _
  exact environAnswers_contract H enc W base args ds gs before hval hW (hk _ rfl) hL hS
theorem environAnswers_holds : Rows.EnvironAnswersUptoSaid :=
  OpenClaim.holds_of_cond 6 Tryd.f6 rfl rfl rfl rfl rfl rfl rfl ⟨rfl, rfl, rfl, rfl, rfl⟩ rfl rfl rfl rfl rfl (by kernel_rfl) Tryd.func6 (by kernel_rfl)
    (of_decide_eq_true (by kernel_rfl)) (by unfold Func.isWrapper; first | (rw [if_pos (by decide +kernel)]; kernel_rfl) | (rw [if_neg (by decide +kernel)]; exact ⟨rfl, rfl⟩))
    (fun os started H enc _ F => by rw [OpenClaim.pre_eq_preRow]; exact environAnswers_lifted os started H enc F)
theorem environAnswers_plain (f : FuncId) (fn : Func) (hf : Tryd.pinned.checked.prog.funcNamed "farwriter/farlaw.EnvironAnswers" = some f) (hfn : Tryd.pinned.checked.prog.funcs[f]? = some fn) :
    true = Tryd.pinned.checked.prog.looks [] ∧ ∀ (j : Nat) t, fn.params[j]? = some t → Tryd.pinned.checked.prog.wantsStandIn t = false := by
  obtain rfl : f = 6 := Option.some.inj ((show Tryd.prog.funcNamed "farwriter/farlaw.EnvironAnswers" = some 6 by kernel_rfl).symm.trans hf) |>.symm
  obtain rfl : fn = Tryd.f6 := (Option.some.inj (Tryd.func6.symm.trans hfn)).symm
  refine ⟨by kernel_rfl, fun j t ht => ?_⟩
  rw [Tryd.params6] at ht
  have hm : t ∈ [47, 9] := by simpa using Array.mem_of_getElem? ht
  have hall : ([47, 9].all fun u => !Tryd.prog.wantsStandIn u) = true := by kernel_rfl
  exact (show Tryd.prog.wantsStandIn t = false by simpa using List.all_eq_true.1 hall t hm)
theorem environAnswers_card : Rows.EnvironAnswersUptoCardSaid :=
  Claim7.holds_tied_plain_at .later [] _ _ _ _ environAnswers_holds (fun _ h => by cases h) (by kernel_rfl) (fun _ h => by cases h) environAnswersUpto_row_tie rfl ⟨rfl, rfl⟩ (by kernel_rfl) rfl environAnswers_plain (by kernel_rfl)
end Go.Proofs.YtflmckoolagikaaDoor
