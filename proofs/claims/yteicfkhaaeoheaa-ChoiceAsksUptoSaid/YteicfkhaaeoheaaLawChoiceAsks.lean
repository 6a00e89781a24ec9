/- farlaw.ChoiceAsks returns true for every input of bulk at most 1048576, and each argument reads as it read. -/
import Derived.Test.YteicfkhaaeoheaaLawTr
import Derived.Test.YteicfkhaaeoheaaCho3
namespace Go.Proofs.Yteicfkhaaeoheaa
open Go Go.RowKit Go.Fw Go.Sx Go.ChangeShapes Go.WideShapes Go.ChangeAt
set_option maxRecDepth 100000
set_option maxHeartbeats 2000000
attribute [local irreducible] SW SL SQ AtQ SV SC BB LD PK Yields SO SOT SOA SY

theorem own : ownKnob Try.prog.godebug = none := by kernel_rfl
theorem laidOut : laidOutB Try.prog = true := by kernel_rfl
abbrev A9 := ByteArray
abbrev en9 : A9 → List Value := fun z => [.string z]
abbrev ok9 : World → A9 → Prop := fun _ z => z.size ≤ maxLen
abbrev bk9 : A9 → Nat := fun z => z.size
theorem tr9 : Tr Try.prog 9 A9 en9 ok9 bk9 := Tr.str Try.underlying9 (by kernel_rfl)
abbrev A54 := Rx A9
abbrev en54 : A54 → List Value := fun x => [rxV x]
abbrev ok54 : World → A54 → Prop := fun W x => x.2.2.length ≤ x.2.1 ∧ x.2.2.length ≤ maxLen ∧ At W x.1 (x.2.2.flatMap en9) ∧ ∀ y ∈ x.2.2, ok9 W y
abbrev bk54 : A54 → Nat := fun x => (x.2.2.map fun y => bk9 y + 1).sum
theorem tr54 : Tr Try.prog 54 A54 en54 ok54 bk54 := Tr.slice tr9 Try.underlying54 (by kernel_rfl) (of_decide_eq_true (by kernel_rfl))
theorem choiceAsks_sv (G : Ctx) (L : List ByteArray) (d : ByteArray) (a : Option Addr) (n c : Nat) [h1 : ∀ H, RdC G H a (strs L)] (hn : n = L.length) (hnc : n ≤ c) (hm : n ≤ maxLen) (hB : (L.map (·.size)).sum ≤ 2000000) (hz : ∀ x ∈ L, x.size ≤ maxLen) (hd : d.size ≤ maxLen) : SV Try.prog G 5 [.slice a n c, .string d] [] (.bool true) := by
  have c1 := fun H => ask_sv G H L a n c hn hnc hm hB hz
  have c2 := fun H => askFor_sv G H L a n c hn hnc hm hB hz
  have c3 := fun H => told_sv G H L d a n c hn hm hz hd
  have c4 := fun H => toldOf_sv G H L d a n c hn hm hz hd
  generalize askS L = r at *
  generalize toldS L d = q at *
  obtain ⟨r1, r2⟩ := r
  obtain ⟨q1, q2⟩ := q
  clear hn hnc hm hB hz hd
  refine sv_enter2 Try.func5 rfl rfl rfl rfl rfl ?_
  repeat' (first | (apply g_sl; first | (apply ks_nil; refine sl_nil ?_) | (apply ks_move; refine s_move rfl rfl ?_) | (apply ks_bin; refine s_bin rfl rfl rfl ?_; first | refine bb_seq ?_ | (first | refine bb_of rfl ?_)) | (apply ks_asgn; refine s_asgn rfl rfl ?_) | (apply ks_pick; refine s_pick rfl rfl ?_; first | (apply kp_t; refine pk_t rfl ?_) | (apply kp_f; refine pk_f rfl ?_) | refine pk_s rfl rfl ?_) | (apply ks_extr; refine s_extr (y_extract rfl rfl rfl) rfl ?_) | (apply ks_fn; first | first | refine c_callv rfl rfl rfl (c1 _) rfl rfl ?_ | refine c_callv rfl rfl rfl (c2 _) rfl rfl ?_ | refine c_callv rfl rfl rfl (c3 _) rfl rfl ?_ | refine c_callv rfl rfl rfl (c4 _) rfl rfl ?_) | (apply ks_guard; first | (refine sl_gd rfl rfl rfl rfl ?_; first | (apply gd_t) | (apply gd_ft) | (apply gd_tf) | (apply gd_dec_t <;> intro hq <;> (try (exfalso; omega))) | (apply gd_dec_f <;> intro hq <;> (try (exfalso; omega))) | (apply gd_beq_t <;> intro hq <;> (try (exfalso; omega))) | (apply gd_beq_f <;> intro hq <;> (try (exfalso; omega))) | (apply gd_bne_t <;> intro hq <;> (try (exfalso; omega))) | (apply gd_bne_f <;> intro hq <;> (try (exfalso; omega))) | (apply gd_not_t <;> intro hq) | (apply gd_not_f <;> intro hq) | (apply gd_raw_t <;> intro hq) | (apply gd_raw_f <;> intro hq)) | refine sl_skip_u rfl rfl rfl rfl rfl rfl ?_) | refine bb_seq ?_) | (apply sw_seq) | (apply at_srd) | (apply sw_skip) | (apply sw_ret) | (apply sw_exit) | (apply sw_block) | (apply sw_region) | (refine sw_cd rfl ?_; first | (apply gd_t) | (apply gd_ft) | (apply gd_tf) | (apply gd_dec_t <;> intro hq <;> (try (exfalso; omega))) | (apply gd_dec_f <;> intro hq <;> (try (exfalso; omega))) | (apply gd_beq_t <;> intro hq <;> (try (exfalso; omega))) | (apply gd_beq_f <;> intro hq <;> (try (exfalso; omega))) | (apply gd_bne_t <;> intro hq <;> (try (exfalso; omega))) | (apply gd_bne_f <;> intro hq <;> (try (exfalso; omega))) | (apply gd_not_t <;> intro hq) | (apply gd_not_f <;> intro hq) | (apply gd_raw_t <;> intro hq) | (apply gd_raw_f <;> intro hq)) | (apply at_thn) | (apply at_thn_ret) | (apply at_thn_exit) | (apply at_inb) | (apply at_inb_ret) | (apply at_inb_exit) | refine at_inb_pass rfl ?_ | refine c_drawn (by kernel_rfl) ?_)
  all_goals first | exact absurd rfl (by assumption) | (refine e_sv (by first | exact .inl rfl | exact .inr rfl) rfl (List.nil_sublist _) ?_; simp [resV])
theorem sum_sizes (L : List ByteArray) : (L.map fun y => y.size).sum ≤ (L.map fun y => y.size + 1).sum := by
  induction L with
  | nil => exact Nat.le_refl _
  | cons x L ih => simp only [List.map_cons, List.sum_cons]; omega
theorem choiceAsks_walk (W : World) (y0 : A54) (o0 : ok54 W y0) (y1 : A9) (o1 : ok9 W y1) (hb : bk54 y0 + bk9 y1 ≤ 1048576) : Calls Try.prog 5 #[rxV y0, .string y1] W fun e w' => e = .returned (.bool true) ∧ Below W.heap.size W w' := by
  obtain ⟨a, c, xs⟩ := y0
  obtain ⟨hc, hm, hA, hz⟩ := o0
  have hs : (xs.map fun y : ByteArray => y.size).sum ≤ 2000000 := by have h1 : (xs.map fun y : ByteArray => y.size + 1).sum + ByteArray.size y1 ≤ 1048576 := hb; have := sum_sizes xs; omega
  have hA' : At W a (Go.Fw.strs xs) := by
    have e : xs.flatMap en9 = Go.Fw.strs xs := fm_map _ xs
    rw [← e]; exact hA
  haveI : ∀ H, RdC ⟨W.heap.size, W⟩ H a (Go.Fw.strs xs) := fun H => RdC.top hA'
  exact calls_of_sv (choiceAsks_sv _ xs y1 a xs.length c rfl hc hm hs hz o1)

set_option maxRecDepth 100000 in
theorem choiceAsks_law {H : Type} (enc : TypeId × Value → H) (W : World) {base : Nat} {v0 v1 : Value} {d0 d1 : DataW H} {p0 p1 : List MemPlace}
    (k0 : Value.okWide Try.prog W .any base 54 v0) (h0 : DataW.Trod enc Try.prog W 0 (fun _ => true) true 54 v0 d0 p0)
    (k1 : Value.okWide Try.prog W .any base 9 v1) (h1 : DataW.Trod enc Try.prog W 0 (fun _ => true) true 9 v1 d1 p1)
    (hk : Rows.uptoSmall H [d0, d1] = true)
    : Calls Try.prog 5 #[v0, v1] W fun e w' => e = .returned (.bool true) ∧ Below W.heap.size W w' := by
  obtain ⟨y0, rfl, o0, b0⟩ := tr_slice Try.underlying54 tr54 k0 h0
  obtain ⟨y1, rfl, o1, b1⟩ := tr_str Try.underlying9 tr9 k1 h1
  have hb := bulk_all hk
  simp only [Rows.uptoBulkAll] at hb
  exact choiceAsks_walk W y0 o0 y1 o1 (by omega)

set_option maxRecDepth 100000 in
theorem choiceAsks_contract (H : Type) (enc : TypeId × Value → H) (W : World) (base : Nat) (args : Array Value) (ds gs : List (DataW H)) (before : List MemPlace)
    (hval : ∀ (j : Nat) t v, Try.f5.params[j]? = some t → args[j]? = some v → Value.okWide Try.prog W .any base t v)
    (hW : DataW.Whole enc Try.prog Try.f5.params.toList Rows.choiceAsksSpec.vars false W args.toList ds gs before) (hk : Rows.uptoSmall H (ds ++ gs) = true) :
    Calls Try.prog 5 args W fun e W' => ∃ v, e = .returned v ∧ Rows.choiceAsksSpec.post enc Try.prog Try.f5 false true false false W args v W' := by
  have hW' := hW
  obtain ⟨p, q, hA0, hV, rfl, hfz, hnd⟩ := hW
  have hA : DataW.TrodAll enc Try.prog W 0 (fun _ => true) true Try.f5.params.toList args.toList ds p := hA0
  rw [Try.params5] at hA hval
  obtain ⟨v0, vs0, d0, ds0, p0, q0, hargs, rfl, rfl, h0, r0⟩ := trodAll_cons hA
  obtain ⟨v1, vs1, d1, ds1, p1, q1, rfl, rfl, rfl, h1, r1⟩ := trodAll_cons r0
  obtain ⟨rfl, rfl, rfl⟩ := trodAll_nil r1
  obtain rfl : args = #[v0, v1] := by cases args; simp_all
  obtain ⟨rfl, rfl⟩ := trodVars_none hV
  clear hA0
  have k0 := hval 0 54 v0 rfl rfl
  have k1 := hval 1 9 v1 rfl rfl
  simp only [List.append_nil] at hk
  refine (choiceAsks_law enc W k0 h0 k1 h1 hk).mono fun e W' ⟨he, hg⟩ => ?_
  subst he
  exact ⟨_, rfl, law_post (s := Rows.choiceAsksSpec) laidOut (by kernel_rfl) rfl Try.underlying4 rfl hW' rfl hg⟩

set_option maxRecDepth 100000 in
theorem choiceAsks_lifted (os : Os) (started : os.Started) (H : Type) (enc : TypeId × Value → H) (F : Stop.Interp) :
    ReturnsInHanded {} Try.checked os 5 .any ((Rows.OpenSpec.upto Rows.choiceAsksSpec).pre6 enc Try.prog Try.f5 Rows.choiceAsksUptoRow.domain false) (((Rows.OpenSpec.upto Rows.choiceAsksSpec).at F).post enc Try.prog Try.f5 false true false false) := by
  refine returnsInHanded_of_cond (C := Try.checked) (s := Rows.OpenSpec.upto Rows.choiceAsksSpec) (k := Rows.uptoSmall) rfl own started (by kernel_rfl) Try.func5
    (OpenSpec.witness (enc := enc) (C := Try.checked) (s := Rows.OpenSpec.upto Rows.choiceAsksSpec) (k := Rows.uptoSmall) rfl false ⟨#[], #[.slice none 0 0, .string .empty], []⟩ 12 (by kernel_rfl) (by kernel_rfl) (by kernel_rfl)
      (x := ([.nil, .lit (.string [])], [], [])) (by kernel_rfl) rfl (by kernel_rfl)) ?_
  intro W base args ds gs before hval hW _ hk _
  exact choiceAsks_contract H enc W base args ds gs before hval hW hk

theorem choiceAsks_holds : Rows.ChoiceAsksUptoSaid :=
  OpenClaim.holds_of_cond 5 Try.f5 rfl rfl rfl rfl rfl rfl rfl ⟨rfl, rfl, rfl, rfl, rfl⟩ rfl rfl rfl rfl rfl (by kernel_rfl) Try.func5 (by kernel_rfl)
    (of_decide_eq_true (by kernel_rfl)) (by unfold Func.isWrapper; first | (rw [if_pos (by decide +kernel)]; kernel_rfl) | (rw [if_neg (by decide +kernel)]; exact ⟨rfl, rfl⟩))
    (fun os started H enc _ F => choiceAsks_lifted os started H enc F)

end Go.Proofs.Yteicfkhaaeoheaa
