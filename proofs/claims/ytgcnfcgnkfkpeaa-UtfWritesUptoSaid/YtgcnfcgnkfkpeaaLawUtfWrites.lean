/- farlaw.UtfWrites returns true for every input of bulk at most 1048576, and each argument reads as it read. -/
import Derived.Test.YtgcnfcgnkfkpeaaLawTr
import Derived.Test.YtgcnfcgnkfkpeaaUtf5
import Derived.Test.YtgcnfcgnkfkpeaaEqF
namespace Go.Proofs.Ytgcnfcgnkfkpeaa
open Go Go.RowKit Go.Fw Go.Sx Go.ChangeShapes Go.WideShapes Go.ChangeAt
set_option maxRecDepth 100000
set_option maxHeartbeats 2000000
attribute [local irreducible] SW SL SQ AtQ SV SC BB LD PK Yields SO SOT SOA SY

theorem own : ownKnob Try.prog.godebug = none := by kernel_rfl
theorem laidOut : laidOutB Try.prog = true := by kernel_rfl
abbrev A9 := ByteArray
abbrev en9 : A9 → List Value := fun z => [.string z]
abbrev ok9 : World → A9 → Prop := fun _ z => z.size ≤ maxLen
abbrev bk9 : A9 → Nat := fun z => z.size
theorem tr9 : Tr Try.prog 9 A9 en9 ok9 bk9 := Tr.str Try.underlying9 (by kernel_rfl)
abbrev A3 := Int
abbrev en3 : A3 → List Value := fun z => [.int .i64 z]
abbrev ok3 : World → A3 → Prop := fun _ z => (Lit.int .i64 z).wf = true
abbrev bk3 : A3 → Nat := fun _ => 0
theorem tr3 : Tr Try.prog 3 A3 en3 ok3 bk3 := Tr.int Try.underlying3 (by kernel_rfl)
abbrev A40 := Rx A3
abbrev en40 : A40 → List Value := fun x => [rxV x]
abbrev ok40 : World → A40 → Prop := fun W x => x.2.2.length ≤ x.2.1 ∧ x.2.2.length ≤ maxLen ∧ At W x.1 (x.2.2.flatMap en3) ∧ ∀ y ∈ x.2.2, ok3 W y
abbrev bk40 : A40 → Nat := fun x => (x.2.2.map fun y => bk3 y + 1).sum
theorem tr40 : Tr Try.prog 40 A40 en40 ok40 bk40 := Tr.slice tr3 Try.underlying40 (by kernel_rfl) (of_decide_eq_true (by kernel_rfl))
theorem eqI2_sv (G : Ctx) (H : List Ent) (L : List Int) (a a2 : Option Addr) (n m c c2 : Nat) {vs us : List Value} [h1 : RdC G H a vs] [h2 : RdC G H a2 us] (hv : vs = ints L) (hu : us = ints L) (hn : n = L.length) (hn2 : m = L.length) (hm : L.length ≤ maxLen) : SV Try.prog G 26 [.slice a n c, .slice a2 m c2] H (.bool true) := by
  subst hv
  subst hu
  have h : ∀ w, Holds G H w → Calls Try.prog 26 #[.slice a n c, .slice a2 m c2] w fun e w' => e = .returned (.bool (decide (L = L))) ∧ Below w.heap.size w w' := fun w hw => eqInts_any L L a a2 _ _ c c2 w hn hn2 hm hm (h1.here w hw) (h2.here w hw)
  rw [decide_eq_true rfl] at h
  exact sv_of_calls (callee_of Try.func26 rfl rfl) h
theorem utfWrites_sv (G : Ctx) (s : ByteArray) (xs : List Int) (a : Option Addr) (n c : Nat) [h1 : ∀ H, RdC G H a (ints xs)] (hm : s.size ≤ 1048576) (hn : n = xs.length) (hm2 : n ≤ 1048576) : SV Try.prog G 5 [.string s, .slice a n c] [] (.bool true) := by
  have c1 := fun H => flush_sc G H s (by omega)
  have c2 := fun H => partRight_sv G H s (by omega)
  have c3 := fun H => encode_sv G H xs a n c rfl hn (by omega)
  have c4 := fun H => runesBytes_sv G H xs a n c rfl hn (by omega)
  have c5 := fun (H : List Ent) (a2 : Option Addr) (d2 : Nat) {vs us : List Value} [RdC G H a2 vs] => fun (b : Option Addr) (d : Nat) [RdC G H b us] (hv : vs = ints [65533]) (hu : us = ints [65533]) => eqI2_sv G H [65533] a2 b 1 1 d2 d hv hu rfl rfl (by unfold maxLen; decide)
  haveI h0 : ∀ H, RdC G H none (ints []) := fun H => ⟨fun _ _ => .inl rfl⟩
  have c6 := fun (H : List Ent) (a2 : Option Addr) (d2 : Nat) {vs : List Value} [RdC G H a2 vs] (hv : vs = ints []) => eqI2_sv G H [] a2 none 0 0 d2 0 hv rfl rfl rfl (by unfold maxLen; decide)
  have hl := nums_length s
  have hfl : flushU (nums s) = if s ≠ ⟨#[]⟩ ∧ chkU (nums s) = 0 then [65533] else [] := by
    unfold flushU
    by_cases h0 : s.size = 0
    · have hs := nums_nil h0
      subst hs
      rfl
    · have hne : ¬ s = ⟨#[]⟩ := fun h => h0 (by rw [h]; rfl)
      have hnn : nums s ≠ [] := fun h => h0 (by rw [← hl, h]; rfl)
      unfold chkU
      by_cases hp : partU (nums s)
      · rw [if_pos ⟨hnn, hp⟩, if_pos ⟨hne, by rw [if_pos (.inr hp)]⟩]
      · rw [if_neg (fun h => hp h.2), if_neg (fun h => by rw [if_neg (fun h2 => h2.elim hnn hp)] at h; exact absurd h.2 (by decide))]
  rw [hfl] at c1
  clear hfl hl
  generalize chkU (nums s) = e at *
  generalize strOfNums (encL xs) = t at *
  by_cases hw : s ≠ ⟨#[]⟩ ∧ e = 0
  · rw [if_pos hw] at c1
    obtain ⟨hw1, rfl⟩ := hw
    refine sv_enter2 Try.func5 rfl rfl rfl rfl rfl ?_
    repeat' (first | (apply g_sl; first | (apply ks_nil; refine sl_nil ?_) | (apply ks_move; refine s_move rfl rfl ?_) | (apply ks_bin; refine s_bin rfl rfl rfl ?_; first | first | refine c_buildSlice rfl rfl rfl rfl rfl rfl rfl rfl rfl rfl (fun _ => ?_) | refine bb_seq ?_ | refine bb_sne ?_ | (first | refine bb_of rfl ?_)) | (apply ks_asgn; refine s_asgn rfl rfl ?_) | (apply ks_pick; refine s_pick rfl rfl ?_; first | (apply kp_t; refine pk_t rfl ?_) | (apply kp_f; refine pk_f rfl ?_) | refine pk_s rfl rfl ?_) | (apply ks_extr; refine s_extr (y_extract rfl rfl rfl) rfl ?_) | (apply ks_fn; first | first | (refine c_call rfl rfl rfl (c1 _) rfl rfl ?_; rintro _ _ ⟨a1, d1, E, rfl, rfl, q1⟩; haveI := q1) | refine c_callv rfl rfl rfl (c2 _) rfl rfl ?_ | refine c_callv rfl rfl rfl (c3 _) rfl rfl ?_ | refine c_callv rfl rfl rfl (c4 _) rfl rfl ?_ | refine c_callv rfl rfl rfl (c5 _ _ _ _ _ rfl rfl) rfl rfl ?_) | (apply ks_bs; first | refine c_buildSlice rfl rfl rfl rfl rfl rfl rfl rfl rfl rfl (fun _ => ?_) | first | refine c_buildSlice rfl rfl rfl rfl rfl rfl rfl rfl rfl rfl (fun _ => ?_) | refine bb_seq ?_ | refine bb_sne ?_) | (apply ks_guard; first | (refine sl_gd rfl rfl rfl rfl ?_; first | (apply gd_t) | (apply gd_ft) | (apply gd_tf) | (apply gd_dec_t <;> intro hq <;> (try (exfalso; omega))) | (apply gd_dec_f <;> intro hq <;> (try (exfalso; omega))) | (apply gd_beq_t <;> intro hq <;> (try (exfalso; omega))) | (apply gd_beq_f <;> intro hq <;> (try (exfalso; omega))) | (apply gd_bne_t <;> intro hq <;> (try (exfalso; omega))) | (apply gd_bne_f <;> intro hq <;> (try (exfalso; omega))) | (apply gd_not_t <;> intro hq) | (apply gd_not_f <;> intro hq) | (apply gd_raw_t <;> intro hq) | (apply gd_raw_f <;> intro hq)) | refine sl_skip_u rfl rfl rfl rfl rfl rfl ?_) | first | refine c_buildSlice rfl rfl rfl rfl rfl rfl rfl rfl rfl rfl (fun _ => ?_) | refine bb_seq ?_ | refine bb_sne ?_) | (apply sw_seq) | (apply at_srd) | (apply sw_skip) | (apply sw_ret) | (apply sw_exit) | (apply sw_block) | (apply sw_region) | (refine sw_cd rfl ?_; first | (apply gd_t) | (apply gd_ft) | (apply gd_tf) | (apply gd_dec_t <;> intro hq <;> (try (exfalso; omega))) | (apply gd_dec_f <;> intro hq <;> (try (exfalso; omega))) | (apply gd_beq_t <;> intro hq <;> (try (exfalso; omega))) | (apply gd_beq_f <;> intro hq <;> (try (exfalso; omega))) | (apply gd_bne_t <;> intro hq <;> (try (exfalso; omega))) | (apply gd_bne_f <;> intro hq <;> (try (exfalso; omega))) | (apply gd_not_t <;> intro hq) | (apply gd_not_f <;> intro hq) | (apply gd_raw_t <;> intro hq) | (apply gd_raw_f <;> intro hq)) | (apply at_thn) | (apply at_thn_ret) | (apply at_thn_exit) | (apply at_inb) | (apply at_inb_ret) | (apply at_inb_exit) | refine at_inb_pass rfl ?_ | refine c_drawn (by kernel_rfl) ?_)
    all_goals first | exact absurd (of_decide_eq_true (by assumption)) hw1 | exact absurd rfl (by assumption) | (refine e_sv (by first | exact .inl rfl | exact .inr rfl) rfl (List.nil_sublist _) ?_; simp [resV])
  · rw [if_neg hw] at c1
    by_cases he : e = 0
    · subst he
      have hs : s = ⟨#[]⟩ := Classical.byContradiction fun h => hw ⟨h, rfl⟩
      refine sv_enter2 Try.func5 rfl rfl rfl rfl rfl ?_
      repeat' (first | (apply g_sl; first | (apply ks_nil; refine sl_nil ?_) | (apply ks_move; refine s_move rfl rfl ?_) | (apply ks_bin; refine s_bin rfl rfl rfl ?_; first | first | refine c_buildSlice rfl rfl rfl rfl rfl rfl rfl rfl rfl rfl (fun _ => ?_) | refine bb_seq ?_ | refine bb_sne ?_ | (first | refine bb_of rfl ?_)) | (apply ks_asgn; refine s_asgn rfl rfl ?_) | (apply ks_pick; refine s_pick rfl rfl ?_; first | (apply kp_t; refine pk_t rfl ?_) | (apply kp_f; refine pk_f rfl ?_) | refine pk_s rfl rfl ?_) | (apply ks_extr; refine s_extr (y_extract rfl rfl rfl) rfl ?_) | (apply ks_fn; first | first | (refine c_call rfl rfl rfl (c1 _) rfl rfl ?_; rintro _ _ ⟨a1, d1, E, rfl, rfl, q1⟩; haveI := q1) | refine c_callv rfl rfl rfl (c2 _) rfl rfl ?_ | refine c_callv rfl rfl rfl (c3 _) rfl rfl ?_ | refine c_callv rfl rfl rfl (c4 _) rfl rfl ?_ | refine c_callv rfl rfl rfl (c6 _ _ _ rfl) rfl rfl ?_) | (apply ks_bs; first | refine c_buildSlice rfl rfl rfl rfl rfl rfl rfl rfl rfl rfl (fun _ => ?_) | first | refine c_buildSlice rfl rfl rfl rfl rfl rfl rfl rfl rfl rfl (fun _ => ?_) | refine bb_seq ?_ | refine bb_sne ?_) | (apply ks_guard; first | (refine sl_gd rfl rfl rfl rfl ?_; first | (apply gd_t) | (apply gd_ft) | (apply gd_tf) | (apply gd_dec_t <;> intro hq <;> (try (exfalso; omega))) | (apply gd_dec_f <;> intro hq <;> (try (exfalso; omega))) | (apply gd_beq_t <;> intro hq <;> (try (exfalso; omega))) | (apply gd_beq_f <;> intro hq <;> (try (exfalso; omega))) | (apply gd_bne_t <;> intro hq <;> (try (exfalso; omega))) | (apply gd_bne_f <;> intro hq <;> (try (exfalso; omega))) | (apply gd_not_t <;> intro hq) | (apply gd_not_f <;> intro hq) | (apply gd_raw_t <;> intro hq) | (apply gd_raw_f <;> intro hq)) | refine sl_skip_u rfl rfl rfl rfl rfl rfl ?_) | first | refine c_buildSlice rfl rfl rfl rfl rfl rfl rfl rfl rfl rfl (fun _ => ?_) | refine bb_seq ?_ | refine bb_sne ?_) | (apply sw_seq) | (apply at_srd) | (apply sw_skip) | (apply sw_ret) | (apply sw_exit) | (apply sw_block) | (apply sw_region) | (refine sw_cd rfl ?_; first | (apply gd_t) | (apply gd_ft) | (apply gd_tf) | (apply gd_dec_t <;> intro hq <;> (try (exfalso; omega))) | (apply gd_dec_f <;> intro hq <;> (try (exfalso; omega))) | (apply gd_beq_t <;> intro hq <;> (try (exfalso; omega))) | (apply gd_beq_f <;> intro hq <;> (try (exfalso; omega))) | (apply gd_bne_t <;> intro hq <;> (try (exfalso; omega))) | (apply gd_bne_f <;> intro hq <;> (try (exfalso; omega))) | (apply gd_not_t <;> intro hq) | (apply gd_not_f <;> intro hq) | (apply gd_raw_t <;> intro hq) | (apply gd_raw_f <;> intro hq)) | (apply at_thn) | (apply at_thn_ret) | (apply at_thn_exit) | (apply at_inb) | (apply at_inb_ret) | (apply at_inb_exit) | refine at_inb_pass rfl ?_ | refine c_drawn (by kernel_rfl) ?_)
      all_goals first | exact absurd hs (of_decide_eq_false (by assumption)) | exact absurd rfl (by assumption) | (refine e_sv (by first | exact .inl rfl | exact .inr rfl) rfl (List.nil_sublist _) ?_; simp [resV])
    · refine sv_enter2 Try.func5 rfl rfl rfl rfl rfl ?_
      repeat' (first | (apply g_sl; first | (apply ks_nil; refine sl_nil ?_) | (apply ks_move; refine s_move rfl rfl ?_) | (apply ks_bin; refine s_bin rfl rfl rfl ?_; first | first | refine c_buildSlice rfl rfl rfl rfl rfl rfl rfl rfl rfl rfl (fun _ => ?_) | refine bb_seq ?_ | refine bb_sne ?_ | (first | refine bb_of rfl ?_)) | (apply ks_asgn; refine s_asgn rfl rfl ?_) | (apply ks_pick; refine s_pick rfl rfl ?_; first | (apply kp_t; refine pk_t rfl ?_) | (apply kp_f; refine pk_f rfl ?_) | refine pk_s rfl rfl ?_) | (apply ks_extr; refine s_extr (y_extract rfl rfl rfl) rfl ?_) | (apply ks_fn; first | first | (refine c_call rfl rfl rfl (c1 _) rfl rfl ?_; rintro _ _ ⟨a1, d1, E, rfl, rfl, q1⟩; haveI := q1) | refine c_callv rfl rfl rfl (c2 _) rfl rfl ?_ | refine c_callv rfl rfl rfl (c3 _) rfl rfl ?_ | refine c_callv rfl rfl rfl (c4 _) rfl rfl ?_ | refine c_callv rfl rfl rfl (c6 _ _ _ rfl) rfl rfl ?_) | (apply ks_bs; first | refine c_buildSlice rfl rfl rfl rfl rfl rfl rfl rfl rfl rfl (fun _ => ?_) | first | refine c_buildSlice rfl rfl rfl rfl rfl rfl rfl rfl rfl rfl (fun _ => ?_) | refine bb_seq ?_ | refine bb_sne ?_) | (apply ks_guard; first | (refine sl_gd rfl rfl rfl rfl ?_; first | (apply gd_t) | (apply gd_ft) | (apply gd_tf) | (apply gd_dec_t <;> intro hq <;> (try (exfalso; omega))) | (apply gd_dec_f <;> intro hq <;> (try (exfalso; omega))) | (apply gd_beq_t <;> intro hq <;> (try (exfalso; omega))) | (apply gd_beq_f <;> intro hq <;> (try (exfalso; omega))) | (apply gd_bne_t <;> intro hq <;> (try (exfalso; omega))) | (apply gd_bne_f <;> intro hq <;> (try (exfalso; omega))) | (apply gd_not_t <;> intro hq) | (apply gd_not_f <;> intro hq) | (apply gd_raw_t <;> intro hq) | (apply gd_raw_f <;> intro hq)) | refine sl_skip_u rfl rfl rfl rfl rfl rfl ?_) | first | refine c_buildSlice rfl rfl rfl rfl rfl rfl rfl rfl rfl rfl (fun _ => ?_) | refine bb_seq ?_ | refine bb_sne ?_) | (apply sw_seq) | (apply at_srd) | (apply sw_skip) | (apply sw_ret) | (apply sw_exit) | (apply sw_block) | (apply sw_region) | (refine sw_cd rfl ?_; first | (apply gd_t) | (apply gd_ft) | (apply gd_tf) | (apply gd_dec_t <;> intro hq <;> (try (exfalso; omega))) | (apply gd_dec_f <;> intro hq <;> (try (exfalso; omega))) | (apply gd_beq_t <;> intro hq <;> (try (exfalso; omega))) | (apply gd_beq_f <;> intro hq <;> (try (exfalso; omega))) | (apply gd_bne_t <;> intro hq <;> (try (exfalso; omega))) | (apply gd_bne_f <;> intro hq <;> (try (exfalso; omega))) | (apply gd_not_t <;> intro hq) | (apply gd_not_f <;> intro hq) | (apply gd_raw_t <;> intro hq) | (apply gd_raw_f <;> intro hq)) | (apply at_thn) | (apply at_thn_ret) | (apply at_thn_exit) | (apply at_inb) | (apply at_inb_ret) | (apply at_inb_exit) | refine at_inb_pass rfl ?_ | refine c_drawn (by kernel_rfl) ?_)
      all_goals first | exact absurd (by assumption) he | exact absurd rfl (by assumption) | (refine e_sv (by first | exact .inl rfl | exact .inr rfl) rfl (List.nil_sublist _) ?_; simp [resV])
theorem sum_ones (L : List Int) : (L.map fun _ => 0 + 1).sum = L.length := by
  induction L with
  | nil => rfl
  | cons x L ih => rw [List.map_cons, List.sum_cons, ih, List.length_cons]; omega
theorem utfWrites_walk0 (W : World) (s : ByteArray) (a : Option Addr) (c : Nat) (xs : List Int) (hA : At W a (xs.flatMap fun z => [.int .i64 z])) (hb : s.size + (xs.map fun _ => 0 + 1).sum ≤ 1048576) : Calls Try.prog 5 #[.string s, .slice a xs.length c] W fun e w' => e = .returned (.bool true) ∧ Below W.heap.size W w' := by
  rw [sum_ones] at hb
  rw [fm_map] at hA
  haveI : ∀ H, RdC ⟨W.heap.size, W⟩ H a (ints xs) := fun H => RdC.top hA
  exact calls_of_sv (utfWrites_sv _ s xs a xs.length c (by omega) rfl (by omega))
theorem utfWrites_walk (W : World) (y0 : A9) (_ : ok9 W y0) (y1 : A40) (o1 : ok40 W y1) (hb : bk9 y0 + bk40 y1 ≤ 1048576) : Calls Try.prog 5 #[.string y0, rxV y1] W fun e w' => e = .returned (.bool true) ∧ Below W.heap.size W w' := by
  obtain ⟨a, c, xs⟩ := y1
  obtain ⟨-, -, hA, -⟩ := o1
  exact utfWrites_walk0 W y0 a c xs hA hb

set_option maxRecDepth 100000 in
theorem utfWrites_law {H : Type} (enc : TypeId × Value → H) (W : World) {base : Nat} {v0 v1 : Value} {d0 d1 : DataW H} {p0 p1 : List MemPlace}
    (k0 : Value.okWide Try.prog W .any base 9 v0) (h0 : DataW.Trod enc Try.prog W 0 (fun _ => true) true 9 v0 d0 p0)
    (k1 : Value.okWide Try.prog W .any base 40 v1) (h1 : DataW.Trod enc Try.prog W 0 (fun _ => true) true 40 v1 d1 p1)
    (hk : Rows.uptoSmall H [d0, d1] = true)
    : Calls Try.prog 5 #[v0, v1] W fun e w' => e = .returned (.bool true) ∧ Below W.heap.size W w' := by
  obtain ⟨y0, rfl, o0, b0⟩ := tr_str Try.underlying9 tr9 k0 h0
  obtain ⟨y1, rfl, o1, b1⟩ := tr_slice Try.underlying40 tr40 k1 h1
  have hb := bulk_all hk
  simp only [Rows.uptoBulkAll] at hb
  exact utfWrites_walk W y0 o0 y1 o1 (by omega)

set_option maxRecDepth 100000 in
theorem utfWrites_contract (H : Type) (enc : TypeId × Value → H) (W : World) (base : Nat) (args : Array Value) (ds gs : List (DataW H)) (before : List MemPlace)
    (hval : ∀ (j : Nat) t v, Try.f5.params[j]? = some t → args[j]? = some v → Value.okWide Try.prog W .any base t v)
    (hW : DataW.Whole enc Try.prog Try.f5.params.toList Rows.utfWritesSpec.vars false W args.toList ds gs before) (hk : Rows.uptoSmall H (ds ++ gs) = true) :
    Calls Try.prog 5 args W fun e W' => ∃ v, e = .returned v ∧ Rows.utfWritesSpec.post enc Try.prog Try.f5 false true false false W args v W' := by
  have hW' := hW
  obtain ⟨p, q, hA0, hV, rfl, hfz, hnd⟩ := hW
  have hA : DataW.TrodAll enc Try.prog W 0 (fun _ => true) true Try.f5.params.toList args.toList ds p := hA0
  rw [Try.params5] at hA hval
  obtain ⟨v0, vs0, d0, ds0, p0, q0, hargs, rfl, rfl, h0, r0⟩ := trodAll_cons hA
  obtain ⟨v1, vs1, d1, ds1, p1, q1, rfl, rfl, rfl, h1, r1⟩ := trodAll_cons r0
  obtain ⟨rfl, rfl, rfl⟩ := trodAll_nil r1
  obtain rfl : args = #[v0, v1] := by cases args; simp_all
  obtain ⟨rfl, rfl⟩ := trodVars_none hV
  clear hA0
  have k0 := hval 0 9 v0 rfl rfl
  have k1 := hval 1 40 v1 rfl rfl
  simp only [List.append_nil] at hk
  refine (utfWrites_law enc W k0 h0 k1 h1 hk).mono fun e W' ⟨he, hg⟩ => ?_
  subst he
  exact ⟨_, rfl, law_post (s := Rows.utfWritesSpec) laidOut (by kernel_rfl) rfl Try.underlying4 rfl hW' rfl hg⟩

set_option maxRecDepth 100000 in
theorem utfWrites_lifted (os : Os) (started : os.Started) (H : Type) (enc : TypeId × Value → H) (F : Stop.Interp) :
    ReturnsInHanded {} Try.checked os 5 .any ((Rows.OpenSpec.upto Rows.utfWritesSpec).pre6 enc Try.prog Try.f5 Rows.utfWritesUptoRow.domain false) (((Rows.OpenSpec.upto Rows.utfWritesSpec).at F).post enc Try.prog Try.f5 false true false false) := by
  refine returnsInHanded_of_cond (C := Try.checked) (s := Rows.OpenSpec.upto Rows.utfWritesSpec) (k := Rows.uptoSmall) rfl own started (by kernel_rfl) Try.func5
    (OpenSpec.witness (enc := enc) (C := Try.checked) (s := Rows.OpenSpec.upto Rows.utfWritesSpec) (k := Rows.uptoSmall) rfl false ⟨#[], #[.string .empty, .slice none 0 0], []⟩ 12 (by kernel_rfl) (by kernel_rfl) (by kernel_rfl)
      (x := ([.lit (.string []), .nil], [], [])) (by kernel_rfl) rfl (by kernel_rfl)) ?_
  intro W base args ds gs before hval hW _ hk _
  exact utfWrites_contract H enc W base args ds gs before hval hW hk

theorem utfWrites_holds : Rows.UtfWritesUptoSaid :=
  OpenClaim.holds_of_cond 5 Try.f5 rfl rfl rfl rfl rfl rfl rfl ⟨rfl, rfl, rfl, rfl, rfl⟩ rfl rfl rfl rfl rfl (by kernel_rfl) Try.func5 (by kernel_rfl)
    (of_decide_eq_true (by kernel_rfl)) (by unfold Func.isWrapper; first | (rw [if_pos (by decide +kernel)]; kernel_rfl) | (rw [if_neg (by decide +kernel)]; exact ⟨rfl, rfl⟩))
    (fun os started H enc _ F => utfWrites_lifted os started H enc F)

end Go.Proofs.Ytgcnfcgnkfkpeaa
