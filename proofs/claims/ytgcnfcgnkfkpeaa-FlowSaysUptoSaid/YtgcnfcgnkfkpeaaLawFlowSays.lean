/- farlaw.FlowSays returns true for every input of bulk at most 1048576, and each argument reads as it read. -/
import Derived.Test.YtgcnfcgnkfkpeaaLawTr
import Derived.Test.YtgcnfcgnkfkpeaaFlow5
namespace Go.Proofs.Ytgcnfcgnkfkpeaa
open Go Go.RowKit Go.Fw Go.Sx Go.ChangeShapes Go.WideShapes Go.ChangeAt
set_option maxRecDepth 100000
set_option maxHeartbeats 2000000
attribute [local irreducible] SW SL SQ AtQ SV SC BB LD PK Yields SO SOT SOA SY

theorem own : ownKnob Try.prog.godebug = none := by kernel_rfl
theorem laidOut : laidOutB Try.prog = true := by kernel_rfl
abbrev A3 := Int
abbrev en3 : A3 → List Value := fun z => [.int .i64 z]
abbrev ok3 : World → A3 → Prop := fun _ z => (Lit.int .i64 z).wf = true
abbrev bk3 : A3 → Nat := fun _ => 0
theorem tr3 : Tr Try.prog 3 A3 en3 ok3 bk3 := Tr.int Try.underlying3 (by kernel_rfl)
abbrev A40 := Rx A3
abbrev en40 : A40 → List Value := fun x => [rxV x]
abbrev ok40 : World → A40 → Prop := fun W x => x.2.2.length ≤ x.2.1 ∧ x.2.2.length ≤ maxLen ∧ At W x.1 (x.2.2.flatMap en3) ∧ ∀ y ∈ x.2.2, ok3 W y
abbrev bk40 : A40 → Nat := fun x => (x.2.2.map fun y => bk3 y + 1).sum
theorem tr40 : Tr Try.prog 40 A40 en40 ok40 bk40 := Tr.slice tr3 Try.underlying40 (by kernel_rfl) (of_decide_eq_true (by kernel_rfl))
abbrev A22 := Rx A40
abbrev en22 : A22 → List Value := fun x => [rxV x]
abbrev ok22 : World → A22 → Prop := fun W x => x.2.2.length ≤ x.2.1 ∧ x.2.2.length ≤ maxLen ∧ At W x.1 (x.2.2.flatMap en40) ∧ ∀ y ∈ x.2.2, ok40 W y
abbrev bk22 : A22 → Nat := fun x => (x.2.2.map fun y => bk40 y + 1).sum
theorem tr22 : Tr Try.prog 22 A22 en22 ok22 bk22 := Tr.slice tr40 Try.underlying22 (by kernel_rfl) (of_decide_eq_true (by kernel_rfl))
abbrev A4 := Bool
abbrev en4 : A4 → List Value := fun z => [.bool z]
abbrev ok4 : World → A4 → Prop := fun _ _ => True
abbrev bk4 : A4 → Nat := fun _ => 0
theorem tr4 : Tr Try.prog 4 A4 en4 ok4 bk4 := Tr.bool Try.underlying4 (by kernel_rfl)
abbrev A88 := (A40) × (A4)
abbrev en88 : A88 → List Value := fun p => en40 p.1 ++ (en4 p.2)
abbrev ok88 : World → A88 → Prop := fun W p => ok40 W p.1 ∧ ok4 W p.2
abbrev bk88 : A88 → Nat := fun p => bk40 p.1 + (bk4 p.2)
theorem tr88 : Tr Try.prog 88 A88 en88 ok88 bk88 := Tr.struct (l := [(0, 40), (1, 4)]) (n := 2) (TrS.cons (o := 0) (o' := 1) (n := 2) tr40 (by kernel_rfl) (TrS.one (o := 1) (n := 2) tr4 (by kernel_rfl))) Try.underlying88 (by kernel_rfl) (by kernel_rfl)
abbrev A23 := Rx A88
abbrev en23 : A23 → List Value := fun x => [rxV x]
abbrev ok23 : World → A23 → Prop := fun W x => x.2.2.length ≤ x.2.1 ∧ x.2.2.length ≤ maxLen ∧ At W x.1 (x.2.2.flatMap en88) ∧ ∀ y ∈ x.2.2, ok88 W y
abbrev bk23 : A23 → Nat := fun x => (x.2.2.map fun y => bk88 y + 1).sum
theorem tr23 : Tr Try.prog 23 A23 en23 ok23 bk23 := Tr.slice tr88 Try.underlying23 (by kernel_rfl) (of_decide_eq_true (by kernel_rfl))
theorem flowSays_sv (G : Ctx) (X : List (Rx Int)) (R : List Rr) (ao ar : Option Addr) (n m co cr : Nat) (w : Int) [h1 : ∀ H, RdC G H ao (X.map rxV)] [h2 : ∀ H, RdC G H ar (R.flatMap enR)] (hX : ∀ H, RdX ints G H X) (hR : ∀ H, RdX ints G H (R.map (·.1))) (hn : n = X.length) (hm : n ≤ 1048576) (hm2 : lens (X.map (·.2.2)) ≤ 1048576) (hn2 : m = R.length) (hm3 : m ≤ 1048576) (hm4 : plens R ≤ 1048576) : SV Try.prog G 3 [.slice ao n co, .slice ar m cr, .int .i64 w] [] (.bool true) := by
  have c1 := fun H => flowU_sc G H X ao n co w rfl (hX H) hn hm hm2
  have c2 := fun H => flowedU_sc G H X ao n co w rfl (hX H) hn hm
  have c3 := fun H => linesU_sc G H R ar m cr rfl (hR H) hn2 hm3 hm4
  have c4 := fun H => unflowedU_sc G H R ar m cr rfl (hR H) hn2 hm3
  have c5 := fun H => againU_sc G H R ar m cr w rfl (hR H) hn2 hm3 hm4
  have hb := linesR_bd (R.map pur)
  have hlR : ∀ l : List (List Int), (flowR w l).2.length ≤ 9223372036854775807 := fun l => by
    unfold flowR
    split
    · exact Nat.zero_le _
    · split
      · exact Nat.zero_le _
      · have := flow_len w l
        dsimp only
        omega
  have c6 := fun (H : List Ent) (Y : List (Rx Int)) (a2 : Option Addr) (c2 : Nat) {vs : List Value} [RdC G H a2 vs] (hv : vs = Y.map rxV) hY (hl : Y.map (·.2.2) = (linesR (R.map pur)).2) => show SC Try.prog G 11 [.slice a2 Y.length c2, .int .i64 w] H (GotR G H (flowR w (linesR (R.map pur)).2)) from by
    have := flowedU_sc G H Y a2 Y.length c2 w hv hY rfl (by rw [← hl, List.length_map] at hb; exact hb.1)
    rw [hl] at this
    exact this
  have cS := fun (H : List Ent) (A B : List Rr) (a b : Option Addr) (c d : Nat) (l : List (List Int × Bool)) (hl : l.length ≤ 9223372036854775807) {vs us : List Value} [RdC G H a vs] [RdC G H b us] (hv : vs = A.flatMap enR) (hu : us = B.flatMap enR) hA hB (h1 : A.map pur = l) (h2 : B.map pur = l) => sameRows_sv G H A B a b A.length B.length c d hv hu hA hB rfl (by rw [← h1, List.length_map] at hl; exact hl) rfl (h1.trans h2.symm)
  have cL := fun (H : List Ent) (A B : List (Rx Int)) (a b : Option Addr) (c d : Nat) (l : List (List Int)) (hl : l.length ≤ 1048576) {vs us : List Value} [RdC G H a vs] [RdC G H b us] (hv : vs = A.map rxV) (hu : us = B.map rxV) hA hB (h1 : A.map (·.2.2) = l) (h2 : B.map (·.2.2) = l) => show SV Try.prog G 16 [.slice a A.length c, .slice b B.length d] H (.bool true) from by
    have e : A.length = B.length := by simpa using congrArg List.length (h1.trans h2.symm)
    rw [← e]
    exact sameLines_sv G H A B a b A.length c d hv hu hA hB rfl (by rw [← h1, List.length_map] at hl; omega) (h1.trans h2.symm)
  unfold againR at c5
  have hlA := hlR (X.map (·.2.2))
  have hlL := hlR (linesR (R.map pur)).2
  generalize flowR w (X.map (·.2.2)) = rA at *
  generalize linesR (R.map pur) = rL at *
  obtain ⟨g, l⟩ := rL
  obtain ⟨eA, lA⟩ := rA
  dsimp only at hb c6 c5 hlA hlL
  clear hlR
  by_cases hg : g = 0
  · subst hg
    simp only [ne_eq, not_true, if_false] at c5
    generalize flowR w l = rB at *
    obtain ⟨eB, lB⟩ := rB
    dsimp only at hlL
    refine sv_enter3 Try.func3 rfl rfl rfl rfl rfl ?_
    repeat' (first | (apply g_sl; first | (apply ks_nil; refine sl_nil ?_) | (apply ks_move; refine s_move rfl rfl ?_) | (apply ks_bin; refine s_bin rfl rfl rfl ?_; first | fail | (first | refine bb_of rfl ?_)) | (apply ks_asgn; refine s_asgn rfl rfl ?_) | (apply ks_pick; refine s_pick rfl rfl ?_; first | (apply kp_t; refine pk_t rfl ?_) | (apply kp_f; refine pk_f rfl ?_) | refine pk_s rfl rfl ?_) | (apply ks_extr; refine s_extr (y_extract rfl rfl rfl) rfl ?_) | (apply ks_fn; first | first | (refine c_call rfl rfl rfl (c1 _) rfl rfl ?_; rintro _ _ ⟨R1, E1, a1, d1, rfl, rfl, q1, x1, e1⟩; haveI := q1; dsimp only at e1 ⊢) | (refine c_call rfl rfl rfl (c2 _) rfl rfl ?_; rintro _ _ ⟨R2, E2, a2, d2, rfl, rfl, q2, x2, e2⟩; haveI := q2; have cS1 := fun H' [RdC G H' a1 (R1.flatMap enR)] [RdC G H' a2 (R2.flatMap enR)] h1 h2 => cS H' R1 R2 a1 a2 d1 d2 lA hlA rfl rfl h1 h2 e1 e2; dsimp only) | (refine c_call rfl rfl rfl (c3 _) rfl rfl ?_; rintro _ _ ⟨R3, E3, a3, d3, rfl, rfl, q3, x3, e3⟩; haveI := q3; dsimp only) | (refine c_call rfl rfl rfl (c4 _) rfl rfl ?_; rintro _ _ ⟨R4, E4, a4, d4, rfl, rfl, q4, x4, e4⟩; haveI := q4; have cL1 := fun H' [RdC G H' a3 (R3.map rxV)] [RdC G H' a4 (R4.map rxV)] h1 h2 => cL H' R3 R4 a3 a4 d3 d4 l hb.1 rfl rfl h1 h2 e3 e4; dsimp only) | (refine c_call rfl rfl rfl (c5 _) rfl rfl ?_; rintro _ _ ⟨R5, E5, a5, d5, rfl, rfl, q5, x5, e5⟩; haveI := q5; dsimp only) | (refine c_call rfl rfl rfl (c6 _ R4 a4 d4 rfl x4.app e4) rfl rfl ?_; rintro _ _ ⟨R6, E6, a6, d6, rfl, rfl, q6, x6, e6⟩; haveI := q6; have cS2 := fun H' [RdC G H' a5 (R5.flatMap enR)] [RdC G H' a6 (R6.flatMap enR)] h1 h2 => cS H' R5 R6 a5 a6 d5 d6 lB hlL rfl rfl h1 h2 e5 e6; dsimp only) | refine c_callv rfl rfl rfl (cS1 _ x1.app.app.app.app.app x2.app.app.app.app) rfl rfl ?_ | refine c_callv rfl rfl rfl (cL1 _ x3.app.app.app x4.app.app) rfl rfl ?_ | refine c_callv rfl rfl rfl (cS2 _ x5.app x6) rfl rfl ?_) | (apply ks_guard; first | (refine sl_gd rfl rfl rfl rfl ?_; first | (apply gd_t) | (apply gd_ft) | (apply gd_tf) | (apply gd_dec_t <;> intro hq <;> (try (exfalso; omega))) | (apply gd_dec_f <;> intro hq <;> (try (exfalso; omega))) | (apply gd_beq_t <;> intro hq <;> (try (exfalso; omega))) | (apply gd_beq_f <;> intro hq <;> (try (exfalso; omega))) | (apply gd_bne_t <;> intro hq <;> (try (exfalso; omega))) | (apply gd_bne_f <;> intro hq <;> (try (exfalso; omega))) | (apply gd_not_t <;> intro hq) | (apply gd_not_f <;> intro hq) | (apply gd_raw_t <;> intro hq) | (apply gd_raw_f <;> intro hq)) | refine sl_skip_u rfl rfl rfl rfl rfl rfl ?_) | fail) | (apply sw_seq) | (apply at_srd) | (apply sw_skip) | (apply sw_ret) | (apply sw_exit) | (apply sw_block) | (apply sw_region) | (refine sw_cd rfl ?_; first | (apply gd_t) | (apply gd_ft) | (apply gd_tf) | (apply gd_dec_t <;> intro hq <;> (try (exfalso; omega))) | (apply gd_dec_f <;> intro hq <;> (try (exfalso; omega))) | (apply gd_beq_t <;> intro hq <;> (try (exfalso; omega))) | (apply gd_beq_f <;> intro hq <;> (try (exfalso; omega))) | (apply gd_bne_t <;> intro hq <;> (try (exfalso; omega))) | (apply gd_bne_f <;> intro hq <;> (try (exfalso; omega))) | (apply gd_not_t <;> intro hq) | (apply gd_not_f <;> intro hq) | (apply gd_raw_t <;> intro hq) | (apply gd_raw_f <;> intro hq)) | (apply at_thn) | (apply at_thn_ret) | (apply at_thn_exit) | (apply at_inb) | (apply at_inb_ret) | (apply at_inb_exit) | refine at_inb_pass rfl ?_ | refine c_drawn (by kernel_rfl) ?_)
    all_goals first | exact absurd rfl (by assumption) | (refine e_sv (by first | exact .inl rfl | exact .inr rfl) rfl (List.nil_sublist _) ?_; simp [resV])
  · simp only [ne_eq, hg, not_false_iff, if_true] at c5
    haveI : ∀ H, RdC G H none (([] : List Rr).flatMap enR) := fun H => ⟨fun _ _ => .inl rfl⟩
    refine sv_enter3 Try.func3 rfl rfl rfl rfl rfl ?_
    repeat' (first | (apply g_sl; first | (apply ks_nil; refine sl_nil ?_) | (apply ks_move; refine s_move rfl rfl ?_) | (apply ks_bin; refine s_bin rfl rfl rfl ?_; first | fail | (first | refine bb_of rfl ?_)) | (apply ks_asgn; refine s_asgn rfl rfl ?_) | (apply ks_pick; refine s_pick rfl rfl ?_; first | (apply kp_t; refine pk_t rfl ?_) | (apply kp_f; refine pk_f rfl ?_) | refine pk_s rfl rfl ?_) | (apply ks_extr; refine s_extr (y_extract rfl rfl rfl) rfl ?_) | (apply ks_fn; first | first | (refine c_call rfl rfl rfl (c1 _) rfl rfl ?_; rintro _ _ ⟨R1, E1, a1, d1, rfl, rfl, q1, x1, e1⟩; haveI := q1; dsimp only at e1 ⊢) | (refine c_call rfl rfl rfl (c2 _) rfl rfl ?_; rintro _ _ ⟨R2, E2, a2, d2, rfl, rfl, q2, x2, e2⟩; haveI := q2; have cS1 := fun H' [RdC G H' a1 (R1.flatMap enR)] [RdC G H' a2 (R2.flatMap enR)] h1 h2 => cS H' R1 R2 a1 a2 d1 d2 lA hlA rfl rfl h1 h2 e1 e2; dsimp only) | (refine c_call rfl rfl rfl (c3 _) rfl rfl ?_; rintro _ _ ⟨R3, E3, a3, d3, rfl, rfl, q3, x3, e3⟩; haveI := q3; dsimp only) | (refine c_call rfl rfl rfl (c4 _) rfl rfl ?_; rintro _ _ ⟨R4, E4, a4, d4, rfl, rfl, q4, x4, e4⟩; haveI := q4; have cL1 := fun H' [RdC G H' a3 (R3.map rxV)] [RdC G H' a4 (R4.map rxV)] h1 h2 => cL H' R3 R4 a3 a4 d3 d4 l hb.1 rfl rfl h1 h2 e3 e4; dsimp only) | (refine c_call rfl rfl rfl (c5 _) rfl rfl ?_; rintro _ _ ⟨R5, E5, a5, d5, rfl, rfl, q5, x5, e5⟩; haveI := q5; have cS2 := fun H' [RdC G H' a5 (R5.flatMap enR)] h1 h2 => cS H' R5 [] a5 none d5 0 [] (Nat.zero_le _) rfl rfl h1 h2 e5 rfl; dsimp only) | refine c_callv rfl rfl rfl (cS1 _ x1.app.app.app.app x2.app.app.app) rfl rfl ?_ | refine c_callv rfl rfl rfl (cL1 _ x3.app.app x4.app) rfl rfl ?_ | refine c_callv rfl rfl rfl (cS2 _ x5 RdX.nil) rfl rfl ?_) | (apply ks_guard; first | (refine sl_gd rfl rfl rfl rfl ?_; first | (apply gd_t) | (apply gd_ft) | (apply gd_tf) | (apply gd_dec_t <;> intro hq <;> (try (exfalso; omega))) | (apply gd_dec_f <;> intro hq <;> (try (exfalso; omega))) | (apply gd_beq_t <;> intro hq <;> (try (exfalso; omega))) | (apply gd_beq_f <;> intro hq <;> (try (exfalso; omega))) | (apply gd_bne_t <;> intro hq <;> (try (exfalso; omega))) | (apply gd_bne_f <;> intro hq <;> (try (exfalso; omega))) | (apply gd_not_t <;> intro hq) | (apply gd_not_f <;> intro hq) | (apply gd_raw_t <;> intro hq) | (apply gd_raw_f <;> intro hq)) | refine sl_skip_u rfl rfl rfl rfl rfl rfl ?_) | fail) | (apply sw_seq) | (apply at_srd) | (apply sw_skip) | (apply sw_ret) | (apply sw_exit) | (apply sw_block) | (apply sw_region) | (refine sw_cd rfl ?_; first | (apply gd_t) | (apply gd_ft) | (apply gd_tf) | (apply gd_dec_t <;> intro hq <;> (try (exfalso; omega))) | (apply gd_dec_f <;> intro hq <;> (try (exfalso; omega))) | (apply gd_beq_t <;> intro hq <;> (try (exfalso; omega))) | (apply gd_beq_f <;> intro hq <;> (try (exfalso; omega))) | (apply gd_bne_t <;> intro hq <;> (try (exfalso; omega))) | (apply gd_bne_f <;> intro hq <;> (try (exfalso; omega))) | (apply gd_not_t <;> intro hq) | (apply gd_not_f <;> intro hq) | (apply gd_raw_t <;> intro hq) | (apply gd_raw_f <;> intro hq)) | (apply at_thn) | (apply at_thn_ret) | (apply at_thn_exit) | (apply at_inb) | (apply at_inb_ret) | (apply at_inb_exit) | refine at_inb_pass rfl ?_ | refine c_drawn (by kernel_rfl) ?_)
    all_goals first | exact absurd rfl (by assumption) | (refine e_sv (by first | exact .inl rfl | exact .inr rfl) rfl (List.nil_sublist _) ?_; simp [resV])
theorem sl_top {α : Type} {f : List α → List Value} {W : World} {H : List Ent} {a : Option Addr} {c : Nat} {L : List α} (h1 : L.length ≤ c) (h2 : L.length ≤ maxLen) (h : At W a (f L)) : Sl f ⟨W.heap.size, W⟩ H (a, c, L) := fun w hw => ⟨h1, h2, (Rd.top h rfl) w hw⟩
theorem sum_ones (L : List Int) : (L.map fun _ => 0 + 1).sum = L.length := by
  induction L with
  | nil => rfl
  | cons x L ih => rw [List.map_cons, List.sum_cons, ih, List.length_cons]; omega
theorem bk_lines (X : List (Rx Int)) : (X.map fun y => (y.2.2.map fun _ => 0 + 1).sum + 1).sum = lens (X.map (·.2.2)) + X.length := by
  induction X with
  | nil => rfl
  | cons x L ih =>
    have e : lens ((x :: L).map (·.2.2)) = x.2.2.length + lens (L.map (·.2.2)) := by simp [lens]
    rw [List.map_cons, List.sum_cons, ih, List.length_cons, sum_ones, e]
    omega
theorem bk_rows (X : List Rr) : (X.map fun y => ((y.1.2.2.map fun _ => 0 + 1).sum + 0) + 1).sum = plens X + X.length := by
  induction X with
  | nil => rfl
  | cons x L ih =>
    have e : plens (x :: L) = x.1.2.2.length + plens L := by simp [plens]
    rw [List.map_cons, List.sum_cons, ih, List.length_cons, sum_ones, e]
    omega
theorem flowSays_walk0 (W : World) (ao ar : Option Addr) (co cr : Nat) (X : List (Rx Int)) (R : List Rr) (w : Int) (hA : At W ao (X.flatMap fun x => [rxV x])) (hX : ∀ x ∈ X, x.2.2.length ≤ x.2.1 ∧ x.2.2.length ≤ maxLen ∧ At W x.1 (x.2.2.flatMap fun z => [.int .i64 z])) (hA2 : At W ar (R.flatMap enR)) (hR : ∀ x ∈ R, x.1.2.2.length ≤ x.1.2.1 ∧ x.1.2.2.length ≤ maxLen ∧ At W x.1.1 (x.1.2.2.flatMap fun z => [.int .i64 z]))
    (hb : (X.map fun y => (y.2.2.map fun _ => 0 + 1).sum + 1).sum + ((R.map fun y => ((y.1.2.2.map fun _ => 0 + 1).sum + 0) + 1).sum + 0) ≤ 1048576) : Calls Try.prog 3 #[.slice ao X.length co, .slice ar R.length cr, .int .i64 w] W fun e w' => e = .returned (.bool true) ∧ Below W.heap.size W w' := by
  rw [bk_lines, bk_rows] at hb
  rw [fm_map] at hA
  haveI : ∀ H, RdC ⟨W.heap.size, W⟩ H ao (X.map rxV) := fun H => RdC.top hA
  haveI : ∀ H, RdC ⟨W.heap.size, W⟩ H ar (R.flatMap enR) := fun H => RdC.top hA2
  have eI : ∀ L : List Int, L.flatMap (fun z => [Value.int .i64 z]) = ints L := fun L => fm_map (Value.int .i64) L
  refine calls_of_sv (flowSays_sv _ X R ao ar X.length R.length co cr w (fun H x hx => ?_) (fun H x hx => ?_) rfl (by omega) (by omega) rfl (by omega) (by omega))
  · obtain ⟨h1, h2, h3⟩ := hX x hx
    rw [eI] at h3
    exact sl_top h1 h2 h3
  · obtain ⟨r, hr, rfl⟩ := List.mem_map.1 hx
    obtain ⟨h1, h2, h3⟩ := hR r hr
    rw [eI] at h3
    exact sl_top h1 h2 h3
theorem flowSays_walk (W : World) (y0 : A22) (o0 : ok22 W y0) (y1 : A23) (o1 : ok23 W y1) (y2 : A3) (_ : ok3 W y2) (hb : bk22 y0 + (bk23 y1 + bk3 y2) ≤ 1048576) : Calls Try.prog 3 #[rxV y0, rxV y1, .int .i64 y2] W fun e w' => e = .returned (.bool true) ∧ Below W.heap.size W w' := by
  obtain ⟨ao, co, X⟩ := y0
  obtain ⟨ar, cr, R⟩ := y1
  obtain ⟨-, -, hA, hX⟩ := o0
  obtain ⟨-, -, hA2, hR⟩ := o1
  exact flowSays_walk0 W ao ar co cr X R y2 hA (fun x hx => ⟨(hX x hx).1, (hX x hx).2.1, (hX x hx).2.2.1⟩) hA2 (fun x hx => ⟨(hR x hx).1.1, (hR x hx).1.2.1, (hR x hx).1.2.2.1⟩) hb

set_option maxRecDepth 100000 in
theorem flowSays_law {H : Type} (enc : TypeId × Value → H) (W : World) {base : Nat} {v0 v1 v2 : Value} {d0 d1 d2 : DataW H} {p0 p1 p2 : List MemPlace}
    (k0 : Value.okWide Try.prog W .any base 22 v0) (h0 : DataW.Trod enc Try.prog W 0 (fun _ => true) true 22 v0 d0 p0)
    (k1 : Value.okWide Try.prog W .any base 23 v1) (h1 : DataW.Trod enc Try.prog W 0 (fun _ => true) true 23 v1 d1 p1)
    (k2 : Value.okWide Try.prog W .any base 3 v2) (h2 : DataW.Trod enc Try.prog W 0 (fun _ => true) true 3 v2 d2 p2)
    (hk : Rows.uptoSmall H [d0, d1, d2] = true)
    : Calls Try.prog 3 #[v0, v1, v2] W fun e w' => e = .returned (.bool true) ∧ Below W.heap.size W w' := by
  obtain ⟨y0, rfl, o0, b0⟩ := tr_slice Try.underlying22 tr22 k0 h0
  obtain ⟨y1, rfl, o1, b1⟩ := tr_slice Try.underlying23 tr23 k1 h1
  obtain ⟨y2, rfl, o2, b2⟩ := tr_int Try.underlying3 tr3 k2 h2
  have hb := bulk_all hk
  simp only [Rows.uptoBulkAll] at hb
  exact flowSays_walk W y0 o0 y1 o1 y2 o2 (by omega)

set_option maxRecDepth 100000 in
theorem flowSays_contract (H : Type) (enc : TypeId × Value → H) (W : World) (base : Nat) (args : Array Value) (ds gs : List (DataW H)) (before : List MemPlace)
    (hval : ∀ (j : Nat) t v, Try.f3.params[j]? = some t → args[j]? = some v → Value.okWide Try.prog W .any base t v)
    (hW : DataW.Whole enc Try.prog Try.f3.params.toList Rows.flowSaysSpec.vars false W args.toList ds gs before) (hk : Rows.uptoSmall H (ds ++ gs) = true) :
    Calls Try.prog 3 args W fun e W' => ∃ v, e = .returned v ∧ Rows.flowSaysSpec.post enc Try.prog Try.f3 false true false false W args v W' := by
  have hW' := hW
  obtain ⟨p, q, hA0, hV, rfl, hfz, hnd⟩ := hW
  have hA : DataW.TrodAll enc Try.prog W 0 (fun _ => true) true Try.f3.params.toList args.toList ds p := hA0
  rw [Try.params3] at hA hval
  obtain ⟨v0, vs0, d0, ds0, p0, q0, hargs, rfl, rfl, h0, r0⟩ := trodAll_cons hA
  obtain ⟨v1, vs1, d1, ds1, p1, q1, rfl, rfl, rfl, h1, r1⟩ := trodAll_cons r0
  obtain ⟨v2, vs2, d2, ds2, p2, q2, rfl, rfl, rfl, h2, r2⟩ := trodAll_cons r1
  obtain ⟨rfl, rfl, rfl⟩ := trodAll_nil r2
  obtain rfl : args = #[v0, v1, v2] := by cases args; simp_all
  obtain ⟨rfl, rfl⟩ := trodVars_none hV
  clear hA0
  have k0 := hval 0 22 v0 rfl rfl
  have k1 := hval 1 23 v1 rfl rfl
  have k2 := hval 2 3 v2 rfl rfl
  simp only [List.append_nil] at hk
  refine (flowSays_law enc W k0 h0 k1 h1 k2 h2 hk).mono fun e W' ⟨he, hg⟩ => ?_
  subst he
  exact ⟨_, rfl, law_post (s := Rows.flowSaysSpec) laidOut (by kernel_rfl) rfl Try.underlying4 rfl hW' rfl hg⟩

set_option maxRecDepth 100000 in
theorem flowSays_lifted (os : Os) (started : os.Started) (H : Type) (enc : TypeId × Value → H) (F : Stop.Interp) :
    ReturnsInHanded {} Try.checked os 3 .any ((Rows.OpenSpec.upto Rows.flowSaysSpec).pre6 enc Try.prog Try.f3 Rows.flowSaysUptoRow.domain false) (((Rows.OpenSpec.upto Rows.flowSaysSpec).at F).post enc Try.prog Try.f3 false true false false) := by
  refine returnsInHanded_of_cond (C := Try.checked) (s := Rows.OpenSpec.upto Rows.flowSaysSpec) (k := Rows.uptoSmall) rfl own started (by kernel_rfl) Try.func3
    (OpenSpec.witness (enc := enc) (C := Try.checked) (s := Rows.OpenSpec.upto Rows.flowSaysSpec) (k := Rows.uptoSmall) rfl false ⟨#[], #[.slice none 0 0, .slice none 0 0, .int .i64 0], []⟩ 12 (by kernel_rfl) (by kernel_rfl) (by kernel_rfl)
      (x := ([.nil, .nil, .lit (.int .i64 0)], [], [])) (by kernel_rfl) rfl (by kernel_rfl)) ?_
  intro W base args ds gs before hval hW _ hk _
  exact flowSays_contract H enc W base args ds gs before hval hW hk

theorem flowSays_holds : Rows.FlowSaysUptoSaid :=
  OpenClaim.holds_of_cond 3 Try.f3 rfl rfl rfl rfl rfl rfl rfl ⟨rfl, rfl, rfl, rfl, rfl⟩ rfl rfl rfl rfl rfl (by kernel_rfl) Try.func3 (by kernel_rfl)
    (of_decide_eq_true (by kernel_rfl)) (by unfold Func.isWrapper; first | (rw [if_pos (by decide +kernel)]; kernel_rfl) | (rw [if_neg (by decide +kernel)]; exact ⟨rfl, rfl⟩))
    (fun os started H enc _ F => flowSays_lifted os started H enc F)

end Go.Proofs.Ytgcnfcgnkfkpeaa
