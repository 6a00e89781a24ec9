/- farlaw.QnegTakes returns true for every input, and each argument reads as it read. -/
import Derived.Test.YtpgmdjdnmipmbaaLawNeg
import Derived.Test.YtpgmdjdnmipmbaaNeg6
namespace Go.Proofs.Ytpgmdjdnmipmbaa
open Go Go.RowKit Go.Fw Go.Sx Go.ChangeShapes Go.WideShapes Go.ChangeAt
set_option maxRecDepth 100000
set_option maxHeartbeats 2000000
attribute [local irreducible] SW SL SQ AtQ SV SC BB LD PK Yields SO SOT SOA SY

theorem own : ownKnob Try.prog.godebug = none := by kernel_rfl
theorem laidOut : laidOutB Try.prog = true := by kernel_rfl
theorem open_tok {H : Type} {enc : TypeId × Value → H} {W : World} {base : Nat} {v : Value} {d : DataW H} {ps : List MemPlace} (k : Value.okWide Try.prog W .any base 57 v) (h : DataW.Trod enc Try.prog W 0 (fun _ => true) true 57 v d ps) : ∃ a b c s, v = tokV a b c s := by
  obtain ⟨cs, rfl, hsz⟩ := okWide_struct Try.underlying57 k
  obtain ⟨fuel, hf⟩ := h
  rw [show (Value.agg cs).cells.toList = cs.toList from rfl] at hf
  obtain ⟨xs, m, -, hd, hl, hxs, hel⟩ := DataW.trod_struct Try.underlying57 hf
  have hct : Try.prog.cellsOf 57 = 4 := by kernel_rfl
  have hci : Try.prog.cellsOf 3 = 1 := by kernel_rfl
  have hcs : Try.prog.cellsOf 9 = 1 := by kernel_rfl
  rw [hct] at hl
  match xs, hxs with
  | [x0, x1, x2, x3], _ =>
    have g0 := hel 0 _ rfl
    have g1 := hel 1 _ rfl
    have g2 := hel 2 _ rfl
    have g3 := hel 3 _ rfl
    rw [show ([x0, x1, x2, x3][0]? : Option _) = some x0 from rfl] at g0
    rw [show ([x0, x1, x2, x3][1]? : Option _) = some x1 from rfl] at g1
    rw [show ([x0, x1, x2, x3][2]? : Option _) = some x2 from rfl] at g2
    rw [show ([x0, x1, x2, x3][3]? : Option _) = some x3 from rfl] at g3
    obtain ⟨z0, e0, -, -⟩ := DataW.trod_int Try.underlying3 g0
    obtain ⟨z1, e1, -, -⟩ := DataW.trod_int Try.underlying3 g1
    obtain ⟨z2, e2, -, -⟩ := DataW.trod_int Try.underlying3 g2
    obtain ⟨z3, e3, -, -⟩ := DataW.trod_string Try.underlying9 g3
    refine ⟨z0, z1, z2, z3, ?_⟩
    congr 1
    apply Array.toList_inj.1
    have f0 : (cs.toList.drop 0).take (Try.prog.cellsOf 3) = [.int .i64 z0] := e0
    have f1 : (cs.toList.drop 1).take (Try.prog.cellsOf 3) = [.int .i64 z1] := e1
    have f2 : (cs.toList.drop 2).take (Try.prog.cellsOf 3) = [.int .i64 z2] := e2
    have f3 : (cs.toList.drop 3).take (Try.prog.cellsOf 9) = [.string z3] := e3
    rw [hci] at f0 f1 f2
    rw [hcs] at f3
    match hcl : cs.toList, hl with
    | [c0, c1, c2, c3], _ =>
      rw [hcl] at f0 f1 f2 f3
      simp at f0 f1 f2 f3
      rw [f0, f1, f2, f3]
      rfl
theorem takenV_ex (W X : List Int) (kd cmd opt : Int) (d : ByteArray) (hW : W.length = 512) : ∃ M s e, takenV W X kd cmd opt d = .tuple #[negV M X, .string s, .int .i64 e] ∧ M.length = 512 := by
  unfold takenV
  split
  · exact ⟨_, _, _, rfl, hW⟩
  · split
    · exact ⟨_, _, _, rfl, hW⟩
    · exact ⟨_, _, _, rfl, by rw [heardL_len]; exact hW⟩
attribute [local irreducible] negC
theorem qnegTakes_sv (G : Ctx) (W X : List Int) (kd cmd opt : Int) (d : ByteArray) (hW : W.length = 512) (hX : X.length = 8) (hO : ∀ x ∈ W, Oct x) (hx64 : ∀ x ∈ X, w64 x) : SV Try.prog G 8 [negV W X, tokV kd cmd opt d] [] (.bool true) := by
  obtain ⟨M, s, e, hV, hM⟩ := takenV_ex W X kd cmd opt d hW
  have c1 := fun H => negTake_sv G H W X kd cmd opt d hW hX hO hx64
  have c2 := fun H => negTaken_sv G H W X kd cmd opt d hW hX hO hx64
  have c3 := fun H => negCheck_sv G H W X hW hX hO
  have c4 := fun H => negRight_sv G H W X hW hX hO
  rw [hV] at c1 c2
  have hs := negSelf M X hM hX
  have hb := neg_b hW hX
  have hbM := neg_b hM hX
  have hone := neg_all M X
  generalize negE W = e3 at *
  clear hV hM hO hW hX hx64
  refine sv_enter2 Try.func8 rfl rfl rfl rfl rfl ?_
  repeat' (first | (apply g_sl; first | (apply ks_nil; refine sl_nil ?_) | (apply ks_move; refine s_move rfl rfl ?_) | (apply ks_bin; refine s_bin rfl rfl rfl ?_; first | first | (refine s_load rfl rfl ?_; first | refine ld_whole hb ?_ | refine ld_whole hbM ?_) | (refine c_storew rfl rfl rfl rfl hone hbM (by first | rfl | exact hbM) rfl ?_) | (first | refine bb_of rfl ?_)) | (apply ks_load; first | (refine s_load rfl rfl ?_; first | refine ld_cell rfl ?_ | refine ld_whole rfl ?_ | refine ld_elem rfl ?_ | refine ld_part rfl rfl ?_) | first | (refine s_load rfl rfl ?_; first | refine ld_whole hb ?_ | refine ld_whole hbM ?_) | (refine c_storew rfl rfl rfl rfl hone hbM (by first | rfl | exact hbM) rfl ?_)) | (apply ks_asgn; refine s_asgn rfl rfl ?_) | (apply ks_pick; refine s_pick rfl rfl ?_; first | (apply kp_t; refine pk_t rfl ?_) | (apply kp_f; refine pk_f rfl ?_) | refine pk_s rfl rfl ?_) | (apply ks_extr; refine s_extr (y_extract rfl rfl rfl) rfl ?_) | (apply ks_fn; first | first | refine c_callv rfl rfl rfl (c1 _) rfl rfl ?_ | refine c_callv rfl rfl rfl (c2 _) rfl rfl ?_) | (apply ks_store; first | first | refine c_store rfl rfl rfl rfl rfl rfl rfl ?_ | refine c_storew rfl rfl rfl rfl rfl rfl rfl rfl ?_ | refine c_storee rfl rfl rfl rfl rfl (by omega) rfl ?_ | first | (refine s_load rfl rfl ?_; first | refine ld_whole hb ?_ | refine ld_whole hbM ?_) | (refine c_storew rfl rfl rfl rfl hone hbM (by first | rfl | exact hbM) rfl ?_)) | (apply ks_box; refine c_box rfl rfl rfl rfl rfl rfl (fun _ => ?_)) | (apply ks_alloc; refine c_alloc rfl rfl rfl rfl (fun _ => ?_)) | (apply ks_guard; first | (refine sl_gd rfl rfl rfl rfl ?_; first | (apply gd_t) | (apply gd_ft) | (apply gd_tf) | (apply gd_dec_t <;> intro hq <;> (try (exfalso; omega))) | (apply gd_dec_f <;> intro hq <;> (try (exfalso; omega))) | (apply gd_beq_t <;> intro hq <;> (try (exfalso; omega))) | (apply gd_beq_f <;> intro hq <;> (try (exfalso; omega))) | (apply gd_bne_t <;> intro hq <;> (try (exfalso; omega))) | (apply gd_bne_f <;> intro hq <;> (try (exfalso; omega))) | (apply gd_not_t <;> intro hq) | (apply gd_not_f <;> intro hq) | (apply gd_raw_t <;> intro hq) | (apply gd_raw_f <;> intro hq)) | refine sl_skip_u rfl rfl rfl rfl rfl rfl ?_) | first | (refine s_load rfl rfl ?_; first | refine ld_whole hb ?_ | refine ld_whole hbM ?_) | (refine c_storew rfl rfl rfl rfl hone hbM (by first | rfl | exact hbM) rfl ?_)) | (apply g_sq; first | (apply kq_nil; refine sq_nil ?_) | (apply kq_move; refine q_move rfl rfl ?_) | (apply kq_bin; refine q_bin rfl rfl rfl ?_; first | first | (refine q_load rfl rfl ?_; first | refine ld_whole hb ?_ | refine ld_whole hbM ?_) | (refine bb_self hs (by kernel_rfl) ?_) | (refine bb_seq ?_) | (first | refine bb_of rfl ?_)) | (apply kq_load; first | (refine q_load rfl rfl ?_; first | refine ld_cell rfl ?_ | refine ld_whole rfl ?_ | refine ld_elem rfl ?_ | refine ld_part rfl rfl ?_) | first | (refine q_load rfl rfl ?_; first | refine ld_whole hb ?_ | refine ld_whole hbM ?_) | (refine bb_self hs (by kernel_rfl) ?_) | (refine bb_seq ?_)) | (apply kq_asgn; refine q_asgn rfl rfl ?_) | (apply kq_pick; refine q_pick rfl rfl ?_; first | (apply kp_t; refine pk_t rfl ?_) | (apply kp_f; refine pk_f rfl ?_) | refine pk_s rfl rfl ?_) | (apply kq_extr; refine q_extr (y_extract rfl rfl rfl) rfl ?_) | (apply kq_fn; first | first | refine c_callq rfl rfl rfl (c3 _) rfl rfl ?_ | refine c_callq rfl rfl rfl (c4 _) rfl rfl ?_) | (apply kq_guard; first | (refine sq_gd rfl rfl rfl rfl ?_; first | (apply gd_t) | (apply gd_ft) | (apply gd_tf) | (apply gd_dec_t <;> intro hq <;> (try (exfalso; omega))) | (apply gd_dec_f <;> intro hq <;> (try (exfalso; omega))) | (apply gd_beq_t <;> intro hq <;> (try (exfalso; omega))) | (apply gd_beq_f <;> intro hq <;> (try (exfalso; omega))) | (apply gd_bne_t <;> intro hq <;> (try (exfalso; omega))) | (apply gd_bne_f <;> intro hq <;> (try (exfalso; omega))) | (apply gd_not_t <;> intro hq) | (apply gd_not_f <;> intro hq) | (apply gd_raw_t <;> intro hq) | (apply gd_raw_f <;> intro hq)) | refine sq_skip_u rfl rfl rfl rfl rfl rfl ?_) | first | (refine q_load rfl rfl ?_; first | refine ld_whole hb ?_ | refine ld_whole hbM ?_) | (refine bb_self hs (by kernel_rfl) ?_) | (refine bb_seq ?_)) | (apply sw_seq) | (apply at_srd) | (apply sw_skip) | (apply sw_ret) | (apply sw_exit) | (apply sw_block) | (apply sw_region) | (refine sw_cd rfl ?_; first | (apply gd_t) | (apply gd_ft) | (apply gd_tf) | (apply gd_dec_t <;> intro hq <;> (try (exfalso; omega))) | (apply gd_dec_f <;> intro hq <;> (try (exfalso; omega))) | (apply gd_beq_t <;> intro hq <;> (try (exfalso; omega))) | (apply gd_beq_f <;> intro hq <;> (try (exfalso; omega))) | (apply gd_bne_t <;> intro hq <;> (try (exfalso; omega))) | (apply gd_bne_f <;> intro hq <;> (try (exfalso; omega))) | (apply gd_not_t <;> intro hq) | (apply gd_not_f <;> intro hq) | (apply gd_raw_t <;> intro hq) | (apply gd_raw_f <;> intro hq)) | (apply at_thn) | (apply at_thn_ret) | (apply at_thn_exit) | (apply at_inb) | (apply at_inb_ret) | (apply at_inb_exit) | refine at_inb_pass rfl ?_ | refine c_drawn (by kernel_rfl) ?_)
  all_goals first | exact absurd rfl (by assumption) | (refine e_sv (by first | exact .inl rfl | exact .inr rfl) rfl (by repeat (first | exact List.Sublist.refl _ | exact List.nil_sublist _ | refine List.Sublist.cons _ ?_)) ?_; simp [resV])
theorem qnegTakes_law {H : Type} (enc : TypeId × Value → H) (W : World) {base : Nat} {v0 v1 : Value} {d0 d1 : DataW H} {p0 p1 : List MemPlace}
    (k0 : Value.okWide Try.prog W .any base 52 v0) (h0 : DataW.Trod enc Try.prog W 0 (fun _ => true) true 52 v0 d0 p0)
    (k1 : Value.okWide Try.prog W .any base 57 v1) (h1 : DataW.Trod enc Try.prog W 0 (fun _ => true) true 57 v1 d1 p1)
    : Calls Try.prog 8 #[v0, v1] W fun e w' => e = .returned (.bool true) ∧ Below W.heap.size W w' := by
  obtain ⟨L, X, rfl, hL, hX, hO, h64⟩ := open_neg k0 h0
  obtain ⟨a, b, c, s, rfl⟩ := open_tok k1 h1
  exact calls_of_sv (qnegTakes_sv _ L X a b c s hL hX hO h64)

set_option maxRecDepth 100000 in
theorem qnegTakes_contract (H : Type) (enc : TypeId × Value → H) (W : World) (base : Nat) (args : Array Value) (ds gs : List (DataW H)) (before : List MemPlace)
    (hval : ∀ (j : Nat) t v, Try.f8.params[j]? = some t → args[j]? = some v → Value.okWide Try.prog W .any base t v)
    (hW : DataW.Whole enc Try.prog Try.f8.params.toList Rows.qnegTakesSpec.vars false W args.toList ds gs before) :
    Calls Try.prog 8 args W fun e W' => ∃ v, e = .returned v ∧ Rows.qnegTakesSpec.post enc Try.prog Try.f8 false true false false W args v W' := by
  have hW' := hW
  obtain ⟨p, q, hA0, hV, rfl, hfz, hnd⟩ := hW
  have hA : DataW.TrodAll enc Try.prog W 0 (fun _ => true) true Try.f8.params.toList args.toList ds p := hA0
  rw [Try.params8] at hA hval
  obtain ⟨v0, vs0, d0, ds0, p0, q0, hargs, rfl, rfl, h0, r0⟩ := trodAll_cons hA
  obtain ⟨v1, vs1, d1, ds1, p1, q1, rfl, rfl, rfl, h1, r1⟩ := trodAll_cons r0
  obtain ⟨rfl, rfl, rfl⟩ := trodAll_nil r1
  obtain rfl : args = #[v0, v1] := by cases args; simp_all
  obtain ⟨rfl, rfl⟩ := trodVars_none hV
  clear hA0
  have k0 := hval 0 52 v0 rfl rfl
  have k1 := hval 1 57 v1 rfl rfl
  refine (qnegTakes_law enc W k0 h0 k1 h1).mono fun e W' ⟨he, hg⟩ => ?_
  subst he
  exact ⟨_, rfl, law_post (s := Rows.qnegTakesSpec) laidOut (by kernel_rfl) rfl Try.underlying4 rfl hW' rfl hg⟩

set_option maxRecDepth 100000 in
theorem qnegTakes_lifted (os : Os) (started : os.Started) (H : Type) (enc : TypeId × Value → H) :
    ReturnsInHanded {} Try.checked os 8 .any (Rows.qnegTakesSpec.pre6 enc Try.prog Try.f8 Rows.qnegTakesRow.domain false) (Rows.qnegTakesSpec.post enc Try.prog Try.f8 false true false false) := by
  refine returnsInHanded_of_change (C := Try.checked) own started (by kernel_rfl) Try.func8
    (ChangeSpec.witness6 (enc := enc) (C := Try.checked) false ⟨#[], #[.agg #[.int .u8 0, .int .u8 0, .int .u8 0, .int .u8 0, .int .u8 0, .int .u8 0, .int .u8 0, .int .u8 0, .int .u8 0, .int .u8 0, .int .u8 0, .int .u8 0, .int .u8 0, .int .u8 0, .int .u8 0, .int .u8 0, .int .u8 0, .int .u8 0, .int .u8 0, .int .u8 0, .int .u8 0, .int .u8 0, .int .u8 0, .int .u8 0, .int .u8 0, .int .u8 0, .int .u8 0, .int .u8 0, .int .u8 0, .int .u8 0, .int .u8 0, .int .u8 0, .int .u8 0, .int .u8 0, .int .u8 0, .int .u8 0, .int .u8 0, .int .u8 0, .int .u8 0, .int .u8 0, .int .u8 0, .int .u8 0, .int .u8 0, .int .u8 0, .int .u8 0, .int .u8 0, .int .u8 0, .int .u8 0, .int .u8 0, .int .u8 0, .int .u8 0, .int .u8 0, .int .u8 0, .int .u8 0, .int .u8 0, .int .u8 0, .int .u8 0, .int .u8 0, .int .u8 0, .int .u8 0, .int .u8 0, .int .u8 0, .int .u8 0, .int .u8 0, .int .u8 0, .int .u8 0, .int .u8 0, .int .u8 0, .int .u8 0, .int .u8 0, .int .u8 0, .int .u8 0, .int .u8 0, .int .u8 0, .int .u8 0, .int .u8 0, .int .u8 0, .int .u8 0, .int .u8 0, .int .u8 0, .int .u8 0, .int .u8 0, .int .u8 0, .int .u8 0, .int .u8 0, .int .u8 0, .int .u8 0, .int .u8 0, .int .u8 0, .int .u8 0, .int .u8 0, .int .u8 0, .int .u8 0, .int .u8 0, .int .u8 0, .int .u8 0, .int .u8 0, .int .u8 0, .int .u8 0, .int .u8 0, .int .u8 0, .int .u8 0, .int .u8 0, .int .u8 0, .int .u8 0, .int .u8 0, .int .u8 0, .int .u8 0, .int .u8 0, .int .u8 0, .int .u8 0, .int .u8 0, .int .u8 0, .int .u8 0, .int .u8 0, .int .u8 0, .int .u8 0, .int .u8 0, .int .u8 0, .int .u8 0, .int .u8 0, .int .u8 0, .int .u8 0, .int .u8 0, .int .u8 0, .int .u8 0, .int .u8 0, .int .u8 0, .int .u8 0, .int .u8 0, .int .u8 0, .int .u8 0, .int .u8 0, .int .u8 0, .int .u8 0, .int .u8 0, .int .u8 0, .int .u8 0, .int .u8 0, .int .u8 0, .int .u8 0, .int .u8 0, .int .u8 0, .int .u8 0, .int .u8 0, .int .u8 0, .int .u8 0, .int .u8 0, .int .u8 0, .int .u8 0, .int .u8 0, .int .u8 0, .int .u8 0, .int .u8 0, .int .u8 0, .int .u8 0, .int .u8 0, .int .u8 0, .int .u8 0, .int .u8 0, .int .u8 0, .int .u8 0, .int .u8 0, .int .u8 0, .int .u8 0, .int .u8 0, .int .u8 0, .int .u8 0, .int .u8 0, .int .u8 0, .int .u8 0, .int .u8 0, .int .u8 0, .int .u8 0, .int .u8 0, .int .u8 0, .int .u8 0, .int .u8 0, .int .u8 0, .int .u8 0, .int .u8 0, .int .u8 0, .int .u8 0, .int .u8 0, .int .u8 0, .int .u8 0, .int .u8 0, .int .u8 0, .int .u8 0, .int .u8 0, .int .u8 0, .int .u8 0, .int .u8 0, .int .u8 0, .int .u8 0, .int .u8 0, .int .u8 0, .int .u8 0, .int .u8 0, .int .u8 0, .int .u8 0, .int .u8 0, .int .u8 0, .int .u8 0, .int .u8 0, .int .u8 0, .int .u8 0, .int .u8 0, .int .u8 0, .int .u8 0, .int .u8 0, .int .u8 0, .int .u8 0, .int .u8 0, .int .u8 0, .int .u8 0, .int .u8 0, .int .u8 0, .int .u8 0, .int .u8 0, .int .u8 0, .int .u8 0, .int .u8 0, .int .u8 0, .int .u8 0, .int .u8 0, .int .u8 0, .int .u8 0, .int .u8 0, .int .u8 0, .int .u8 0, .int .u8 0, .int .u8 0, .int .u8 0, .int .u8 0, .int .u8 0, .int .u8 0, .int .u8 0, .int .u8 0, .int .u8 0, .int .u8 0, .int .u8 0, .int .u8 0, .int .u8 0, .int .u8 0, .int .u8 0, .int .u8 0, .int .u8 0, .int .u8 0, .int .u8 0, .int .u8 0, .int .u8 0, .int .u8 0, .int .u8 0, .int .u8 0, .int .u8 0, .int .u8 0, .int .u8 0, .int .u8 0, .int .u8 0, .int .u8 0, .int .u8 0, .int .u8 0, .int .u8 0, .int .u8 0, .int .u8 0, .int .u8 0, .int .u8 0, .int .u8 0, .int .u8 0, .int .u8 0, .int .u8 0, .int .u8 0, .int .u8 0, .int .u8 0, .int .u8 0, .int .u8 0, .int .u8 0, .int .u8 0, .int .u8 0, .int .u8 0, .int .u8 0, .int .u8 0, .int .u8 0, .int .u8 0, .int .u8 0, .int .u8 0, .int .u8 0, .int .u8 0, .int .u8 0, .int .u8 0, .int .u8 0, .int .u8 0, .int .u8 0, .int .u8 0, .int .u8 0, .int .u8 0, .int .u8 0, .int .u8 0, .int .u8 0, .int .u8 0, .int .u8 0, .int .u8 0, .int .u8 0, .int .u8 0, .int .u8 0, .int .u8 0, .int .u8 0, .int .u8 0, .int .u8 0, .int .u8 0, .int .u8 0, .int .u8 0, .int .u8 0, .int .u8 0, .int .u8 0, .int .u8 0, .int .u8 0, .int .u8 0, .int .u8 0, .int .u8 0, .int .u8 0, .int .u8 0, .int .u8 0, .int .u8 0, .int .u8 0, .int .u8 0, .int .u8 0, .int .u8 0, .int .u8 0, .int .u8 0, .int .u8 0, .int .u8 0, .int .u8 0, .int .u8 0, .int .u8 0, .int .u8 0, .int .u8 0, .int .u8 0, .int .u8 0, .int .u8 0, .int .u8 0, .int .u8 0, .int .u8 0, .int .u8 0, .int .u8 0, .int .u8 0, .int .u8 0, .int .u8 0, .int .u8 0, .int .u8 0, .int .u8 0, .int .u8 0, .int .u8 0, .int .u8 0, .int .u8 0, .int .u8 0, .int .u8 0, .int .u8 0, .int .u8 0, .int .u8 0, .int .u8 0, .int .u8 0, .int .u8 0, .int .u8 0, .int .u8 0, .int .u8 0, .int .u8 0, .int .u8 0, .int .u8 0, .int .u8 0, .int .u8 0, .int .u8 0, .int .u8 0, .int .u8 0, .int .u8 0, .int .u8 0, .int .u8 0, .int .u8 0, .int .u8 0, .int .u8 0, .int .u8 0, .int .u8 0, .int .u8 0, .int .u8 0, .int .u8 0, .int .u8 0, .int .u8 0, .int .u8 0, .int .u8 0, .int .u8 0, .int .u8 0, .int .u8 0, .int .u8 0, .int .u8 0, .int .u8 0, .int .u8 0, .int .u8 0, .int .u8 0, .int .u8 0, .int .u8 0, .int .u8 0, .int .u8 0, .int .u8 0, .int .u8 0, .int .u8 0, .int .u8 0, .int .u8 0, .int .u8 0, .int .u8 0, .int .u8 0, .int .u8 0, .int .u8 0, .int .u8 0, .int .u8 0, .int .u8 0, .int .u8 0, .int .u8 0, .int .u8 0, .int .u8 0, .int .u8 0, .int .u8 0, .int .u8 0, .int .u8 0, .int .u8 0, .int .u8 0, .int .u8 0, .int .u8 0, .int .u8 0, .int .u8 0, .int .u8 0, .int .u8 0, .int .u8 0, .int .u8 0, .int .u8 0, .int .u8 0, .int .u8 0, .int .u8 0, .int .u8 0, .int .u8 0, .int .u8 0, .int .u8 0, .int .u8 0, .int .u8 0, .int .u8 0, .int .u8 0, .int .u8 0, .int .u8 0, .int .u8 0, .int .u8 0, .int .u8 0, .int .u8 0, .int .u8 0, .int .u8 0, .int .u8 0, .int .u8 0, .int .u8 0, .int .u8 0, .int .u8 0, .int .u8 0, .int .u8 0, .int .u8 0, .int .u8 0, .int .u8 0, .int .u8 0, .int .u8 0, .int .u8 0, .int .u8 0, .int .u8 0, .int .u8 0, .int .u8 0, .int .u8 0, .int .u8 0, .int .u8 0, .int .u8 0, .int .u8 0, .int .u8 0, .int .u8 0, .int .u8 0, .int .u8 0, .int .u8 0, .int .u8 0, .int .u8 0, .int .u8 0, .int .u8 0, .int .u8 0, .int .u8 0, .int .u8 0, .int .u8 0, .int .u8 0, .int .u8 0, .int .u8 0, .int .u8 0, .int .u8 0, .int .u8 0, .int .u8 0, .int .u8 0, .int .u8 0, .int .u8 0, .int .u8 0, .int .u8 0, .int .u8 0, .int .u8 0, .int .u8 0, .int .u8 0, .int .u8 0, .int .u8 0, .int .u8 0, .int .u8 0, .int .u8 0, .int .u8 0, .int .u8 0, .int .u64 0, .int .u64 0, .int .u64 0, .int .u64 0, .int .u64 0, .int .u64 0, .int .u64 0, .int .u64 0], .agg #[.int .i64 0, .int .i64 0, .int .i64 0, .string .empty]], []⟩ 12 (by kernel_rfl) (by kernel_rfl) (by kernel_rfl) (by kernel_rfl)) ?_
  intro W base args ds gs before hval hW _ _
  exact qnegTakes_contract H enc W base args ds gs before hval hW

theorem qnegTakes_holds : Rows.QnegTakesSaid :=
  OpenClaim.holds_of_wide 8 Try.f8 rfl rfl rfl rfl rfl rfl rfl ⟨rfl, rfl, rfl, rfl, rfl⟩ rfl rfl rfl rfl rfl (by kernel_rfl) Try.func8 (by kernel_rfl)
    (of_decide_eq_true (by kernel_rfl)) (by unfold Func.isWrapper; first | (rw [if_pos (by decide +kernel)]; kernel_rfl) | (rw [if_neg (by decide +kernel)]; exact ⟨rfl, rfl⟩))
    (fun os started H enc _ => qnegTakes_lifted os started H enc)

end Go.Proofs.Ytpgmdjdnmipmbaa
