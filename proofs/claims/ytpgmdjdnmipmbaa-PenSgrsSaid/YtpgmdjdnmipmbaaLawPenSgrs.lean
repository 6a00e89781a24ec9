/- farlaw.PenSgrs returns true for every input, and each argument reads as it read. -/
import Derived.Test.YtpgmdjdnmipmbaaLawAgg2
import Derived.Test.YtpgmdjdnmipmbaaLawBase2
import Derived.Test.YtpgmdjdnmipmbaaSgr5
import Derived.Test.YtpgmdjdnmipmbaaSx16
namespace Go.Proofs.Ytpgmdjdnmipmbaa
open Go Go.RowKit Go.Fw Go.Sx Go.ChangeShapes Go.WideShapes Go.ChangeAt
set_option maxRecDepth 100000
set_option maxHeartbeats 1000000
attribute [local irreducible] SW SL SQ AtQ SV SC BB LD PK Yields SO SOT SOA SY

theorem own : ownKnob Try.prog.godebug = none := by kernel_rfl
theorem laidOut : laidOutB Try.prog = true := by kernel_rfl

theorem sgrV_ex (fl fo ba : Int) (L : List Int) : ∃ x y z e, sgrV fl fo ba L = .tuple #[penV x y z, .int .i64 e] := by
  unfold sgrV
  repeat' split
  all_goals exact ⟨_, _, _, _, rfl⟩
theorem penSelf (x y z : Int) : EqSelf Try.prog 10000 69 (penV x y z) := by
  have hfs : Try.prog.fieldsOf 69 = (match Try.prog.underlying 69 with | some (.struct fs) => fs | _ => #[]) := rfl
  refine eqself_struct (d := 9999) (by rw [hfs, Try.underlying69]) (by kernel_rfl) ?_
  rw [hfs, Try.underlying69]
  exact List.forall_mem_cons.2 ⟨⟨by decide, .int .i64 x, part_one rfl, eqself_int _⟩, List.forall_mem_cons.2 ⟨⟨by decide, .int .i64 y, part_one rfl, eqself_int _⟩, List.forall_mem_cons.2 ⟨⟨by decide, .int .i64 z, part_one rfl, eqself_int _⟩, fun f hf => by cases hf⟩⟩⟩
theorem penSgrs_sv (G : Ctx) (fl fo ba : Int) (xs : List Int) (a : Option Addr) (n c : Nat) (hn : n = xs.length) (hc : n ≤ c) (hm : xs.length ≤ maxLen) [ha : ∀ H, RdC G H a (Fw.ints xs)] : SV Try.prog G 10 [penV fl fo ba, .slice a n c] [] (.bool true) := by
  have c1 := fun H => penSgrN_sv G H fl fo ba xs a n c rfl hn hm
  have c2 := fun H => penChangedN_sv G H fl fo ba xs a n c rfl hn hm hc
  have c3 := fun H => penCheck_sv G H fl fo ba
  have c4 := fun H => penRight_sv G H fl fo ba
  obtain ⟨x, y, z, e, hV⟩ := sgrV_ex fl fo ba xs
  rw [hV] at c1 c2
  have hs := penSelf x y z
  generalize (if penB fl fo ba = true then (0 : Int) else 4) = e3 at *
  clear hV hn hc hm
  refine sv_enter2 Try.func10 rfl rfl rfl rfl rfl ?_
  repeat' (first | (apply g_sl; first | (apply ks_nil; refine sl_nil ?_) | (apply ks_move; refine s_move rfl rfl ?_) | (apply ks_bin; refine s_bin rfl rfl rfl ?_; first | fail | (first | refine bb_of rfl ?_)) | (apply ks_load; first | (refine s_load rfl rfl ?_; first | refine ld_cell rfl ?_ | refine ld_whole rfl ?_ | refine ld_elem rfl ?_ | refine ld_part rfl rfl ?_) | fail) | (apply ks_asgn; refine s_asgn rfl rfl ?_) | (apply ks_pick; refine s_pick rfl rfl ?_; first | (apply kp_t; refine pk_t rfl ?_) | (apply kp_f; refine pk_f rfl ?_) | refine pk_s rfl rfl ?_) | (apply ks_extr; refine s_extr (y_extract rfl rfl rfl) rfl ?_) | (apply ks_fn; first | first | refine c_callv rfl rfl rfl (c1 _) rfl rfl ?_ | refine c_callv rfl rfl rfl (c2 _) rfl rfl ?_) | (apply ks_store; first | first | refine c_store rfl rfl rfl rfl rfl rfl rfl ?_ | refine c_storew rfl rfl rfl rfl rfl rfl rfl rfl ?_ | refine c_storee rfl rfl rfl rfl rfl (by omega) rfl ?_ | fail) | (apply ks_box; refine c_box rfl rfl rfl rfl rfl rfl (fun _ => ?_)) | (apply ks_alloc; refine c_alloc rfl rfl rfl rfl (fun _ => ?_)) | (apply ks_guard; first | (refine sl_gd rfl rfl rfl rfl ?_; first | (apply gd_t) | (apply gd_ft) | (apply gd_tf) | (apply gd_dec_t <;> intro hq <;> (try (exfalso; omega))) | (apply gd_dec_f <;> intro hq <;> (try (exfalso; omega))) | (apply gd_beq_t <;> intro hq <;> (try (exfalso; omega))) | (apply gd_beq_f <;> intro hq <;> (try (exfalso; omega))) | (apply gd_bne_t <;> intro hq <;> (try (exfalso; omega))) | (apply gd_bne_f <;> intro hq <;> (try (exfalso; omega))) | (apply gd_not_t <;> intro hq) | (apply gd_not_f <;> intro hq) | (apply gd_raw_t <;> intro hq) | (apply gd_raw_f <;> intro hq)) | refine sl_skip_u rfl rfl rfl rfl rfl rfl ?_) | fail) | (apply g_sq; first | (apply kq_nil; refine sq_nil ?_) | (apply kq_move; refine q_move rfl rfl ?_) | (apply kq_bin; refine q_bin rfl rfl rfl ?_; first | first | (refine bb_self hs (by kernel_rfl) ?_) | (first | refine bb_of rfl ?_)) | (apply kq_load; first | (refine q_load rfl rfl ?_; first | refine ld_cell rfl ?_ | refine ld_whole rfl ?_ | refine ld_elem rfl ?_ | refine ld_part rfl rfl ?_) | first | (refine bb_self hs (by kernel_rfl) ?_)) | (apply kq_asgn; refine q_asgn rfl rfl ?_) | (apply kq_pick; refine q_pick rfl rfl ?_; first | (apply kp_t; refine pk_t rfl ?_) | (apply kp_f; refine pk_f rfl ?_) | refine pk_s rfl rfl ?_) | (apply kq_extr; refine q_extr (y_extract rfl rfl rfl) rfl ?_) | (apply kq_fn; first | first | refine c_callq rfl rfl rfl (c3 _) rfl rfl ?_ | refine c_callq rfl rfl rfl (c4 _) rfl rfl ?_) | (apply kq_guard; first | (refine sq_gd rfl rfl rfl rfl ?_; first | (apply gd_t) | (apply gd_ft) | (apply gd_tf) | (apply gd_dec_t <;> intro hq <;> (try (exfalso; omega))) | (apply gd_dec_f <;> intro hq <;> (try (exfalso; omega))) | (apply gd_beq_t <;> intro hq <;> (try (exfalso; omega))) | (apply gd_beq_f <;> intro hq <;> (try (exfalso; omega))) | (apply gd_bne_t <;> intro hq <;> (try (exfalso; omega))) | (apply gd_bne_f <;> intro hq <;> (try (exfalso; omega))) | (apply gd_not_t <;> intro hq) | (apply gd_not_f <;> intro hq) | (apply gd_raw_t <;> intro hq) | (apply gd_raw_f <;> intro hq)) | refine sq_skip_u rfl rfl rfl rfl rfl rfl ?_) | first | (refine bb_self hs (by kernel_rfl) ?_)) | (apply sw_seq) | (apply at_srd) | (apply sw_skip) | (apply sw_ret) | (apply sw_exit) | (apply sw_block) | (apply sw_region) | (refine sw_cd rfl ?_; first | (apply gd_t) | (apply gd_ft) | (apply gd_tf) | (apply gd_dec_t <;> intro hq <;> (try (exfalso; omega))) | (apply gd_dec_f <;> intro hq <;> (try (exfalso; omega))) | (apply gd_beq_t <;> intro hq <;> (try (exfalso; omega))) | (apply gd_beq_f <;> intro hq <;> (try (exfalso; omega))) | (apply gd_bne_t <;> intro hq <;> (try (exfalso; omega))) | (apply gd_bne_f <;> intro hq <;> (try (exfalso; omega))) | (apply gd_not_t <;> intro hq) | (apply gd_not_f <;> intro hq) | (apply gd_raw_t <;> intro hq) | (apply gd_raw_f <;> intro hq)) | (apply at_thn) | (apply at_thn_ret) | (apply at_thn_exit) | (apply at_inb) | (apply at_inb_ret) | (apply at_inb_exit) | refine at_inb_pass rfl ?_ | refine c_drawn (by kernel_rfl) ?_)
  all_goals first | exact absurd rfl (by assumption) | (refine e_sv (by first | exact .inl rfl | exact .inr rfl) rfl (by repeat (first | exact List.Sublist.refl _ | exact List.nil_sublist _ | refine List.Sublist.cons _ ?_)) ?_; simp [resV])
theorem pen_open {H : Type} {enc : TypeId × Value → H} {W : World} {base : Nat} {v : Value} {d : DataW H} {p : List MemPlace} (k : Value.okWide Try.prog W .any base 69 v) (h : DataW.Trod enc Try.prog W 0 (fun _ => true) true 69 v d p) : ∃ fl fo ba, v = penV fl fo ba := by
  obtain ⟨zs, hz, rfl, -⟩ := open_struct_flat (k := .i64) Try.underlying69 (by kernel_rfl) (fun i f hf => by
    match i, hf with
    | 0, hf | 1, hf | 2, hf => cases hf; exact ⟨rfl, Try.underlying3, by kernel_rfl⟩
    | i + 3, hf => simp at hf) k h
  match zs, hz with
  | [a, b, c], _ => exact ⟨a, b, c, rfl⟩
theorem penSgrs_law {H : Type} (enc : TypeId × Value → H) (W : World) {base : Nat} {v0 v1 : Value} {d0 d1 : DataW H} {p0 p1 : List MemPlace}
    (k0 : Value.okWide Try.prog W .any base 69 v0) (h0 : DataW.Trod enc Try.prog W 0 (fun _ => true) true 69 v0 d0 p0)
    (k1 : Value.okWide Try.prog W .any base 61 v1) (h1 : DataW.Trod enc Try.prog W 0 (fun _ => true) true 61 v1 d1 p1)
    : Calls Try.prog 10 #[v0, v1] W fun e w' => e = .returned (.bool true) ∧ Below W.heap.size W w' := by
  obtain ⟨fl, fo, ba, rfl⟩ : ∃ fl fo ba, v0 = penV fl fo ba := pen_open k0 h0
  obtain ⟨a, xs, ys, c, rfl, hA, -, hl, -, hc⟩ := open_ints_cap Try.underlying61 Try.underlying3 (by kernel_rfl) k1 h1
  haveI : ∀ H, RdC ⟨W.heap.size, W⟩ H a (Fw.ints xs) := fun H => RdC.top hA
  exact calls_of_sv (penSgrs_sv _ fl fo ba xs a _ c rfl hc hl)

set_option maxRecDepth 100000 in
theorem penSgrs_contract (H : Type) (enc : TypeId × Value → H) (W : World) (base : Nat) (args : Array Value) (ds gs : List (DataW H)) (before : List MemPlace)
    (hval : ∀ (j : Nat) t v, Try.f10.params[j]? = some t → args[j]? = some v → Value.okWide Try.prog W .any base t v)
    (hW : DataW.Whole enc Try.prog Try.f10.params.toList Rows.penSgrsSpec.vars false W args.toList ds gs before) :
    Calls Try.prog 10 args W fun e W' => ∃ v, e = .returned v ∧ Rows.penSgrsSpec.post enc Try.prog Try.f10 false true false false W args v W' := by
  have hW' := hW
  obtain ⟨p, q, hA0, hV, rfl, hfz, hnd⟩ := hW
  have hA : DataW.TrodAll enc Try.prog W 0 (fun _ => true) true Try.f10.params.toList args.toList ds p := hA0
  rw [Try.params10] at hA hval
  obtain ⟨v0, vs0, d0, ds0, p0, q0, hargs, rfl, rfl, h0, r0⟩ := trodAll_cons hA
  obtain ⟨v1, vs1, d1, ds1, p1, q1, rfl, rfl, rfl, h1, r1⟩ := trodAll_cons r0
  obtain ⟨rfl, rfl, rfl⟩ := trodAll_nil r1
  obtain rfl : args = #[v0, v1] := by cases args; simp_all
  obtain ⟨rfl, rfl⟩ := trodVars_none hV
  clear hA0
  have k0 := hval 0 69 v0 rfl rfl
  have k1 := hval 1 61 v1 rfl rfl
  refine (penSgrs_law enc W k0 h0 k1 h1).mono fun e W' ⟨he, hg⟩ => ?_
  subst he
  exact ⟨_, rfl, law_post (s := Rows.penSgrsSpec) laidOut (by kernel_rfl) rfl Try.underlying4 rfl hW' rfl hg⟩

set_option maxRecDepth 100000 in
theorem penSgrs_lifted (os : Os) (started : os.Started) (H : Type) (enc : TypeId × Value → H) :
    ReturnsInHanded {} Try.checked os 10 .any (Rows.penSgrsSpec.pre6 enc Try.prog Try.f10 Rows.penSgrsRow.domain false) (Rows.penSgrsSpec.post enc Try.prog Try.f10 false true false false) := by
  refine returnsInHanded_of_change (C := Try.checked) own started (by kernel_rfl) Try.func10
    (ChangeSpec.witness6 (enc := enc) (C := Try.checked) false ⟨#[], #[.agg #[.int .i64 0, .int .i64 0, .int .i64 0], .slice none 0 0], []⟩ 12 (by kernel_rfl) (by kernel_rfl) (by kernel_rfl) (by kernel_rfl)) ?_
  intro W base args ds gs before hval hW _ _
  exact penSgrs_contract H enc W base args ds gs before hval hW

theorem penSgrs_holds : Rows.PenSgrsSaid :=
  OpenClaim.holds_of_wide 10 Try.f10 rfl rfl rfl rfl rfl rfl rfl ⟨rfl, rfl, rfl, rfl, rfl⟩ rfl rfl rfl rfl rfl (by kernel_rfl) Try.func10 (by kernel_rfl)
    (of_decide_eq_true (by kernel_rfl)) (by unfold Func.isWrapper; first | (rw [if_pos (by decide +kernel)]; kernel_rfl) | (rw [if_neg (by decide +kernel)]; exact ⟨rfl, rfl⟩))
    (fun os started H enc _ => penSgrs_lifted os started H enc)

end Go.Proofs.Ytpgmdjdnmipmbaa
