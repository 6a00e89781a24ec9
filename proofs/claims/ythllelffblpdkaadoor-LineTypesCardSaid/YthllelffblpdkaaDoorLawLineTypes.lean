/- farlaw.LineTypes returns true for every input, and each argument reads as it read. -/
import Derived.Test.YthllelffblpdkaaDoorCardBase
import Derived.Test.YthllelffblpdkaaDoorLineY
import Derived.Test.YthllelffblpdkaaDoorSlices
namespace Go.Proofs.YthllelffblpdkaaDoor
open Go Go.RowKit Go.Fw Go.Sx Go.ChangeShapes Go.WideShapes Go.ChangeAt
set_option maxRecDepth 100000
set_option maxHeartbeats 2000000
attribute [local irreducible] SW SL SQ AtQ SV SC BB LD PK Yields SO SOT SOA SY SP SPT SPA

theorem own : ownKnob Tryd.prog.godebug = none := by kernel_rfl
theorem laidOut : laidOutB Tryd.prog = true := by kernel_rfl
abbrev A9 := ByteArray
abbrev en9 : A9 → List Value := fun z => [.string z]
abbrev ok9 : World → A9 → Prop := fun _ z => z.size ≤ maxLen
abbrev bk9 : A9 → Nat := fun z => z.size
theorem tr9 : Tr Tryd.prog 9 A9 en9 ok9 bk9 := Tr.str Tryd.underlying9 (by kernel_rfl)
abbrev A4 := Bool
abbrev en4 : A4 → List Value := fun z => [.bool z]
abbrev ok4 : World → A4 → Prop := fun _ _ => True
abbrev bk4 : A4 → Nat := fun _ => 0
theorem tr4 : Tr Tryd.prog 4 A4 en4 ok4 bk4 := Tr.bool Tryd.underlying4 (by kernel_rfl)
abbrev A97 := (A9) × (A4)
abbrev en97 : A97 → List Value := fun p => en9 p.1 ++ (en4 p.2)
abbrev ok97 : World → A97 → Prop := fun W p => ok9 W p.1 ∧ ok4 W p.2
abbrev bk97 : A97 → Nat := fun p => bk9 p.1 + (bk4 p.2)
theorem tr97 : Tr Tryd.prog 97 A97 en97 ok97 bk97 := Tr.struct (l := [(0, 9), (1, 4)]) (n := 2) (TrS.cons (o := 0) (o' := 1) (n := 2) tr9 (by kernel_rfl) (TrS.one (o := 1) (n := 2) tr4 (by kernel_rfl))) Tryd.underlying97 (by kernel_rfl) (by kernel_rfl)
abbrev A5 := Int
abbrev en5 : A5 → List Value := fun z => [.int .u8 z]
abbrev ok5 : World → A5 → Prop := fun _ z => (Lit.int .u8 z).wf = true
abbrev bk5 : A5 → Nat := fun _ => 0
theorem tr5 : Tr Tryd.prog 5 A5 en5 ok5 bk5 := Tr.int Tryd.underlying5 (by kernel_rfl)
abbrev A92 := {L : List A5 // L.length = 19}
abbrev en92 : A92 → List Value := fun L => L.1.flatMap en5
abbrev ok92 : World → A92 → Prop := fun W L => ∀ y ∈ L.1, ok5 W y
abbrev bk92 : A92 → Nat := fun _ => 0
theorem tr92 : Tr Tryd.prog 92 A92 en92 ok92 bk92 := Tr.array tr5 Tryd.underlying92 (by kernel_rfl)
abbrev A94 := (A92) × (A92)
abbrev en94 : A94 → List Value := fun p => en92 p.1 ++ (en92 p.2)
abbrev ok94 : World → A94 → Prop := fun W p => ok92 W p.1 ∧ ok92 W p.2
abbrev bk94 : A94 → Nat := fun p => bk92 p.1 + (bk92 p.2)
theorem tr94 : Tr Tryd.prog 94 A94 en94 ok94 bk94 := Tr.struct (l := [(0, 92), (19, 92)]) (n := 38) (TrS.cons (o := 0) (o' := 19) (n := 38) tr92 (by kernel_rfl) (TrS.one (o := 19) (n := 38) tr92 (by kernel_rfl))) Tryd.underlying94 (by kernel_rfl) (by kernel_rfl)
abbrev A68 := Int
abbrev en68 : A68 → List Value := fun z => [.int .u64 z]
abbrev ok68 : World → A68 → Prop := fun _ z => (Lit.int .u64 z).wf = true
abbrev bk68 : A68 → Nat := fun _ => 0
theorem tr68 : Tr Tryd.prog 68 A68 en68 ok68 bk68 := Tr.int Tryd.underlying68 (by kernel_rfl)
abbrev A69 := {L : List A68 // L.length = 4}
abbrev en69 : A69 → List Value := fun L => L.1.flatMap en68
abbrev ok69 : World → A69 → Prop := fun W L => ∀ y ∈ L.1, ok68 W y
abbrev bk69 : A69 → Nat := fun _ => 0
theorem tr69 : Tr Tryd.prog 69 A69 en69 ok69 bk69 := Tr.array tr68 Tryd.underlying69 (by kernel_rfl)
abbrev A95 := (A69)
abbrev en95 : A95 → List Value := en69
abbrev ok95 : World → A95 → Prop := ok69
abbrev bk95 : A95 → Nat := bk69
theorem tr95 : Tr Tryd.prog 95 A95 en95 ok95 bk95 := Tr.struct (l := [(0, 69)]) (n := 4) (TrS.one (o := 0) (n := 4) tr69 (by kernel_rfl)) Tryd.underlying95 (by kernel_rfl) (by kernel_rfl)
theorem edSelf (s : ByteArray) (q : Bool) : EqSelf Tryd.prog 10000 97 (.agg [.string s, .bool q].toArray) := by
  have hfs : Tryd.prog.fieldsOf 97 = (match Tryd.prog.underlying 97 with | some (.struct fs) => fs | _ => #[]) := rfl
  refine eqself_struct (d := 9999) (by rw [hfs, Tryd.underlying97]) (by kernel_rfl) ?_
  rw [hfs, Tryd.underlying97]
  exact List.forall_mem_cons.2 ⟨⟨by decide, .string s, part_one rfl, eqself_str _⟩, List.forall_mem_cons.2 ⟨⟨by decide, .bool q, part_one rfl, eqself_bool _ Tryd.underlying4⟩, fun f hf => by cases hf⟩⟩
theorem eqStrsB_sv (G : Ctx) (H : List Ent) (xs : List ByteArray) (a1 a2 : Option Addr) (n1 n2 c1 c2 : Nat) [h1 : RdC G H a1 (Fw.strs xs)] [h2 : RdC G H a2 (Fw.strs xs)] (hn1 : n1 = xs.length) (hn2 : n2 = xs.length) (hm : xs.length ≤ maxLen) :
    SV Tryd.prog G 49 [.slice a1 n1 c1, .slice a2 n2 c2] H (.bool true) := by
  have h : ∀ w, Holds G H w → Calls Tryd.prog 49 #[.slice a1 n1 c1, .slice a2 n2 c2] w fun e w' => e = .returned (.bool (decide (xs = xs))) ∧ Below w.heap.size w w' := fun w hw => eqStrs_any xs xs a1 a2 n1 n2 c1 c2 w hn1 hn2 hm hm (h1.here w hw) (h2.here w hw)
  rw [show decide (xs = xs) = true from by simp] at h
  exact sv_of_calls (callee_of Tryd.func49 rfl rfl) h
theorem lineU_len (L V : List Int) (s0 : ByteArray) (q : Bool) (s : ByteArray) : (lineU L V s0 q s).1.2.2.1.length ≤ 4096 := by
  unfold lineU
  split
  · exact Nat.zero_le _
  · split
    · exact Nat.zero_le _
    · split
      · exact Nat.zero_le _
      · have h := (typeU_ok L V s0 q s (by omega) s.size (Nat.le_refl _)).2.1
        rw [show (nums s).take s.size = nums s from by rw [← nums_length]; exact List.take_length] at h
        exact Nat.le_trans h (by omega)
theorem lineTypes_sv (G : Ctx) (L V : List Int) (hL : L.length = 38) (ho : ∀ x ∈ L, Oct x) (hV : W64 V) (s0 : ByteArray) (q : Bool) (s : ByteArray) : SV Tryd.prog G 11 [.agg #[.string s0, .bool q], keysV L, maskV V, .string s] [] (.bool true) := by
  have c1 := fun H => lineType_sc G H L V hL ho hV s0 q s
  have c2 := fun H => typing_sc G H L V hL ho hV s0 q s
  have c3 := fun H => lineCheck_sv G H s0 q
  have hl := lineU_len L V s0 q s
  generalize lineU L V s0 q s = R at *
  obtain ⟨⟨r1, r2, r3, r4⟩, r5⟩ := R
  unfold lineV at c1 c2
  dsimp only at c1 c2 hl
  have c4 := fun H a1 a2 k1 k2 h1 h2 => eqStrsB_sv G H r3 a1 a2 r3.length r3.length k1 k2 (h1 := h1) (h2 := h2) rfl rfl (by unfold maxLen; omega)
  have hs := edSelf r1 r2
  have hkb := keys_b L hL
  have hmb : Nat.beq (wdL V).length 4 = true := by rw [wdL_len, hV.1]; rfl
  clear hl hL ho hV
  by_cases h : 1024 ≤ s0.size
  · rw [if_pos h] at c3
    refine sv_enter4 Tryd.func11 rfl rfl rfl rfl rfl ?_
    repeat' (first | (apply g_sl; first | (apply ks_nil; refine sl_nil ?_) | (apply ks_move; refine s_move rfl rfl ?_) | (apply ks_bin; refine s_bin rfl rfl rfl ?_; first | first | (refine s_load rfl rfl ?_; first | refine ld_whole hkb ?_ | refine ld_whole hmb ?_) | (first | refine bb_of rfl ?_)) | (apply ks_load; first | (refine s_load rfl rfl ?_; first | refine ld_cell rfl ?_ | refine ld_whole rfl ?_ | refine ld_elem rfl ?_ | refine ld_part rfl rfl ?_) | first | (refine s_load rfl rfl ?_; first | refine ld_whole hkb ?_ | refine ld_whole hmb ?_)) | (apply ks_asgn; refine s_asgn rfl rfl ?_) | (apply ks_pick; refine s_pick rfl rfl ?_; first | (apply kp_t; refine pk_t rfl ?_) | (apply kp_f; refine pk_f rfl ?_) | refine pk_s rfl rfl ?_) | (apply ks_field; first | refine s_field (c_field0 rfl rfl) rfl ?_ | refine s_field (c_field rfl rfl) rfl ?_) | (apply ks_extr; refine s_extr (y_extract rfl rfl rfl) rfl ?_) | (apply ks_fn; first | first | (refine c_call rfl rfl rfl (c1 _) rfl rfl ?_; rintro _ _ ⟨a5, k5, rfl, rfl⟩) | (refine c_call rfl rfl rfl (c2 _) rfl rfl ?_; rintro _ _ ⟨a6, k6, rfl, rfl⟩)) | (apply ks_bi; first | first | (refine s_load rfl rfl ?_; first | refine ld_whole hkb ?_ | refine ld_whole hmb ?_) | refine s_call (c_len rfl rfl) rfl ?_ | refine s_call (c_len_str rfl rfl) rfl ?_ | refine s_call (c_bi rfl rfl rfl rfl) rfl ?_ | refine c_append rfl rfl rfl rfl (by first | rfl | simp [ints]) (by first | rfl | exact ints_one _ | exact octs_one _ | exact strs_one _) (by omega) rfl rfl (fun _ _ => ?_) | refine c_append_nil rfl rfl rfl rfl (by first | rfl | simp [ints]) (by first | rfl | exact ints_one _ | exact octs_one _ | exact strs_one _) (by omega) rfl rfl (fun _ _ => ?_)) | (apply ks_store; first | first | refine c_store rfl rfl rfl rfl rfl rfl rfl ?_ | refine c_storew rfl rfl rfl rfl rfl rfl rfl rfl ?_ | refine c_storee rfl rfl rfl rfl rfl (by omega) rfl ?_ | first | (refine s_load rfl rfl ?_; first | refine ld_whole hkb ?_ | refine ld_whole hmb ?_)) | (apply ks_box; refine c_box rfl rfl rfl rfl rfl rfl (fun _ => ?_)) | (apply ks_alloc; refine c_alloc rfl rfl rfl rfl (fun _ => ?_)) | (apply ks_guard; first | (refine sl_gd rfl rfl rfl rfl ?_; first | (apply gd_t) | (apply gd_ft) | (apply gd_tf) | (apply gd_dec_t <;> intro hq <;> (try (exfalso; omega))) | (apply gd_dec_f <;> intro hq <;> (try (exfalso; omega))) | (apply gd_beq_t <;> intro hq <;> (try (exfalso; omega))) | (apply gd_beq_f <;> intro hq <;> (try (exfalso; omega))) | (apply gd_bne_t <;> intro hq <;> (try (exfalso; omega))) | (apply gd_bne_f <;> intro hq <;> (try (exfalso; omega))) | (apply gd_not_t <;> intro hq) | (apply gd_not_f <;> intro hq) | (apply gd_raw_t <;> intro hq) | (apply gd_raw_f <;> intro hq)) | refine sl_skip_u rfl rfl rfl rfl rfl rfl ?_) | first | (refine s_load rfl rfl ?_; first | refine ld_whole hkb ?_ | refine ld_whole hmb ?_)) | (apply g_sq; first | (apply kq_nil; refine sq_nil ?_) | (apply kq_move; refine q_move rfl rfl ?_) | (apply kq_bin; refine q_bin rfl rfl rfl ?_; first | first | (refine bb_self hs (by kernel_rfl) ?_) | (refine bb_seq ?_) | (first | refine bb_of rfl ?_)) | (apply kq_load; first | (refine q_load rfl rfl ?_; first | refine ld_cell rfl ?_ | refine ld_whole rfl ?_ | refine ld_elem rfl ?_ | refine ld_part rfl rfl ?_) | first | (refine bb_self hs (by kernel_rfl) ?_) | (refine bb_seq ?_)) | (apply kq_asgn; refine q_asgn rfl rfl ?_) | (apply kq_pick; refine q_pick rfl rfl ?_; first | (apply kp_t; refine pk_t rfl ?_) | (apply kp_f; refine pk_f rfl ?_) | refine pk_s rfl rfl ?_) | (apply kq_field; first | refine q_field (c_field0 rfl rfl) rfl ?_ | refine q_field (c_field rfl rfl) rfl ?_) | (apply kq_extr; refine q_extr (y_extract rfl rfl rfl) rfl ?_) | (apply kq_fn; first | first | refine c_callq rfl rfl rfl (c3 _) rfl rfl ?_ | refine c_callq rfl rfl rfl (c4 _ _ _ _ _ inferInstance inferInstance) rfl rfl ?_) | (apply kq_bi; first | first | (refine bb_self hs (by kernel_rfl) ?_) | (refine bb_seq ?_) | refine q_call (c_len rfl rfl) rfl ?_ | refine q_call (c_len_str rfl rfl) rfl ?_) | (apply kq_guard; first | (refine sq_gd rfl rfl rfl rfl ?_; first | (apply gd_t) | (apply gd_ft) | (apply gd_tf) | (apply gd_dec_t <;> intro hq <;> (try (exfalso; omega))) | (apply gd_dec_f <;> intro hq <;> (try (exfalso; omega))) | (apply gd_beq_t <;> intro hq <;> (try (exfalso; omega))) | (apply gd_beq_f <;> intro hq <;> (try (exfalso; omega))) | (apply gd_bne_t <;> intro hq <;> (try (exfalso; omega))) | (apply gd_bne_f <;> intro hq <;> (try (exfalso; omega))) | (apply gd_not_t <;> intro hq) | (apply gd_not_f <;> intro hq) | (apply gd_raw_t <;> intro hq) | (apply gd_raw_f <;> intro hq)) | refine sq_skip_u rfl rfl rfl rfl rfl rfl ?_) | first | (refine bb_self hs (by kernel_rfl) ?_) | (refine bb_seq ?_)) | (apply sw_seq) | (apply at_srd) | (apply sw_skip) | (apply sw_ret) | (apply sw_exit) | (apply sw_block) | (apply sw_region) | (refine sw_cd rfl ?_; first | (apply gd_t) | (apply gd_ft) | (apply gd_tf) | (apply gd_dec_t <;> intro hq <;> (try (exfalso; omega))) | (apply gd_dec_f <;> intro hq <;> (try (exfalso; omega))) | (apply gd_beq_t <;> intro hq <;> (try (exfalso; omega))) | (apply gd_beq_f <;> intro hq <;> (try (exfalso; omega))) | (apply gd_bne_t <;> intro hq <;> (try (exfalso; omega))) | (apply gd_bne_f <;> intro hq <;> (try (exfalso; omega))) | (apply gd_not_t <;> intro hq) | (apply gd_not_f <;> intro hq) | (apply gd_raw_t <;> intro hq) | (apply gd_raw_f <;> intro hq)) | (apply at_thn) | (apply at_thn_ret) | (apply at_thn_exit) | (apply at_inb) | (apply at_inb_ret) | (apply at_inb_exit) | refine at_inb_pass rfl ?_ | refine c_drawn (by kernel_rfl) ?_)
    all_goals first | exact absurd rfl (by assumption) | (exfalso; omega) | (exact absurd (by simp; omega) hq) | (refine e_sv (by first | exact .inl rfl | exact .inr rfl) rfl (List.nil_sublist _) ?_; simp [resV])
  · rw [if_neg h] at c3
    refine sv_enter4 Tryd.func11 rfl rfl rfl rfl rfl ?_
    repeat' (first | (apply g_sl; first | (apply ks_nil; refine sl_nil ?_) | (apply ks_move; refine s_move rfl rfl ?_) | (apply ks_bin; refine s_bin rfl rfl rfl ?_; first | first | (refine s_load rfl rfl ?_; first | refine ld_whole hkb ?_ | refine ld_whole hmb ?_) | (first | refine bb_of rfl ?_)) | (apply ks_load; first | (refine s_load rfl rfl ?_; first | refine ld_cell rfl ?_ | refine ld_whole rfl ?_ | refine ld_elem rfl ?_ | refine ld_part rfl rfl ?_) | first | (refine s_load rfl rfl ?_; first | refine ld_whole hkb ?_ | refine ld_whole hmb ?_)) | (apply ks_asgn; refine s_asgn rfl rfl ?_) | (apply ks_pick; refine s_pick rfl rfl ?_; first | (apply kp_t; refine pk_t rfl ?_) | (apply kp_f; refine pk_f rfl ?_) | refine pk_s rfl rfl ?_) | (apply ks_field; first | refine s_field (c_field0 rfl rfl) rfl ?_ | refine s_field (c_field rfl rfl) rfl ?_) | (apply ks_extr; refine s_extr (y_extract rfl rfl rfl) rfl ?_) | (apply ks_fn; first | first | (refine c_call rfl rfl rfl (c1 _) rfl rfl ?_; rintro _ _ ⟨a5, k5, rfl, rfl⟩) | (refine c_call rfl rfl rfl (c2 _) rfl rfl ?_; rintro _ _ ⟨a6, k6, rfl, rfl⟩)) | (apply ks_bi; first | first | (refine s_load rfl rfl ?_; first | refine ld_whole hkb ?_ | refine ld_whole hmb ?_) | refine s_call (c_len rfl rfl) rfl ?_ | refine s_call (c_len_str rfl rfl) rfl ?_ | refine s_call (c_bi rfl rfl rfl rfl) rfl ?_ | refine c_append rfl rfl rfl rfl (by first | rfl | simp [ints]) (by first | rfl | exact ints_one _ | exact octs_one _ | exact strs_one _) (by omega) rfl rfl (fun _ _ => ?_) | refine c_append_nil rfl rfl rfl rfl (by first | rfl | simp [ints]) (by first | rfl | exact ints_one _ | exact octs_one _ | exact strs_one _) (by omega) rfl rfl (fun _ _ => ?_)) | (apply ks_store; first | first | refine c_store rfl rfl rfl rfl rfl rfl rfl ?_ | refine c_storew rfl rfl rfl rfl rfl rfl rfl rfl ?_ | refine c_storee rfl rfl rfl rfl rfl (by omega) rfl ?_ | first | (refine s_load rfl rfl ?_; first | refine ld_whole hkb ?_ | refine ld_whole hmb ?_)) | (apply ks_box; refine c_box rfl rfl rfl rfl rfl rfl (fun _ => ?_)) | (apply ks_alloc; refine c_alloc rfl rfl rfl rfl (fun _ => ?_)) | (apply ks_guard; first | (refine sl_gd rfl rfl rfl rfl ?_; first | (apply gd_t) | (apply gd_ft) | (apply gd_tf) | (apply gd_dec_t <;> intro hq <;> (try (exfalso; omega))) | (apply gd_dec_f <;> intro hq <;> (try (exfalso; omega))) | (apply gd_beq_t <;> intro hq <;> (try (exfalso; omega))) | (apply gd_beq_f <;> intro hq <;> (try (exfalso; omega))) | (apply gd_bne_t <;> intro hq <;> (try (exfalso; omega))) | (apply gd_bne_f <;> intro hq <;> (try (exfalso; omega))) | (apply gd_not_t <;> intro hq) | (apply gd_not_f <;> intro hq) | (apply gd_raw_t <;> intro hq) | (apply gd_raw_f <;> intro hq)) | refine sl_skip_u rfl rfl rfl rfl rfl rfl ?_) | first | (refine s_load rfl rfl ?_; first | refine ld_whole hkb ?_ | refine ld_whole hmb ?_)) | (apply g_sq; first | (apply kq_nil; refine sq_nil ?_) | (apply kq_move; refine q_move rfl rfl ?_) | (apply kq_bin; refine q_bin rfl rfl rfl ?_; first | first | (refine bb_self hs (by kernel_rfl) ?_) | (refine bb_seq ?_) | (first | refine bb_of rfl ?_)) | (apply kq_load; first | (refine q_load rfl rfl ?_; first | refine ld_cell rfl ?_ | refine ld_whole rfl ?_ | refine ld_elem rfl ?_ | refine ld_part rfl rfl ?_) | first | (refine bb_self hs (by kernel_rfl) ?_) | (refine bb_seq ?_)) | (apply kq_asgn; refine q_asgn rfl rfl ?_) | (apply kq_pick; refine q_pick rfl rfl ?_; first | (apply kp_t; refine pk_t rfl ?_) | (apply kp_f; refine pk_f rfl ?_) | refine pk_s rfl rfl ?_) | (apply kq_field; first | refine q_field (c_field0 rfl rfl) rfl ?_ | refine q_field (c_field rfl rfl) rfl ?_) | (apply kq_extr; refine q_extr (y_extract rfl rfl rfl) rfl ?_) | (apply kq_fn; first | first | refine c_callq rfl rfl rfl (c3 _) rfl rfl ?_ | refine c_callq rfl rfl rfl (c4 _ _ _ _ _ inferInstance inferInstance) rfl rfl ?_) | (apply kq_bi; first | first | (refine bb_self hs (by kernel_rfl) ?_) | (refine bb_seq ?_) | refine q_call (c_len rfl rfl) rfl ?_ | refine q_call (c_len_str rfl rfl) rfl ?_) | (apply kq_guard; first | (refine sq_gd rfl rfl rfl rfl ?_; first | (apply gd_t) | (apply gd_ft) | (apply gd_tf) | (apply gd_dec_t <;> intro hq <;> (try (exfalso; omega))) | (apply gd_dec_f <;> intro hq <;> (try (exfalso; omega))) | (apply gd_beq_t <;> intro hq <;> (try (exfalso; omega))) | (apply gd_beq_f <;> intro hq <;> (try (exfalso; omega))) | (apply gd_bne_t <;> intro hq <;> (try (exfalso; omega))) | (apply gd_bne_f <;> intro hq <;> (try (exfalso; omega))) | (apply gd_not_t <;> intro hq) | (apply gd_not_f <;> intro hq) | (apply gd_raw_t <;> intro hq) | (apply gd_raw_f <;> intro hq)) | refine sq_skip_u rfl rfl rfl rfl rfl rfl ?_) | first | (refine bb_self hs (by kernel_rfl) ?_) | (refine bb_seq ?_)) | (apply sw_seq) | (apply at_srd) | (apply sw_skip) | (apply sw_ret) | (apply sw_exit) | (apply sw_block) | (apply sw_region) | (refine sw_cd rfl ?_; first | (apply gd_t) | (apply gd_ft) | (apply gd_tf) | (apply gd_dec_t <;> intro hq <;> (try (exfalso; omega))) | (apply gd_dec_f <;> intro hq <;> (try (exfalso; omega))) | (apply gd_beq_t <;> intro hq <;> (try (exfalso; omega))) | (apply gd_beq_f <;> intro hq <;> (try (exfalso; omega))) | (apply gd_bne_t <;> intro hq <;> (try (exfalso; omega))) | (apply gd_bne_f <;> intro hq <;> (try (exfalso; omega))) | (apply gd_not_t <;> intro hq) | (apply gd_not_f <;> intro hq) | (apply gd_raw_t <;> intro hq) | (apply gd_raw_f <;> intro hq)) | (apply at_thn) | (apply at_thn_ret) | (apply at_thn_exit) | (apply at_inb) | (apply at_inb_ret) | (apply at_inb_exit) | refine at_inb_pass rfl ?_ | refine c_drawn (by kernel_rfl) ?_)
    all_goals first | exact absurd rfl (by assumption) | (exfalso; omega) | (exact absurd (by simp; omega) hq) | (refine e_sv (by first | exact .inl rfl | exact .inr rfl) rfl (List.nil_sublist _) ?_; simp [resV])
theorem lineTypes_walk (W : World) (y0 : A97) (o0 : ok97 W y0) (y1 : A94) (o1 : ok94 W y1) (y2 : A95) (o2 : ok95 W y2) (y3 : A9) (o3 : ok9 W y3) (_ : laidMetH Tryd.prog Rows.lineTypesRow.laid W) (_ : W.ShapedOpen Tryd.prog) : Calls Tryd.prog 11 #[.agg (en97 y0).toArray, .agg (en94 y1).toArray, .agg (en95 y2).toArray, .string y3] W fun e w' => e = .returned (.bool true) ∧ Below W.heap.size W w' := by
  obtain ⟨s0, q⟩ := y0
  obtain ⟨⟨l1, h1⟩, ⟨l2, h2⟩⟩ := y1
  obtain ⟨V, hV⟩ := y2
  have e : V.flatMap (fun z => [Value.int .u64 z]) = wdL V := fm_map (Value.int .u64) V
  have h64 : ∀ x ∈ V, 0 ≤ x ∧ x ≤ 18446744073709551615 := fun x hx => u64_bounds (o2 x hx)
  have e1 : l1.flatMap (fun z => [Value.int .u8 z]) = octs l1 := fm_map (Value.int .u8) l1
  have e2 : l2.flatMap (fun z => [Value.int .u8 z]) = octs l2 := fm_map (Value.int .u8) l2
  have e3 : octs l1 ++ octs l2 = octs (l1 ++ l2) := by simp [octs]
  have ho : ∀ x ∈ l1 ++ l2, Oct x := fun x hx => by
    rcases List.mem_append.1 hx with h | h
    · exact u8_bounds (o1.1 x h)
    · exact u8_bounds (o1.2 x h)
  have h9 := calls_of_sv (lineTypes_sv ⟨W.heap.size, W⟩ (l1 ++ l2) V (by rw [List.length_append, h1, h2]) ho ⟨hV, h64⟩ s0 q y3)
  show Calls Tryd.prog 11 #[.agg #[.string s0, .bool q], .agg (l1.flatMap (fun z => [Value.int .u8 z]) ++ l2.flatMap (fun z => [Value.int .u8 z])).toArray, .agg (V.flatMap (fun z => [Value.int .u64 z])).toArray, .string y3] W _
  rw [e, e1, e2, e3]
  exact h9

set_option maxRecDepth 100000 in
theorem lineTypes_law {H : Type} (enc : TypeId × Value → H) (W : World) {base : Nat} {v0 v1 v2 v3 : Value} {d0 d1 d2 d3 : DataW H} {p0 p1 p2 p3 : List MemPlace}
    (k0 : Value.okWide Tryd.prog W .any base 97 v0) (h0 : DataW.Trod enc Tryd.prog W 0 (fun _ => true) true 97 v0 d0 p0)
    (k1 : Value.okWide Tryd.prog W .any base 94 v1) (h1 : DataW.Trod enc Tryd.prog W 0 (fun _ => true) true 94 v1 d1 p1)
    (k2 : Value.okWide Tryd.prog W .any base 95 v2) (h2 : DataW.Trod enc Tryd.prog W 0 (fun _ => true) true 95 v2 d2 p2)
    (k3 : Value.okWide Tryd.prog W .any base 9 v3) (h3 : DataW.Trod enc Tryd.prog W 0 (fun _ => true) true 9 v3 d3 p3)
    (hL : laidMetH Tryd.prog Rows.lineTypesRow.laid W) (hS : W.ShapedOpen Tryd.prog)
    : Calls Tryd.prog 11 #[v0, v1, v2, v3] W fun e w' => e = .returned (.bool true) ∧ Below W.heap.size W w' := by
  obtain ⟨y0, rfl, o0, b0⟩ := tr_agg Tryd.underlying97 tr97 k0 h0
  obtain ⟨y1, rfl, o1, b1⟩ := tr_agg Tryd.underlying94 tr94 k1 h1
  obtain ⟨y2, rfl, o2, b2⟩ := tr_agg Tryd.underlying95 tr95 k2 h2
  obtain ⟨y3, rfl, o3, b3⟩ := tr_str Tryd.underlying9 tr9 k3 h3
  exact lineTypes_walk W y0 o0 y1 o1 y2 o2 y3 o3 hL hS

set_option maxRecDepth 100000 in
theorem lineTypes_contract (H : Type) (enc : TypeId × Value → H) (W : World) (base : Nat) (args : Array Value) (ds gs : List (DataW H)) (before : List MemPlace)
    (hval : ∀ (j : Nat) t v, Tryd.f11.params[j]? = some t → args[j]? = some v → Value.okWide Tryd.prog W .any base t v)
    (hW : DataW.Whole enc Tryd.prog Tryd.f11.params.toList Rows.lineTypesSpec.vars false W args.toList ds gs before) (hL : laidMetH Tryd.prog Rows.lineTypesRow.laid W) (hS : W.ShapedOpen Tryd.prog) :
    Calls Tryd.prog 11 args W fun e W' => ∃ v, e = .returned v ∧ Rows.lineTypesSpec.post enc Tryd.prog Tryd.f11 false true false false W args v W' := by
  have hW' := hW
  obtain ⟨p, q, hA0, hV, rfl, hfz, hnd⟩ := hW'
  have hA : DataW.TrodAll enc Tryd.prog W 0 (fun _ => true) true Tryd.f11.params.toList args.toList ds p := hA0
  rw [Tryd.params11] at hA hval
  obtain ⟨v0, vs0, d0, ds0, p0, q0, hargs, rfl, rfl, h0, r0⟩ := trodAll_cons hA
  obtain ⟨v1, vs1, d1, ds1, p1, q1, rfl, rfl, rfl, h1, r1⟩ := trodAll_cons r0
  obtain ⟨v2, vs2, d2, ds2, p2, q2, rfl, rfl, rfl, h2, r2⟩ := trodAll_cons r1
  obtain ⟨v3, vs3, d3, ds3, p3, q3, rfl, rfl, rfl, h3, r3⟩ := trodAll_cons r2
  obtain ⟨rfl, rfl, rfl⟩ := trodAll_nil r3
  obtain rfl : args = #[v0, v1, v2, v3] := by cases args; simp_all
  obtain ⟨rfl, rfl⟩ := trodVars_none hV
  clear hA0
  have k0 := hval 0 97 v0 rfl rfl
  have k1 := hval 1 94 v1 rfl rfl
  have k2 := hval 2 95 v2 rfl rfl
  have k3 := hval 3 9 v3 rfl rfl
  refine (lineTypes_law enc W k0 h0 k1 h1 k2 h2 k3 h3 hL hS).mono fun e W' ⟨he, hg⟩ => ?_
  subst he
  exact ⟨_, rfl, law_post (s := Rows.lineTypesSpec) laidOut (by kernel_rfl) rfl Tryd.underlying4 rfl hW rfl hg⟩

noncomputable def lineTypes_world (os : Os) : World := { World.holding Tryd.prog os ⟨#[], #[], []⟩ with heap := (((World.holding Tryd.prog os ⟨#[], #[], []⟩).heap.modify 1 fun | .cells _ t frozen => .cells (dCells Rows.laid_unicode_utf8_acceptRanges).toArray t frozen | o => o).modify 0 fun | .cells _ t frozen => .cells (dCells Rows.laid_unicode_utf8_first).toArray t frozen | o => o) }
theorem lineTypes_met (os : Os) : laidMet Tryd.prog Rows.lineTypesRow.laid ((lineTypes_world os).forCall (fun _ _ => 0) ⟨#[], #[.agg #[.string .empty, .bool false], .agg (List.toArray (.int .u8 0 :: .int .u8 0 :: .int .u8 0 :: .int .u8 0 :: .int .u8 0 :: .int .u8 0 :: .int .u8 0 :: .int .u8 0 :: .int .u8 0 :: .int .u8 0 :: .int .u8 0 :: .int .u8 0 :: .int .u8 0 :: .int .u8 0 :: .int .u8 0 :: .int .u8 0 :: .int .u8 0 :: .int .u8 0 :: .int .u8 0 :: .int .u8 0 :: .int .u8 0 :: .int .u8 0 :: .int .u8 0 :: .int .u8 0 :: .int .u8 0 :: .int .u8 0 :: .int .u8 0 :: .int .u8 0 :: .int .u8 0 :: .int .u8 0 :: .int .u8 0 :: .int .u8 0 :: .int .u8 0 :: .int .u8 0 :: .int .u8 0 :: .int .u8 0 :: .int .u8 0 :: .int .u8 0 :: [])), .agg #[.int .u64 0, .int .u64 0, .int .u64 0, .int .u64 0], .string .empty], []⟩).memory := laidMet_of_run' 12 (by kernel_rfl) (by kernel_rfl)
theorem lineTypes_reads (os : Os) {H : Type} (enc : TypeId × Value → H) : ∃ places, DataW.whole enc Tryd.prog ((lineTypes_world os).forCall (fun _ _ => 0) ⟨#[], #[.agg #[.string .empty, .bool false], .agg (List.toArray (.int .u8 0 :: .int .u8 0 :: .int .u8 0 :: .int .u8 0 :: .int .u8 0 :: .int .u8 0 :: .int .u8 0 :: .int .u8 0 :: .int .u8 0 :: .int .u8 0 :: .int .u8 0 :: .int .u8 0 :: .int .u8 0 :: .int .u8 0 :: .int .u8 0 :: .int .u8 0 :: .int .u8 0 :: .int .u8 0 :: .int .u8 0 :: .int .u8 0 :: .int .u8 0 :: .int .u8 0 :: .int .u8 0 :: .int .u8 0 :: .int .u8 0 :: .int .u8 0 :: .int .u8 0 :: .int .u8 0 :: .int .u8 0 :: .int .u8 0 :: .int .u8 0 :: .int .u8 0 :: .int .u8 0 :: .int .u8 0 :: .int .u8 0 :: .int .u8 0 :: .int .u8 0 :: .int .u8 0 :: [])), .agg #[.int .u64 0, .int .u64 0, .int .u64 0, .int .u64 0], .string .empty], []⟩).memory Tryd.f11.params.toList Rows.lineTypesSpec.vars false (#[.agg #[.string .empty, .bool false], .agg (List.toArray (.int .u8 0 :: .int .u8 0 :: .int .u8 0 :: .int .u8 0 :: .int .u8 0 :: .int .u8 0 :: .int .u8 0 :: .int .u8 0 :: .int .u8 0 :: .int .u8 0 :: .int .u8 0 :: .int .u8 0 :: .int .u8 0 :: .int .u8 0 :: .int .u8 0 :: .int .u8 0 :: .int .u8 0 :: .int .u8 0 :: .int .u8 0 :: .int .u8 0 :: .int .u8 0 :: .int .u8 0 :: .int .u8 0 :: .int .u8 0 :: .int .u8 0 :: .int .u8 0 :: .int .u8 0 :: .int .u8 0 :: .int .u8 0 :: .int .u8 0 :: .int .u8 0 :: .int .u8 0 :: .int .u8 0 :: .int .u8 0 :: .int .u8 0 :: .int .u8 0 :: .int .u8 0 :: .int .u8 0 :: [])), .agg #[.int .u64 0, .int .u64 0, .int .u64 0, .int .u64 0], .string .empty] : Array Value).toList 12 = some ([.agg [.lit (.string []), .lit (.bool false)], .agg [.agg (.lit (.int .u8 0) :: .lit (.int .u8 0) :: .lit (.int .u8 0) :: .lit (.int .u8 0) :: .lit (.int .u8 0) :: .lit (.int .u8 0) :: .lit (.int .u8 0) :: .lit (.int .u8 0) :: .lit (.int .u8 0) :: .lit (.int .u8 0) :: .lit (.int .u8 0) :: .lit (.int .u8 0) :: .lit (.int .u8 0) :: .lit (.int .u8 0) :: .lit (.int .u8 0) :: .lit (.int .u8 0) :: .lit (.int .u8 0) :: .lit (.int .u8 0) :: .lit (.int .u8 0) :: []), .agg (.lit (.int .u8 0) :: .lit (.int .u8 0) :: .lit (.int .u8 0) :: .lit (.int .u8 0) :: .lit (.int .u8 0) :: .lit (.int .u8 0) :: .lit (.int .u8 0) :: .lit (.int .u8 0) :: .lit (.int .u8 0) :: .lit (.int .u8 0) :: .lit (.int .u8 0) :: .lit (.int .u8 0) :: .lit (.int .u8 0) :: .lit (.int .u8 0) :: .lit (.int .u8 0) :: .lit (.int .u8 0) :: .lit (.int .u8 0) :: .lit (.int .u8 0) :: .lit (.int .u8 0) :: [])], .agg [.agg [.lit (.int .u64 0), .lit (.int .u64 0), .lit (.int .u64 0), .lit (.int .u64 0)]], .lit (.string [])], [], places) := ⟨[], by kernel_rfl⟩
set_option maxRecDepth 100000 in
theorem lineTypes_lifted (os : Os) (started : os.Started) (H : Type) (enc : TypeId × Value → H) (F : Stop.Interp) :
    ReturnsInHanded {} Tryd.checked os 11 .any ((OpenSpec.ofChange Rows.lineTypesSpec).preRow enc Tryd.prog Tryd.f11 Rows.lineTypesRow.domain false Rows.lineTypesRow.laid) (((OpenSpec.ofChange Rows.lineTypesSpec).at F).post enc Tryd.prog Tryd.f11 false true false false) := by
  obtain ⟨places, hx⟩ := lineTypes_reads os enc
  refine returnsInHanded_of_row (C := Tryd.checked) (s := OpenSpec.ofChange Rows.lineTypesSpec) own started (by kernel_rfl) Tryd.func11
    (witness_row_at (enc := enc) (C := Tryd.checked) false (lineTypes_world os) #[.agg #[.string .empty, .bool false], .agg (List.toArray (.int .u8 0 :: .int .u8 0 :: .int .u8 0 :: .int .u8 0 :: .int .u8 0 :: .int .u8 0 :: .int .u8 0 :: .int .u8 0 :: .int .u8 0 :: .int .u8 0 :: .int .u8 0 :: .int .u8 0 :: .int .u8 0 :: .int .u8 0 :: .int .u8 0 :: .int .u8 0 :: .int .u8 0 :: .int .u8 0 :: .int .u8 0 :: .int .u8 0 :: .int .u8 0 :: .int .u8 0 :: .int .u8 0 :: .int .u8 0 :: .int .u8 0 :: .int .u8 0 :: .int .u8 0 :: .int .u8 0 :: .int .u8 0 :: .int .u8 0 :: .int .u8 0 :: .int .u8 0 :: .int .u8 0 :: .int .u8 0 :: .int .u8 0 :: .int .u8 0 :: .int .u8 0 :: .int .u8 0 :: [])), .agg #[.int .u64 0, .int .u64 0, .int .u64 0, .int .u64 0], .string .empty] rfl (by kernel_rfl) (by kernel_rfl) (by kernel_rfl)
      (OpenSpec.preRow_of_cond 12 hx (by kernel_rfl) (fun k hk => by cases hk) (by kernel_rfl) (lineTypes_met os))) ?_
  intro W base args ds gs before hval hW _ _ _ hL hS _
  exact lineTypes_contract H enc W base args ds gs before hval hW hL hS

theorem lineTypes_holds : Rows.LineTypesSaid :=
  OpenClaim.holds_of_cond 11 Tryd.f11 rfl rfl rfl rfl rfl rfl rfl ⟨rfl, rfl, rfl, rfl, rfl⟩ rfl rfl rfl rfl rfl (by kernel_rfl) Tryd.func11 (by kernel_rfl)
    (of_decide_eq_true (by kernel_rfl)) (by unfold Func.isWrapper; first | (rw [if_pos (by decide +kernel)]; kernel_rfl) | (rw [if_neg (by decide +kernel)]; exact ⟨rfl, rfl⟩))
    (fun os started H enc _ F => by rw [OpenClaim.pre_eq_preRow]; exact lineTypes_lifted os started H enc F)
theorem lineTypes_plain (f : FuncId) (fn : Func) (hf : Tryd.pinned.checked.prog.funcNamed "farwriter/farlaw.LineTypes" = some f) (hfn : Tryd.pinned.checked.prog.funcs[f]? = some fn) :
    true = Tryd.pinned.checked.prog.looks [] ∧ ∀ (j : Nat) t, fn.params[j]? = some t → Tryd.pinned.checked.prog.wantsStandIn t = false := by
  obtain rfl : f = 11 := Option.some.inj ((show Tryd.prog.funcNamed "farwriter/farlaw.LineTypes" = some 11 by kernel_rfl).symm.trans hf) |>.symm
  obtain rfl : fn = Tryd.f11 := (Option.some.inj (Tryd.func11.symm.trans hfn)).symm
  refine ⟨by kernel_rfl, fun j t ht => ?_⟩
  rw [Tryd.params11] at ht
  have hm : t ∈ [97, 94, 95, 9] := by simpa using Array.mem_of_getElem? ht
  have hall : ([97, 94, 95, 9].all fun u => !Tryd.prog.wantsStandIn u) = true := by kernel_rfl
  exact (show Tryd.prog.wantsStandIn t = false by simpa using List.all_eq_true.1 hall t hm)
theorem lineTypes_card : Rows.LineTypesCardSaid :=
  Claim7.holds_tied_plain_at .later [] _ _ _ _ lineTypes_holds (fun _ h => by cases h) (by kernel_rfl) (fun _ h => by cases h) lineTypes_row_tie rfl ⟨rfl, rfl⟩ (by kernel_rfl) rfl lineTypes_plain (by kernel_rfl)

end Go.Proofs.YthllelffblpdkaaDoor
