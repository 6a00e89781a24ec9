/- farlaw.TabsSet returns true for every input, and each argument reads as it read. -/
import Derived.Test.YteicfkhaaeoheaaLawTr
import Derived.Test.YteicfkhaaeoheaaTabSet2
import Derived.Test.YteicfkhaaeoheaaPen
import Derived.Test.YteicfkhaaeoheaaSlices
namespace Go.Proofs.Yteicfkhaaeoheaa
open Go Go.RowKit Go.Fw Go.Sx Go.ChangeShapes Go.WideShapes Go.ChangeAt
set_option maxRecDepth 100000
set_option maxHeartbeats 2000000
attribute [local irreducible] SW SL SQ AtQ SV SC BB LD PK Yields SO SOT SOA SY

theorem own : ownKnob Try.prog.godebug = none := by kernel_rfl
theorem laidOut : laidOutB Try.prog = true := by kernel_rfl
abbrev A27 := Int
abbrev en27 : A27 → List Value := fun z => [.int .u64 z]
abbrev ok27 : World → A27 → Prop := fun _ z => (Lit.int .u64 z).wf = true
abbrev bk27 : A27 → Nat := fun _ => 0
theorem tr27 : Tr Try.prog 27 A27 en27 ok27 bk27 := Tr.int Try.underlying27 (by kernel_rfl)
abbrev A28 := {L : List A27 // L.length = 4}
abbrev en28 : A28 → List Value := fun L => L.1.flatMap en27
abbrev ok28 : World → A28 → Prop := fun W L => ∀ y ∈ L.1, ok27 W y
abbrev bk28 : A28 → Nat := fun _ => 0
theorem tr28 : Tr Try.prog 28 A28 en28 ok28 bk28 := Tr.array tr27 Try.underlying28 (by kernel_rfl)
abbrev A30 := (A28)
abbrev en30 : A30 → List Value := en28
abbrev ok30 : World → A30 → Prop := ok28
abbrev bk30 : A30 → Nat := bk28
theorem tr30 : Tr Try.prog 30 A30 en30 ok30 bk30 := Tr.struct (l := [(0, 28)]) (n := 4) (TrS.one (o := 0) (n := 4) tr28 (by kernel_rfl)) Try.underlying30 (by kernel_rfl) (by kernel_rfl)
abbrev A3 := Int
abbrev en3 : A3 → List Value := fun z => [.int .i64 z]
abbrev ok3 : World → A3 → Prop := fun _ z => (Lit.int .i64 z).wf = true
abbrev bk3 : A3 → Nat := fun _ => 0
theorem tr3 : Tr Try.prog 3 A3 en3 ok3 bk3 := Tr.int Try.underlying3 (by kernel_rfl)
abbrev A4 := Bool
abbrev en4 : A4 → List Value := fun z => [.bool z]
abbrev ok4 : World → A4 → Prop := fun _ _ => True
abbrev bk4 : A4 → Nat := fun _ => 0
theorem tr4 : Tr Try.prog 4 A4 en4 ok4 bk4 := Tr.bool Try.underlying4 (by kernel_rfl)
theorem stopsSelf (f : Nat → Nat) : EqSelf Try.prog 10000 30 (.agg (wordsL f).toArray) := by
  have hfs : Try.prog.fieldsOf 30 = (match Try.prog.underlying 30 with | some (.struct fs) => fs | _ => #[]) := rfl
  have harw : EqSelf Try.prog 9999 28 (.agg (wordsL f).toArray) :=
    eqself_arr (n := 4) (e := 27) (by kernel_rfl) fun j hj => ⟨_, wordsL_at f j hj, eqself_int _⟩
  refine eqself_struct (d := 9999) (by rw [hfs, Try.underlying30]) (by kernel_rfl) ?_
  rw [hfs, Try.underlying30]
  exact List.forall_mem_cons.2 ⟨⟨by decide, .agg (wordsL f).toArray, part_agg (sz := 4) rfl, harw⟩, fun f hf => by cases hf⟩
theorem eqI3_sv (G : Ctx) (H : List Ent) (L : List Int) (a a2 : Option Addr) (n m c c2 : Nat) {vs us : List Value} [h1 : RdC G H a vs] [h2 : RdC G H a2 us] (hv : vs = Go.Fw.ints L) (hu : us = Go.Fw.ints L) (hn : n = L.length) (hn2 : m = L.length) (hm : L.length ≤ maxLen) : SV Try.prog G 16 [.slice a n c, .slice a2 m c2] H (.bool true) := by
  subst hv
  subst hu
  have h : ∀ w, Holds G H w → Calls Try.prog 16 #[.slice a n c, .slice a2 m c2] w fun e w' => e = .returned (.bool (decide (L = L))) ∧ Below w.heap.size w w' := fun w hw => eqInts_any L L a a2 _ _ c c2 w hn hn2 hm hm (h1.here w hw) (h2.here w hw)
  rw [decide_eq_true rfl] at h
  exact sv_of_calls (callee_of Try.func16 rfl rfl) h
theorem tabsSet_sv (G : Ctx) (f : Nat → Nat) (hf : Wf f) (col : Int) (on : Bool) : SV Try.prog G 7 [.agg (wordsL f).toArray, .int .i64 col, .bool on] [] (.bool true) := by
  obtain ⟨r, e0, c1, hno, hyes⟩ : ∃ (r : Nat → Nat) (e0 : Int), (∀ H, SV Try.prog G 26 [.agg (wordsL f).toArray, .int .i64 col, .bool on] H (.tuple #[.agg (wordsL r).toArray, .int .i64 e0])) ∧ (¬ (0 ≤ col ∧ col ≤ 255) → r = f ∧ e0 = 1) ∧ (0 ≤ col ∧ col ≤ 255 → Wf r ∧ e0 = 0 ∧ (maskTo r 256 = if on then (((maskTo f 256).filter fun x => !decide (x = col)) ++ [col]).mergeSort (fun x y => decide (x ≤ y)) else (maskTo f 256).filter fun x => !decide (x = col))) := by
    by_cases h : 0 ≤ col ∧ col ≤ 255
    · obtain ⟨k, rfl⟩ : ∃ k : Nat, col = k := ⟨col.toNat, by omega⟩
      refine ⟨_, _, fun H => tabsSet_yes G H f hf k on (by omega), fun hn => absurd h hn, fun _ => ⟨?_, rfl, ?_⟩⟩
      · unfold setStops
        split
        · exact (set_word _ k (clr_word f k hf (by omega)).2 (by omega)).2
        · exact (clr_word f k hf (by omega)).2
      · unfold setStops
        cases on
        · exact mask_clr f k
        · show maskTo (setF (clrF f k) k) 256 = List.mergeSort _ _
          rw [mask_set f k (by omega), mask_clr]
    · exact ⟨_, _, fun H => tabsSet_no G H f col on h, fun _ => ⟨rfl, rfl⟩, fun hn => absurd hn h⟩
  have cU := fun H => usual_sv G H
  have cS0 := fun H => stopList_sc G H (usF 31) (usF_ok 31 (Nat.le_refl _))
  rw [us_mask] at cS0
  have cS1 := fun H => stopList_sc G H f hf
  have cE := fun (H : List Ent) (L : List Int) (hL : L.length ≤ 1000) (a a2 : Option Addr) (c c2 n m : Nat) (hn : n = L.length) (hm : m = L.length) (h1 : RdC G H a (Go.Fw.ints L)) (h2 : RdC G H a2 (Go.Fw.ints L)) => eqI3_sv G H L a a2 n m c c2 rfl rfl hn hm (by unfold maxLen; omega)
  have cB := fun H => between_sv G H col 0 255
  have hl256 := maskTo_len f 256
  have hself := stopsSelf f
  generalize hM : maskTo f 256 = M at *
  have cD := fun (H : List Ent) (a : Option Addr) (n c b : Nat) (hn : n = M.length) (_ : HasBlk H b 3 [.int .i64 col]) => del_sc G H M col b n c a hn (by omega)
  generalize hK : (M.filter fun x => !decide (x = col)) = K at *
  have hKl : K.length ≤ 256 := by rw [← hK]; exact Nat.le_trans (List.length_filter_le _ _) hl256
  have cT : ∀ (H : List Ent) (a : Option Addr) (c : Nat), SC Try.prog G 32 [.slice a (K.length + 1) c] (.own 3 1 a (K.length + 1) c (Go.Fw.ints K ++ [.int .i64 col]) :: H) (fun v H' => v = .tuple #[] ∧ H' = .own 3 1 a (K.length + 1) c (Go.Fw.ints ((K ++ [col]).mergeSort fun x y => decide (x ≤ y))) :: H) := fun (H : List Ent) (a : Option Addr) (c : Nat) => (show Go.Fw.ints (K ++ [col]) = Go.Fw.ints K ++ [.int .i64 col] from ints_app K [col]) ▸ sortI_sc G H (K ++ [col]) a (K.length + 1) c (by simp) (by omega) (by omega)
  have hw1 : ∀ g : Nat → Nat, (wordsL g).all (·.oneCell') = true := fun g => rfl
  have hul := usL_len
  have Hno := Lib.hid hno
  have Hyes := Lib.hid hyes
  have HcS := Lib.hid (fun h : Wf r => fun H => stopList_sc G H r h)
  clear hno hyes hM hK
  refine sv_enter3 Try.func7 rfl rfl rfl rfl rfl ?_
  repeat' (first | (apply g_sl; first | (apply ks_nil; refine sl_nil ?_) | (apply ks_move; refine s_move rfl rfl ?_) | (apply ks_bin; refine s_bin rfl rfl rfl ?_; first | (refine c_storew rfl rfl rfl rfl rfl rfl rfl rfl ?_) | (first | (apply kb_add; first | refine bb_add ⟨by omega, by omega⟩ ?_ | refine bb_of rfl ?_) | refine bb_of rfl ?_)) | (apply ks_load; first | (refine s_load rfl rfl ?_; first | refine ld_cell rfl ?_ | refine ld_whole rfl ?_ | refine ld_elem rfl ?_ | refine ld_part rfl rfl ?_) | (refine c_storew rfl rfl rfl rfl rfl rfl rfl rfl ?_)) | (apply ks_asgn; refine s_asgn rfl rfl ?_) | (apply ks_pick; refine s_pick rfl rfl ?_; first | (apply kp_t; refine pk_t rfl ?_) | (apply kp_f; refine pk_f rfl ?_) | refine pk_s rfl rfl ?_) | (apply ks_un; refine s_un (y_un rfl rfl rfl) rfl ?_) | (apply ks_extr; refine s_extr (y_extract rfl rfl rfl) rfl ?_) | (apply ks_fn; first | refine c_callv rfl rfl rfl (c1 _) rfl rfl ?_) | (apply ks_bi; first | (refine c_storew rfl rfl rfl rfl rfl rfl rfl rfl ?_) | refine s_call (c_len rfl rfl) rfl ?_ | refine s_call (c_len_str rfl rfl) rfl ?_ | refine s_call (c_bi rfl rfl rfl rfl) rfl ?_ | refine c_append rfl rfl rfl rfl (by first | rfl | simp [ints]) (by first | rfl | exact ints_one _ | exact octs_one _ | exact strs_one _) (by omega) rfl rfl (fun _ _ => ?_) | refine c_append_nil rfl rfl rfl rfl (by first | rfl | simp [ints]) (by first | rfl | exact ints_one _ | exact octs_one _ | exact strs_one _) (by omega) rfl rfl (fun _ _ => ?_)) | (apply ks_store; first | first | refine c_store rfl rfl rfl rfl rfl rfl rfl ?_ | refine c_storew rfl rfl rfl rfl rfl rfl rfl rfl ?_ | refine c_storee rfl rfl rfl rfl rfl (by omega) rfl ?_ | (refine c_storew rfl rfl rfl rfl rfl rfl rfl rfl ?_)) | (apply ks_box; refine c_box rfl rfl rfl rfl rfl rfl (fun _ => ?_)) | (apply ks_alloc; refine c_alloc rfl rfl rfl rfl (fun _ => ?_)) | (apply ks_bs; first | refine c_buildSlice rfl rfl rfl rfl rfl rfl rfl rfl rfl rfl (fun _ => ?_) | (refine c_storew rfl rfl rfl rfl rfl rfl rfl rfl ?_)) | (apply ks_guard; first | (refine sl_gd rfl rfl rfl rfl ?_; first | (apply gd_t) | (apply gd_ft) | (apply gd_tf) | (apply gd_dec_t <;> intro hq <;> (try (exfalso; omega))) | (apply gd_dec_f <;> intro hq <;> (try (exfalso; omega))) | (apply gd_beq_t <;> intro hq <;> (try (exfalso; omega))) | (apply gd_beq_f <;> intro hq <;> (try (exfalso; omega))) | (apply gd_bne_t <;> intro hq <;> (try (exfalso; omega))) | (apply gd_bne_f <;> intro hq <;> (try (exfalso; omega))) | (apply gd_not_t <;> intro hq) | (apply gd_not_f <;> intro hq) | (apply gd_raw_t <;> intro hq) | (apply gd_raw_f <;> intro hq)) | refine sl_skip_u rfl rfl rfl rfl rfl rfl ?_) | (refine c_storew rfl rfl rfl rfl rfl rfl rfl rfl ?_)) | (apply sw_seq) | (apply at_srd) | (apply sw_skip) | (apply sw_ret) | (apply sw_exit) | (apply sw_block) | (apply sw_region) | (refine sw_cd rfl ?_; first | (apply gd_t) | (apply gd_ft) | (apply gd_tf) | (apply gd_dec_t <;> intro hq <;> (try (exfalso; omega))) | (apply gd_dec_f <;> intro hq <;> (try (exfalso; omega))) | (apply gd_beq_t <;> intro hq <;> (try (exfalso; omega))) | (apply gd_beq_f <;> intro hq <;> (try (exfalso; omega))) | (apply gd_bne_t <;> intro hq <;> (try (exfalso; omega))) | (apply gd_bne_f <;> intro hq <;> (try (exfalso; omega))) | (apply gd_not_t <;> intro hq) | (apply gd_not_f <;> intro hq) | (apply gd_raw_t <;> intro hq) | (apply gd_raw_f <;> intro hq)) | (apply at_thn) | (apply at_thn_ret) | (apply at_thn_exit) | (apply at_inb) | (apply at_inb_ret) | (apply at_inb_exit) | refine at_inb_pass rfl ?_ | refine c_drawn (by kernel_rfl) ?_)
  rename_i b0 b1 b2
  refine sw_loopg (α := Nat × Option Addr × Nat) (fun g => [(3, .pointer (some ⟨b0, 0, none⟩)), (4, .pointer (some ⟨b1, 0, none⟩)), (2, .bool on), (7, .pointer (some ⟨b2, 0, none⟩)), (8, .int .i64 e0), (9, .slice g.2.1 (usL g.1).length g.2.2), (10, .int .i64 (8 * ((g.1 : Int) + 1)))])
    (fun g => .own 3 1 g.2.1 (usL g.1).length g.2.2 (Go.Fw.ints (usL g.1)) :: .blk b2 30 (wordsL r) :: .blk b1 3 [.int .i64 col] :: [.blk b0 30 (wordsL f)])
    (fun g => g.1 ≤ 31) (fun g => 31 - g.1) (0, none, 0) (by decide) (by repeat (first | exact Le.nil _ | refine Le.cons (by first | rfl | (exact congrArg some (congrArg (Value.int _) (by omega)))) ?_)) (fun _ hw => (hw.nilrow _ _).subs (by repeat (first | refine Subs.cons (by repeat constructor) ?_ | exact Subs.sub (by repeat (first | exact List.Sublist.refl _ | exact List.nil_sublist _ | refine List.Sublist.cons _ ?_))))) ?_
  rintro ⟨k, ao, co⟩ hk
  dsimp only at hk ⊢
  by_cases hlt : k < 31
  · have hkl := hul k
    have hnx : 8 * ((k : Int) + 1) + 8 = 8 * (((k + 1 : Nat) : Int) + 1) := by omega
    repeat' (first | (apply g_sl; first | (apply ks_nil; refine sl_nil ?_) | (apply ks_move; refine s_move rfl rfl ?_) | (apply ks_bin; refine s_bin rfl rfl rfl ?_; first | fail | (first | (apply kb_add; first | refine bb_add ⟨by omega, by omega⟩ ?_ | refine bb_of rfl ?_) | refine bb_of rfl ?_)) | (apply ks_load; first | (refine s_load rfl rfl ?_; first | refine ld_cell rfl ?_ | refine ld_whole rfl ?_ | refine ld_elem rfl ?_ | refine ld_part rfl rfl ?_) | fail) | (apply ks_asgn; refine s_asgn rfl rfl ?_) | (apply ks_pick; refine s_pick rfl rfl ?_; first | (apply kp_t; refine pk_t rfl ?_) | (apply kp_f; refine pk_f rfl ?_) | refine pk_s rfl rfl ?_) | (apply ks_un; refine s_un (y_un rfl rfl rfl) rfl ?_) | (apply ks_extr; refine s_extr (y_extract rfl rfl rfl) rfl ?_) | (apply ks_fn; first | fail) | (apply ks_bi; first | fail | refine s_call (c_len rfl rfl) rfl ?_ | refine s_call (c_len_str rfl rfl) rfl ?_ | refine s_call (c_bi rfl rfl rfl rfl) rfl ?_ | refine c_append rfl rfl rfl rfl (by first | rfl | simp [ints]) (by first | rfl | exact ints_one _ | exact octs_one _ | exact strs_one _) (by omega) rfl rfl (fun _ _ => ?_) | refine c_append_nil rfl rfl rfl rfl (by first | rfl | simp [ints]) (by first | rfl | exact ints_one _ | exact octs_one _ | exact strs_one _) (by omega) rfl rfl (fun _ _ => ?_)) | (apply ks_store; first | first | refine c_store rfl rfl rfl rfl rfl rfl rfl ?_ | refine c_storew rfl rfl rfl rfl rfl rfl rfl rfl ?_ | refine c_storee rfl rfl rfl rfl rfl (by omega) rfl ?_ | fail) | (apply ks_box; refine c_box rfl rfl rfl rfl rfl rfl (fun _ => ?_)) | (apply ks_alloc; refine c_alloc rfl rfl rfl rfl (fun _ => ?_)) | (apply ks_bs; first | refine c_buildSlice rfl rfl rfl rfl rfl rfl rfl rfl rfl rfl (fun _ => ?_) | fail) | (apply ks_guard; first | (refine sl_gd rfl rfl rfl rfl ?_; first | (apply gd_t) | (apply gd_ft) | (apply gd_tf) | (apply gd_dec_t <;> intro hq <;> (try (exfalso; omega))) | (apply gd_dec_f <;> intro hq <;> (try (exfalso; omega))) | (apply gd_beq_t <;> intro hq <;> (try (exfalso; omega))) | (apply gd_beq_f <;> intro hq <;> (try (exfalso; omega))) | (apply gd_bne_t <;> intro hq <;> (try (exfalso; omega))) | (apply gd_bne_f <;> intro hq <;> (try (exfalso; omega))) | (apply gd_not_t <;> intro hq) | (apply gd_not_f <;> intro hq) | (apply gd_raw_t <;> intro hq) | (apply gd_raw_f <;> intro hq)) | refine sl_skip_u rfl rfl rfl rfl rfl rfl ?_) | fail) | (apply sw_seq) | (apply at_srd) | (apply sw_skip) | (apply sw_ret) | (apply sw_exit) | (apply sw_block) | (apply sw_region) | (refine sw_cd rfl ?_; first | (apply gd_t) | (apply gd_ft) | (apply gd_tf) | (apply gd_dec_t <;> intro hq <;> (try (exfalso; omega))) | (apply gd_dec_f <;> intro hq <;> (try (exfalso; omega))) | (apply gd_beq_t <;> intro hq <;> (try (exfalso; omega))) | (apply gd_beq_f <;> intro hq <;> (try (exfalso; omega))) | (apply gd_bne_t <;> intro hq <;> (try (exfalso; omega))) | (apply gd_bne_f <;> intro hq <;> (try (exfalso; omega))) | (apply gd_not_t <;> intro hq) | (apply gd_not_f <;> intro hq) | (apply gd_raw_t <;> intro hq) | (apply gd_raw_f <;> intro hq)) | (apply at_thn) | (apply at_thn_ret) | (apply at_thn_exit) | (apply at_inb) | (apply at_inb_ret) | (apply at_inb_exit) | refine at_inb_pass rfl ?_ | refine c_drawn (by kernel_rfl) ?_)
    rename_i bx ax cx
    refine at_meet (k + 1, ax, cx) ⟨by dsimp only; omega, by dsimp only; omega⟩ ?_ ?_
    · dsimp only; rw [usL_succ, List.length_append, ← hnx]; exact (by repeat (first | exact Le.nil _ | refine Le.cons (by first | rfl | (exact congrArg some (congrArg (Value.int _) (by omega)))) ?_))
    · dsimp only; rw [usL_succ, List.length_append, ints_app]; exact (fun _ hw => hw.subs (by repeat (first | refine Subs.cons (by repeat constructor) ?_ | exact Subs.sub (by repeat (first | exact List.Sublist.refl _ | exact List.nil_sublist _ | refine List.Sublist.cons _ ?_)))))
  · obtain rfl : k = 31 := by omega
    by_cases hc : 0 ≤ col ∧ col ≤ 255
    · obtain ⟨hrf, rfl, hmr⟩ := Hyes.out hc
      have cS2 := HcS.out hrf
      rw [show betB col 0 255 = true from by unfold betB; exact decide_eq_true hc] at cB
      clear Hyes Hno
      cases on
      · rw [if_neg (by decide)] at hmr
        rw [hmr] at cS2
        repeat' (first | (apply g_sl; first | (apply ks_nil; refine sl_nil ?_) | (apply ks_move; refine s_move rfl rfl ?_) | (apply ks_bin; refine s_bin rfl rfl rfl ?_; first | (refine s_mkfn (y_mkfn rfl rfl rfl) rfl ?_) | (first | (apply kb_add; first | refine bb_add ⟨by omega, by omega⟩ ?_ | refine bb_of rfl ?_) | refine bb_of rfl ?_)) | (apply ks_load; first | (refine s_load rfl rfl ?_; first | refine ld_cell rfl ?_ | refine ld_whole rfl ?_ | refine ld_elem rfl ?_ | refine ld_part rfl rfl ?_) | (refine s_mkfn (y_mkfn rfl rfl rfl) rfl ?_)) | (apply ks_asgn; refine s_asgn rfl rfl ?_) | (apply ks_pick; refine s_pick rfl rfl ?_; first | (apply kp_t; refine pk_t rfl ?_) | (apply kp_f; refine pk_f rfl ?_) | refine pk_s rfl rfl ?_) | (apply ks_un; refine s_un (y_un rfl rfl rfl) rfl ?_) | (apply ks_extr; refine s_extr (y_extract rfl rfl rfl) rfl ?_) | (apply ks_fn; first | first | refine c_callv rfl rfl rfl (cU _) rfl rfl ?_ | refine c_callv rfl rfl rfl (cB _) rfl rfl ?_ | (refine c_call rfl rfl rfl (cS0 _) rfl rfl ?_; rintro _ _ ⟨a1, k1, rfl, rfl⟩) | (refine c_call rfl rfl rfl (cS1 _) rfl rfl ?_; rintro _ _ ⟨a2, k2, rfl, rfl⟩) | (refine c_call rfl rfl rfl (cS2 _) rfl rfl ?_; rintro _ _ ⟨a3, k3, rfl, rfl⟩) | refine c_callv rfl rfl rfl (cE _ (usL 31) (by rw [hul]; decide) _ _ _ _ _ _ rfl rfl inferInstance inferInstance) rfl rfl ?_ | refine c_callv rfl rfl rfl (cE _ K (by omega) _ _ _ _ _ _ rfl rfl inferInstance inferInstance) rfl rfl ?_ | (refine c_call rfl rfl rfl (cD _ _ _ _ _ rfl inferInstance) rfl rfl ?_; rintro _ _ ⟨rfl, rfl⟩)) | (apply ks_bi; first | (refine s_mkfn (y_mkfn rfl rfl rfl) rfl ?_) | refine s_call (c_len rfl rfl) rfl ?_ | refine s_call (c_len_str rfl rfl) rfl ?_ | refine s_call (c_bi rfl rfl rfl rfl) rfl ?_ | refine c_append rfl rfl rfl rfl (by first | rfl | simp [ints]) (by first | rfl | exact ints_one _ | exact octs_one _ | exact strs_one _) (by omega) rfl rfl (fun _ _ => ?_) | refine c_append_nil rfl rfl rfl rfl (by first | rfl | simp [ints]) (by first | rfl | exact ints_one _ | exact octs_one _ | exact strs_one _) (by omega) rfl rfl (fun _ _ => ?_)) | (apply ks_store; first | first | refine c_store rfl rfl rfl rfl rfl rfl rfl ?_ | refine c_storew rfl rfl rfl rfl rfl rfl rfl rfl ?_ | refine c_storee rfl rfl rfl rfl rfl (by omega) rfl ?_ | (refine s_mkfn (y_mkfn rfl rfl rfl) rfl ?_)) | (apply ks_box; refine c_box rfl rfl rfl rfl rfl rfl (fun _ => ?_)) | (apply ks_alloc; refine c_alloc rfl rfl rfl rfl (fun _ => ?_)) | (apply ks_bs; first | refine c_buildSlice rfl rfl rfl rfl rfl rfl rfl rfl rfl rfl (fun _ => ?_) | (refine s_mkfn (y_mkfn rfl rfl rfl) rfl ?_)) | (apply ks_guard; first | (refine sl_gd rfl rfl rfl rfl ?_; first | (apply gd_t) | (apply gd_ft) | (apply gd_tf) | (apply gd_dec_t <;> intro hq <;> (try (exfalso; omega))) | (apply gd_dec_f <;> intro hq <;> (try (exfalso; omega))) | (apply gd_beq_t <;> intro hq <;> (try (exfalso; omega))) | (apply gd_beq_f <;> intro hq <;> (try (exfalso; omega))) | (apply gd_bne_t <;> intro hq <;> (try (exfalso; omega))) | (apply gd_bne_f <;> intro hq <;> (try (exfalso; omega))) | (apply gd_not_t <;> intro hq) | (apply gd_not_f <;> intro hq) | (apply gd_raw_t <;> intro hq) | (apply gd_raw_f <;> intro hq)) | refine sl_skip_u rfl rfl rfl rfl rfl rfl ?_) | (refine s_mkfn (y_mkfn rfl rfl rfl) rfl ?_)) | (apply sw_seq) | (apply at_srd) | (apply sw_skip) | (apply sw_ret) | (apply sw_exit) | (apply sw_block) | (apply sw_region) | (refine sw_cd rfl ?_; first | (apply gd_t) | (apply gd_ft) | (apply gd_tf) | (apply gd_dec_t <;> intro hq <;> (try (exfalso; omega))) | (apply gd_dec_f <;> intro hq <;> (try (exfalso; omega))) | (apply gd_beq_t <;> intro hq <;> (try (exfalso; omega))) | (apply gd_beq_f <;> intro hq <;> (try (exfalso; omega))) | (apply gd_bne_t <;> intro hq <;> (try (exfalso; omega))) | (apply gd_bne_f <;> intro hq <;> (try (exfalso; omega))) | (apply gd_not_t <;> intro hq) | (apply gd_not_f <;> intro hq) | (apply gd_raw_t <;> intro hq) | (apply gd_raw_f <;> intro hq)) | (apply at_thn) | (apply at_thn_ret) | (apply at_thn_exit) | (apply at_inb) | (apply at_inb_ret) | (apply at_inb_exit) | refine at_inb_pass rfl ?_ | refine c_drawn (by kernel_rfl) ?_)
        all_goals first | (exact absurd rfl (by assumption)) | (refine e_sv (by first | exact .inl rfl | exact .inr rfl) rfl (List.nil_sublist _) ?_; simp [resV])
      · rw [if_pos rfl] at hmr
        rw [hmr] at cS2
        have hsl : ((K ++ [col]).mergeSort fun x y => decide (x ≤ y)).length = K.length + 1 := by simp
        rw [hsl] at cS2
        generalize ((K ++ [col]).mergeSort fun x y => decide (x ≤ y)) = S at *
        repeat' (first | (apply g_sl; first | (apply ks_nil; refine sl_nil ?_) | (apply ks_move; refine s_move rfl rfl ?_) | (apply ks_bin; refine s_bin rfl rfl rfl ?_; first | (refine s_mkfn (y_mkfn rfl rfl rfl) rfl ?_) | (first | (apply kb_add; first | refine bb_add ⟨by omega, by omega⟩ ?_ | refine bb_of rfl ?_) | refine bb_of rfl ?_)) | (apply ks_load; first | (refine s_load rfl rfl ?_; first | refine ld_cell rfl ?_ | refine ld_whole rfl ?_ | refine ld_elem rfl ?_ | refine ld_part rfl rfl ?_) | (refine s_mkfn (y_mkfn rfl rfl rfl) rfl ?_)) | (apply ks_asgn; refine s_asgn rfl rfl ?_) | (apply ks_pick; refine s_pick rfl rfl ?_; first | (apply kp_t; refine pk_t rfl ?_) | (apply kp_f; refine pk_f rfl ?_) | refine pk_s rfl rfl ?_) | (apply ks_un; refine s_un (y_un rfl rfl rfl) rfl ?_) | (apply ks_extr; refine s_extr (y_extract rfl rfl rfl) rfl ?_) | (apply ks_fn; first | first | refine c_callv rfl rfl rfl (cU _) rfl rfl ?_ | refine c_callv rfl rfl rfl (cB _) rfl rfl ?_ | (refine c_call rfl rfl rfl (cS0 _) rfl rfl ?_; rintro _ _ ⟨a1, k1, rfl, rfl⟩) | (refine c_call rfl rfl rfl (cS1 _) rfl rfl ?_; rintro _ _ ⟨a2, k2, rfl, rfl⟩) | (refine c_call rfl rfl rfl (cS2 _) rfl rfl ?_; rintro _ _ ⟨a3, k3, rfl, rfl⟩) | refine c_callv rfl rfl rfl (cE _ (usL 31) (by rw [hul]; decide) _ _ _ _ _ _ rfl rfl inferInstance inferInstance) rfl rfl ?_ | refine c_callv rfl rfl rfl (cE _ S (by rw [hsl]; omega) _ _ _ _ _ _ hsl.symm hsl.symm inferInstance inferInstance) rfl rfl ?_ | (refine c_call rfl rfl rfl (cD _ _ _ _ _ rfl inferInstance) rfl rfl ?_; rintro _ _ ⟨rfl, rfl⟩) | (refine c_call rfl rfl rfl (cT _ _ _) rfl rfl ?_; rintro _ _ ⟨rfl, rfl⟩)) | (apply ks_bi; first | (refine s_mkfn (y_mkfn rfl rfl rfl) rfl ?_) | refine s_call (c_len rfl rfl) rfl ?_ | refine s_call (c_len_str rfl rfl) rfl ?_ | refine s_call (c_bi rfl rfl rfl rfl) rfl ?_ | refine c_append rfl rfl rfl rfl (by first | rfl | simp [ints]) (by first | rfl | exact ints_one _ | exact octs_one _ | exact strs_one _) (by omega) rfl rfl (fun _ _ => ?_) | refine c_append_nil rfl rfl rfl rfl (by first | rfl | simp [ints]) (by first | rfl | exact ints_one _ | exact octs_one _ | exact strs_one _) (by omega) rfl rfl (fun _ _ => ?_)) | (apply ks_store; first | first | refine c_store rfl rfl rfl rfl rfl rfl rfl ?_ | refine c_storew rfl rfl rfl rfl rfl rfl rfl rfl ?_ | refine c_storee rfl rfl rfl rfl rfl (by omega) rfl ?_ | (refine s_mkfn (y_mkfn rfl rfl rfl) rfl ?_)) | (apply ks_box; refine c_box rfl rfl rfl rfl rfl rfl (fun _ => ?_)) | (apply ks_alloc; refine c_alloc rfl rfl rfl rfl (fun _ => ?_)) | (apply ks_bs; first | refine c_buildSlice rfl rfl rfl rfl rfl rfl rfl rfl rfl rfl (fun _ => ?_) | (refine s_mkfn (y_mkfn rfl rfl rfl) rfl ?_)) | (apply ks_guard; first | (refine sl_gd rfl rfl rfl rfl ?_; first | (apply gd_t) | (apply gd_ft) | (apply gd_tf) | (apply gd_dec_t <;> intro hq <;> (try (exfalso; omega))) | (apply gd_dec_f <;> intro hq <;> (try (exfalso; omega))) | (apply gd_beq_t <;> intro hq <;> (try (exfalso; omega))) | (apply gd_beq_f <;> intro hq <;> (try (exfalso; omega))) | (apply gd_bne_t <;> intro hq <;> (try (exfalso; omega))) | (apply gd_bne_f <;> intro hq <;> (try (exfalso; omega))) | (apply gd_not_t <;> intro hq) | (apply gd_not_f <;> intro hq) | (apply gd_raw_t <;> intro hq) | (apply gd_raw_f <;> intro hq)) | refine sl_skip_u rfl rfl rfl rfl rfl rfl ?_) | (refine s_mkfn (y_mkfn rfl rfl rfl) rfl ?_)) | (apply sw_seq) | (apply at_srd) | (apply sw_skip) | (apply sw_ret) | (apply sw_exit) | (apply sw_block) | (apply sw_region) | (refine sw_cd rfl ?_; first | (apply gd_t) | (apply gd_ft) | (apply gd_tf) | (apply gd_dec_t <;> intro hq <;> (try (exfalso; omega))) | (apply gd_dec_f <;> intro hq <;> (try (exfalso; omega))) | (apply gd_beq_t <;> intro hq <;> (try (exfalso; omega))) | (apply gd_beq_f <;> intro hq <;> (try (exfalso; omega))) | (apply gd_bne_t <;> intro hq <;> (try (exfalso; omega))) | (apply gd_bne_f <;> intro hq <;> (try (exfalso; omega))) | (apply gd_not_t <;> intro hq) | (apply gd_not_f <;> intro hq) | (apply gd_raw_t <;> intro hq) | (apply gd_raw_f <;> intro hq)) | (apply at_thn) | (apply at_thn_ret) | (apply at_thn_exit) | (apply at_inb) | (apply at_inb_ret) | (apply at_inb_exit) | refine at_inb_pass rfl ?_ | refine c_drawn (by kernel_rfl) ?_)
        all_goals first | (exact absurd rfl (by assumption)) | (refine e_sv (by first | exact .inl rfl | exact .inr rfl) rfl (List.nil_sublist _) ?_; simp [resV])
    · obtain ⟨rfl, rfl⟩ := Hno.out hc
      rw [show betB col 0 255 = false from by unfold betB; exact decide_eq_false hc] at cB
      clear Hyes Hno
      repeat' (first | (apply g_sl; first | (apply ks_nil; refine sl_nil ?_) | (apply ks_move; refine s_move rfl rfl ?_) | (apply ks_bin; refine s_bin rfl rfl rfl ?_; first | (refine bb_self hself (by kernel_rfl) ?_) | (first | (apply kb_add; first | refine bb_add ⟨by omega, by omega⟩ ?_ | refine bb_of rfl ?_) | refine bb_of rfl ?_)) | (apply ks_load; first | (refine s_load rfl rfl ?_; first | refine ld_cell rfl ?_ | refine ld_whole rfl ?_ | refine ld_elem rfl ?_ | refine ld_part rfl rfl ?_) | (refine bb_self hself (by kernel_rfl) ?_)) | (apply ks_asgn; refine s_asgn rfl rfl ?_) | (apply ks_pick; refine s_pick rfl rfl ?_; first | (apply kp_t; refine pk_t rfl ?_) | (apply kp_f; refine pk_f rfl ?_) | refine pk_s rfl rfl ?_) | (apply ks_un; refine s_un (y_un rfl rfl rfl) rfl ?_) | (apply ks_extr; refine s_extr (y_extract rfl rfl rfl) rfl ?_) | (apply ks_fn; first | first | refine c_callv rfl rfl rfl (cU _) rfl rfl ?_ | refine c_callv rfl rfl rfl (cB _) rfl rfl ?_ | (refine c_call rfl rfl rfl (cS0 _) rfl rfl ?_; rintro _ _ ⟨a1, k1, rfl, rfl⟩) | refine c_callv rfl rfl rfl (cE _ (usL 31) (by rw [hul]; decide) _ _ _ _ _ _ rfl rfl inferInstance inferInstance) rfl rfl ?_) | (apply ks_bi; first | (refine bb_self hself (by kernel_rfl) ?_) | refine s_call (c_len rfl rfl) rfl ?_ | refine s_call (c_len_str rfl rfl) rfl ?_ | refine s_call (c_bi rfl rfl rfl rfl) rfl ?_ | refine c_append rfl rfl rfl rfl (by first | rfl | simp [ints]) (by first | rfl | exact ints_one _ | exact octs_one _ | exact strs_one _) (by omega) rfl rfl (fun _ _ => ?_) | refine c_append_nil rfl rfl rfl rfl (by first | rfl | simp [ints]) (by first | rfl | exact ints_one _ | exact octs_one _ | exact strs_one _) (by omega) rfl rfl (fun _ _ => ?_)) | (apply ks_store; first | first | refine c_store rfl rfl rfl rfl rfl rfl rfl ?_ | refine c_storew rfl rfl rfl rfl rfl rfl rfl rfl ?_ | refine c_storee rfl rfl rfl rfl rfl (by omega) rfl ?_ | (refine bb_self hself (by kernel_rfl) ?_)) | (apply ks_box; refine c_box rfl rfl rfl rfl rfl rfl (fun _ => ?_)) | (apply ks_alloc; refine c_alloc rfl rfl rfl rfl (fun _ => ?_)) | (apply ks_bs; first | refine c_buildSlice rfl rfl rfl rfl rfl rfl rfl rfl rfl rfl (fun _ => ?_) | (refine bb_self hself (by kernel_rfl) ?_)) | (apply ks_guard; first | (refine sl_gd rfl rfl rfl rfl ?_; first | (apply gd_t) | (apply gd_ft) | (apply gd_tf) | (apply gd_dec_t <;> intro hq <;> (try (exfalso; omega))) | (apply gd_dec_f <;> intro hq <;> (try (exfalso; omega))) | (apply gd_beq_t <;> intro hq <;> (try (exfalso; omega))) | (apply gd_beq_f <;> intro hq <;> (try (exfalso; omega))) | (apply gd_bne_t <;> intro hq <;> (try (exfalso; omega))) | (apply gd_bne_f <;> intro hq <;> (try (exfalso; omega))) | (apply gd_not_t <;> intro hq) | (apply gd_not_f <;> intro hq) | (apply gd_raw_t <;> intro hq) | (apply gd_raw_f <;> intro hq)) | refine sl_skip_u rfl rfl rfl rfl rfl rfl ?_) | (refine bb_self hself (by kernel_rfl) ?_)) | (apply sw_seq) | (apply at_srd) | (apply sw_skip) | (apply sw_ret) | (apply sw_exit) | (apply sw_block) | (apply sw_region) | (refine sw_cd rfl ?_; first | (apply gd_t) | (apply gd_ft) | (apply gd_tf) | (apply gd_dec_t <;> intro hq <;> (try (exfalso; omega))) | (apply gd_dec_f <;> intro hq <;> (try (exfalso; omega))) | (apply gd_beq_t <;> intro hq <;> (try (exfalso; omega))) | (apply gd_beq_f <;> intro hq <;> (try (exfalso; omega))) | (apply gd_bne_t <;> intro hq <;> (try (exfalso; omega))) | (apply gd_bne_f <;> intro hq <;> (try (exfalso; omega))) | (apply gd_not_t <;> intro hq) | (apply gd_not_f <;> intro hq) | (apply gd_raw_t <;> intro hq) | (apply gd_raw_f <;> intro hq)) | (apply at_thn) | (apply at_thn_ret) | (apply at_thn_exit) | (apply at_inb) | (apply at_inb_ret) | (apply at_inb_exit) | refine at_inb_pass rfl ?_ | refine c_drawn (by kernel_rfl) ?_)
      all_goals first | (exact absurd rfl (by assumption)) | (refine e_sv (by first | exact .inl rfl | exact .inr rfl) rfl (List.nil_sublist _) ?_; simp [resV])
theorem tabsSet_walk (W : World) (y0 : A30) (o0 : ok30 W y0) (y1 : A3) (_ : ok3 W y1) (y2 : A4) (_ : ok4 W y2) : Calls Try.prog 7 #[.agg (en30 y0).toArray, .int .i64 y1, .bool y2] W fun e w' => e = .returned (.bool true) ∧ Below W.heap.size W w' := by
  obtain ⟨V, hV⟩ := y0
  have h64 : ∀ x ∈ V, 0 ≤ x ∧ x ≤ 18446744073709551615 := fun x hx => u64_bounds (o0 x hx)
  have e : V.flatMap (fun z => [Value.int .u64 z]) = wordsL (fun j => (V.getD j 0).toNat) := by
    match V, hV with
    | [a, b, c, d], _ =>
      simp only [List.mem_cons, List.not_mem_nil, or_false, forall_eq_or_imp, forall_eq] at h64
      obtain ⟨h1, h2, h3, h4⟩ := h64
      simp only [wordsL, List.flatMap_cons, List.flatMap_nil, List.append_nil, List.cons_append, List.nil_append, List.getD_cons_zero, List.getD_cons_succ, Int.toNat_of_nonneg h1.1, Int.toNat_of_nonneg h2.1, Int.toNat_of_nonneg h3.1, Int.toNat_of_nonneg h4.1]
  have hwf : Wf (fun j => (V.getD j 0).toNat) := fun j hj => by
    have hl : j < V.length := by omega
    have := h64 _ (List.getElem_mem hl)
    simp only [List.getD_eq_getElem?_getD, List.getElem?_eq_getElem hl, Option.getD_some]
    have h3 : (V[j] : Int) ≤ 18446744073709551615 := this.2
    have h4 : (0 : Int) ≤ V[j] := this.1
    have h5 : ∀ z : Int, 0 ≤ z → z ≤ 18446744073709551615 → z.toNat < 18446744073709551616 := fun z h1 h2 => by omega
    exact h5 _ h4 h3
  have h2 := calls_of_sv (tabsSet_sv ⟨W.heap.size, W⟩ _ hwf y1 y2)
  show Calls Try.prog 7 #[.agg (V.flatMap (fun z => [Value.int .u64 z])).toArray, .int .i64 y1, .bool y2] W _
  rw [e]
  exact h2

set_option maxRecDepth 100000 in
theorem tabsSet_law {H : Type} (enc : TypeId × Value → H) (W : World) {base : Nat} {v0 v1 v2 : Value} {d0 d1 d2 : DataW H} {p0 p1 p2 : List MemPlace}
    (k0 : Value.okWide Try.prog W .any base 30 v0) (h0 : DataW.Trod enc Try.prog W 0 (fun _ => true) true 30 v0 d0 p0)
    (k1 : Value.okWide Try.prog W .any base 3 v1) (h1 : DataW.Trod enc Try.prog W 0 (fun _ => true) true 3 v1 d1 p1)
    (k2 : Value.okWide Try.prog W .any base 4 v2) (h2 : DataW.Trod enc Try.prog W 0 (fun _ => true) true 4 v2 d2 p2)
    : Calls Try.prog 7 #[v0, v1, v2] W fun e w' => e = .returned (.bool true) ∧ Below W.heap.size W w' := by
  obtain ⟨y0, rfl, o0, b0⟩ := tr_agg Try.underlying30 tr30 k0 h0
  obtain ⟨y1, rfl, o1, b1⟩ := tr_int Try.underlying3 tr3 k1 h1
  obtain ⟨y2, rfl, o2, b2⟩ := tr_bool Try.underlying4 tr4 k2 h2
  exact tabsSet_walk W y0 o0 y1 o1 y2 o2

set_option maxRecDepth 100000 in
theorem tabsSet_contract (H : Type) (enc : TypeId × Value → H) (W : World) (base : Nat) (args : Array Value) (ds gs : List (DataW H)) (before : List MemPlace)
    (hval : ∀ (j : Nat) t v, Try.f7.params[j]? = some t → args[j]? = some v → Value.okWide Try.prog W .any base t v)
    (hW : DataW.Whole enc Try.prog Try.f7.params.toList Rows.tabsSetSpec.vars false W args.toList ds gs before) :
    Calls Try.prog 7 args W fun e W' => ∃ v, e = .returned v ∧ Rows.tabsSetSpec.post enc Try.prog Try.f7 false true false false W args v W' := by
  have hW' := hW
  obtain ⟨p, q, hA0, hV, rfl, hfz, hnd⟩ := hW
  have hA : DataW.TrodAll enc Try.prog W 0 (fun _ => true) true Try.f7.params.toList args.toList ds p := hA0
  rw [Try.params7] at hA hval
  obtain ⟨v0, vs0, d0, ds0, p0, q0, hargs, rfl, rfl, h0, r0⟩ := trodAll_cons hA
  obtain ⟨v1, vs1, d1, ds1, p1, q1, rfl, rfl, rfl, h1, r1⟩ := trodAll_cons r0
  obtain ⟨v2, vs2, d2, ds2, p2, q2, rfl, rfl, rfl, h2, r2⟩ := trodAll_cons r1
  obtain ⟨rfl, rfl, rfl⟩ := trodAll_nil r2
  obtain rfl : args = #[v0, v1, v2] := by cases args; simp_all
  obtain ⟨rfl, rfl⟩ := trodVars_none hV
  clear hA0
  have k0 := hval 0 30 v0 rfl rfl
  have k1 := hval 1 3 v1 rfl rfl
  have k2 := hval 2 4 v2 rfl rfl
  refine (tabsSet_law enc W k0 h0 k1 h1 k2 h2).mono fun e W' ⟨he, hg⟩ => ?_
  subst he
  exact ⟨_, rfl, law_post (s := Rows.tabsSetSpec) laidOut (by kernel_rfl) rfl Try.underlying4 rfl hW' rfl hg⟩

set_option maxRecDepth 100000 in
theorem tabsSet_lifted (os : Os) (started : os.Started) (H : Type) (enc : TypeId × Value → H) :
    ReturnsInHanded {} Try.checked os 7 .any (Rows.tabsSetSpec.pre6 enc Try.prog Try.f7 Rows.tabsSetRow.domain false) (Rows.tabsSetSpec.post enc Try.prog Try.f7 false true false false) := by
  refine returnsInHanded_of_change (C := Try.checked) own started (by kernel_rfl) Try.func7
    (ChangeSpec.witness6 (enc := enc) (C := Try.checked) false ⟨#[], #[.agg #[.int .u64 0, .int .u64 0, .int .u64 0, .int .u64 0], .int .i64 0, .bool false], []⟩ 12 (by kernel_rfl) (by kernel_rfl) (by kernel_rfl) (by kernel_rfl)) ?_
  intro W base args ds gs before hval hW _ _
  exact tabsSet_contract H enc W base args ds gs before hval hW

theorem tabsSet_holds : Rows.TabsSetSaid :=
  OpenClaim.holds_of_wide 7 Try.f7 rfl rfl rfl rfl rfl rfl rfl ⟨rfl, rfl, rfl, rfl, rfl⟩ rfl rfl rfl rfl rfl (by kernel_rfl) Try.func7 (by kernel_rfl)
    (of_decide_eq_true (by kernel_rfl)) (by unfold Func.isWrapper; first | (rw [if_pos (by decide +kernel)]; kernel_rfl) | (rw [if_neg (by decide +kernel)]; exact ⟨rfl, rfl⟩))
    (fun os started H enc _ => tabsSet_lifted os started H enc)

end Go.Proofs.Yteicfkhaaeoheaa
