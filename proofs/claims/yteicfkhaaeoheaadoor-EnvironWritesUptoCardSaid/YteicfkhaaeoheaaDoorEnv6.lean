/- environ.Wanted, farref.WantedVars: walks. -/
import Derived.Test.YteicfkhaaeoheaaDoorEnv5
namespace Go.Fw
open Go Go.RowKit Go.Sx
def wantV (p : List Vr × Int) : List Vr × Int := if p.2 ≠ 0 then ([], p.2) else if (p.1.any fun v => v.2.2.2) = true then ([], 4) else (p.1, 0)
theorem readP_nil {s : ByteArray} (h : (readP s).2 ≠ 0) : (readP s).1 = [] := by
  unfold readP at *
  split
  · rfl
  · split
    · rfl
    · split
      · rfl
      · rename_i h1 _ out h2 h3
        rw [if_neg h1, h2] at h
        simp only [if_neg h3] at h
        exact absurd rfl h
theorem many_len {st : List Int → Option (Vr × List Int)} : ∀ (m : Nat) (l : List Int) (L : List Vr), many st m l = some L → L.length ≤ m
  | _, [], L, h => by rw [many] at h; cases h; exact Nat.zero_le _
  | 0, _ :: _, L, h => by rw [many] at h; cases h
  | m + 1, x :: l, L, h => by
    rw [many] at h
    split at h
    · cases h
    · rename_i v r _
      cases hq : many st m r with
      | none => rw [hq] at h; cases h
      | some L2 =>
        rw [hq] at h
        cases h
        have := many_len m r L2 hq
        simp; omega
theorem readP_len (s : ByteArray) : (readP s).1.length ≤ 4096 := by
  unfold readP
  split
  · exact Nat.zero_le _
  · split
    · exact Nat.zero_le _
    · split
      · exact Nat.zero_le _
      · rename_i h1 _ out h2 h3
        have := many_len _ _ _ h2
        show out.length ≤ 4096
        omega
end Go.Fw
namespace Go.Proofs.YteicfkhaaeoheaaDoor
open Go Go.RowKit Go.Fw Go.Sx
set_option maxRecDepth 100000
set_option maxHeartbeats 1000000
attribute [local irreducible] SW SL SQ AtQ SV SC BB LD PK Yields SO SOT SOA SY
theorem wanted1_sv (G : Ctx) (H : List Ent) (v : Vr) : SV Tryd.prog G 78 [vrV v] H (.bool v.2.2.2) := by
  obtain ⟨nm, vl, u, st⟩ := v
  show SV Tryd.prog G _ [.agg [.string nm, .string vl, .bool u, .bool st].toArray] H (.bool st)
  refine sv_enter1 Tryd.func78 rfl rfl rfl rfl rfl ?_
  repeat' (first | (apply g_sl; first | (apply ks_nil; refine sl_nil ?_) | (apply ks_load; first | (refine s_load rfl rfl ?_; first | refine ld_cell rfl ?_ | refine ld_whole rfl ?_ | refine ld_elem rfl ?_ | refine ld_part rfl rfl ?_) | fail) | (apply ks_asgn; refine s_asgn rfl rfl ?_) | (apply ks_field; first | refine s_field (c_field0 rfl rfl) rfl ?_ | refine s_field (c_field rfl rfl) rfl ?_) | (apply ks_box; refine c_box rfl rfl rfl rfl rfl rfl (fun _ => ?_)) | fail) | (apply sw_seq) | (apply at_srd) | (apply sw_skip) | (apply sw_ret) | (apply sw_exit) | (apply sw_block) | (apply sw_region) | (refine sw_cd rfl ?_; first | (apply gd_t) | (apply gd_ft) | (apply gd_tf) | (apply gd_dec_t <;> intro hq <;> (try (exfalso; omega))) | (apply gd_dec_f <;> intro hq <;> (try (exfalso; omega))) | (apply gd_beq_t <;> intro hq <;> (try (exfalso; omega))) | (apply gd_beq_f <;> intro hq <;> (try (exfalso; omega))) | (apply gd_bne_t <;> intro hq <;> (try (exfalso; omega))) | (apply gd_bne_f <;> intro hq <;> (try (exfalso; omega))) | (apply gd_not_t <;> intro hq) | (apply gd_not_f <;> intro hq) | (apply gd_raw_t <;> intro hq) | (apply gd_raw_f <;> intro hq)) | (apply at_thn) | (apply at_thn_ret) | (apply at_thn_exit) | (apply at_inb) | (apply at_inb_ret) | (apply at_inb_exit) | refine at_inb_pass rfl ?_ | refine c_drawn (by kernel_rfl) ?_)
  refine e_sv (by first | exact .inl rfl | exact .inr rfl) rfl (by repeat (first | exact List.Sublist.refl _ | exact List.nil_sublist _ | refine List.Sublist.cons _ ?_)) ?_
  rfl
theorem wanted_sc (G : Ctx) (H : List Ent) (s : ByteArray) : SC Tryd.prog G 31 [.string s] H (fun v H' => ∃ a' c', v = .tuple #[.slice a' (wantV (readP s)).1.length c', .int .i64 (wantV (readP s)).2] ∧ H' = .own 54 4 a' (wantV (readP s)).1.length c' (vrs (wantV (readP s)).1) :: H) := by
  have cR := fun H => read_sc G H s
  have hl := readP_len s
  rw [read_same] at cR
  generalize readP s = p at *
  obtain ⟨L, e⟩ := p
  dsimp only at cR hl
  have cH := fun H a c (h1 : RdC G H a (vrs L)) => hasVarG_sv G H 78 [] (fun v => v.2.2.2) L a L.length c rfl rfl (by unfold maxLen; omega) (fun v _ => wanted1_sv G H v)
  have w1 : e ≠ 0 → wantV (L, e) = ([], e) := fun h => if_pos h
  have w2 : e = 0 → (L.any fun v => v.2.2.2) = true → wantV (L, e) = ([], 4) := fun h h2 => by unfold wantV; rw [if_neg (fun x => x h)]; exact if_pos h2
  have w3 : e = 0 → (L.any fun v => v.2.2.2) = false → wantV (L, e) = (L, 0) := fun h h2 => by unfold wantV; rw [if_neg (fun x => x h)]; exact if_neg (by rw [h2]; decide)
  generalize wantV (L, e) = w at *
  have W1 := Lib.hid w1
  have W2 := Lib.hid w2
  have W3 := Lib.hid w3
  clear w1 w2 w3
  generalize (L.any fun v => v.2.2.2) = q at *
  refine sc_enter1 Tryd.func31 rfl rfl rfl rfl rfl ?_
  repeat' (first | (apply g_sl; first | (apply ks_nil; refine sl_nil ?_) | (apply ks_move; refine s_move rfl rfl ?_) | (apply ks_bin; refine s_bin rfl rfl rfl ?_; first | fail | (first | refine bb_of rfl ?_)) | (apply ks_asgn; refine s_asgn rfl rfl ?_) | (apply ks_extr; refine s_extr (y_extract rfl rfl rfl) rfl ?_) | (apply ks_fn; first | first | (refine c_call rfl rfl rfl (cR _) rfl rfl ?_; rintro _ _ ⟨a1, k1, rfl, rfl⟩) | refine c_callv rfl rfl rfl (cH _ _ _ inferInstance) rfl rfl ?_) | fail) | (apply sw_seq) | (apply at_srd) | (apply sw_skip) | (apply sw_ret) | (apply sw_exit) | (apply sw_block) | (apply sw_region) | (refine sw_cd rfl ?_; first | (apply gd_t) | (apply gd_ft) | (apply gd_tf) | (apply gd_dec_t <;> intro hq <;> (try (exfalso; omega))) | (apply gd_dec_f <;> intro hq <;> (try (exfalso; omega))) | (apply gd_beq_t <;> intro hq <;> (try (exfalso; omega))) | (apply gd_beq_f <;> intro hq <;> (try (exfalso; omega))) | (apply gd_bne_t <;> intro hq <;> (try (exfalso; omega))) | (apply gd_bne_f <;> intro hq <;> (try (exfalso; omega))) | (apply gd_not_t <;> intro hq) | (apply gd_not_f <;> intro hq) | (apply gd_raw_t <;> intro hq) | (apply gd_raw_f <;> intro hq)) | (apply at_thn) | (apply at_thn_ret) | (apply at_thn_exit) | (apply at_inb) | (apply at_inb_ret) | (apply at_inb_exit) | refine at_inb_pass rfl ?_ | refine c_drawn (by kernel_rfl) ?_)
  all_goals first
    | (rw [W1.out (by assumption)]; exact e_scf (.own 54 4 none 0 0 [] :: H) (.inr rfl) rfl (fun _ hw => (hw.sub (List.sublist_cons_self _ _)).nilrow _ _) ⟨_, _, rfl, rfl⟩)
    | (rw [W2.out (by first | assumption | omega) (by assumption)]; exact e_scf (.own 54 4 none 0 0 [] :: H) (.inr rfl) rfl (fun _ hw => (hw.sub (List.sublist_cons_self _ _)).nilrow _ _) ⟨_, _, rfl, rfl⟩)
    | (rw [W3.out (by first | assumption | omega) (by assumption)]; exact e_sc _ (.inr rfl) rfl (List.Sublist.refl _) ⟨_, _, rfl, rfl⟩)
theorem wantedVars_sc (G : Ctx) (H : List Ent) (m0 : Int) (hM : ∀ H w, Holds G H w → w.cell? ⟨2, 0, none⟩ = some (.int .i64 m0)) (s : ByteArray) : SC Tryd.prog G 32 [.string s] H (fun v H' => ∃ a' c', v = .tuple #[.slice a' (wantV (readP s)).1.length c', .int .i64 (wantV (readP s)).2] ∧ H' = .own 54 4 a' (wantV (readP s)).1.length c' (vrs (wantV (readP s)).1) :: H) := by
  have cR := fun H => readVars_sc G H m0 hM s
  have hl := readP_len s
  have hnil := fun h => readP_nil (s := s) h
  generalize readP s = p at *
  obtain ⟨L, e⟩ := p
  dsimp only at cR hl hnil
  have w1 : (L.any fun v => v.2.2.2) = true → wantV (L, e) = ([], 4) := fun h => by
    have he : e = 0 := Classical.byContradiction fun h2 => by rw [hnil h2] at h; cases h
    unfold wantV; rw [if_neg (fun x => x he)]; exact if_pos h
  have w2 : (L.any fun v => v.2.2.2) = false → wantV (L, e) = (L, e) := fun h => by
    by_cases he : e = 0
    · subst he
      unfold wantV; rw [if_neg (fun x => x rfl)]; exact if_neg (by rw [h]; decide)
    · unfold wantV; rw [if_pos he, hnil he]
  generalize wantV (L, e) = w at *
  have W1 := Lib.hid w1
  have W2 := Lib.hid w2
  have hlx : (vrs L).length = L.length * 4 := vrs_len L
  have hel : ∀ (k : Nat) x, L[k]? = some x → take? ((vrs L).drop ((k : Int).toNat * 4)) 4 = some (vrC x) := fun k x hx => fm_elem hx
  have Hel := Lib.hid hel
  clear w1 w2 hnil hM hel
  refine sc_enter1 Tryd.func32 rfl rfl rfl rfl rfl ?_
  repeat' (first | (apply g_sl; first | (apply ks_nil; refine sl_nil ?_) | (apply ks_move; refine s_move rfl rfl ?_) | (apply ks_bin; refine s_bin rfl rfl rfl ?_; first | fail | (first | (apply kb_add; first | refine bb_add ⟨by omega, by omega⟩ ?_ | refine bb_of rfl ?_) | refine bb_of rfl ?_)) | (apply ks_load; first | (refine s_load rfl rfl ?_; first | refine ld_cell rfl ?_ | refine ld_whole rfl ?_ | refine ld_elem rfl ?_ | refine ld_part rfl rfl ?_) | fail) | (apply ks_asgn; refine s_asgn rfl rfl ?_) | (apply ks_field; first | refine s_field (c_field0 rfl rfl) rfl ?_ | refine s_field (c_field rfl rfl) rfl ?_) | (apply ks_extr; refine s_extr (y_extract rfl rfl rfl) rfl ?_) | (apply ks_indexA; first | refine s_indexA (c_indexAddr rfl rfl rfl rfl (by omega) (by omega)) rfl ?_ | fail) | (apply ks_fn; first | (refine c_call rfl rfl rfl (cR _) rfl rfl ?_; rintro _ _ ⟨a1, k1, rfl, rfl⟩)) | (apply ks_bi; first | fail | refine s_call (c_len rfl rfl) rfl ?_ | refine s_call (c_len_str rfl rfl) rfl ?_ | refine s_call (c_bi rfl rfl rfl rfl) rfl ?_ | refine c_append rfl rfl rfl rfl (by first | rfl | simp [ints]) (by first | rfl | exact ints_one _ | exact octs_one _ | exact strs_one _) (by omega) rfl rfl (fun _ _ => ?_) | refine c_append_nil rfl rfl rfl rfl (by first | rfl | simp [ints]) (by first | rfl | exact ints_one _ | exact octs_one _ | exact strs_one _) (by omega) rfl rfl (fun _ _ => ?_)) | (apply ks_store; first | first | refine c_store rfl rfl rfl rfl rfl rfl rfl ?_ | refine c_storew rfl rfl rfl rfl rfl rfl rfl rfl ?_ | refine c_storee rfl rfl rfl rfl rfl (by omega) rfl ?_ | fail) | (apply ks_alloc; refine c_alloc rfl rfl rfl rfl (fun _ => ?_)) | fail) | (apply sw_seq) | (apply at_srd) | (apply sw_skip) | (apply sw_ret) | (apply sw_exit) | (apply sw_block) | (apply sw_region) | (refine sw_cd rfl ?_; first | (apply gd_t) | (apply gd_ft) | (apply gd_tf) | (apply gd_dec_t <;> intro hq <;> (try (exfalso; omega))) | (apply gd_dec_f <;> intro hq <;> (try (exfalso; omega))) | (apply gd_beq_t <;> intro hq <;> (try (exfalso; omega))) | (apply gd_beq_f <;> intro hq <;> (try (exfalso; omega))) | (apply gd_bne_t <;> intro hq <;> (try (exfalso; omega))) | (apply gd_bne_f <;> intro hq <;> (try (exfalso; omega))) | (apply gd_not_t <;> intro hq) | (apply gd_not_f <;> intro hq) | (apply gd_raw_t <;> intro hq) | (apply gd_raw_f <;> intro hq)) | (apply at_thn) | (apply at_thn_ret) | (apply at_thn_exit) | (apply at_inb) | (apply at_inb_ret) | (apply at_inb_exit) | refine at_inb_pass rfl ?_ | refine c_drawn (by kernel_rfl) ?_)
  refine sw_loopg (α := Nat) (fun i => [(4, .slice a1 L.length k1), (5, .int .i64 e), (13, .slice a1 L.length k1), (14, .int .i64 L.length), (15, .int .i64 i)]) (fun _ => .own 54 4 a1 L.length k1 (vrs L) :: H)
    (fun i => i ≤ L.length ∧ ∀ v ∈ L.take i, v.2.2.2 = false) (fun i => L.length - i) 0 ⟨Nat.zero_le _, fun v hv => by simp at hv⟩ (by repeat (first | exact Le.nil _ | refine Le.cons (by first | rfl | (exact congrArg some (congrArg (Value.int _) (by omega)))) ?_)) (fun _ hw => hw.subs (by repeat (first | refine Subs.cons (by repeat constructor) ?_ | exact Subs.sub (by repeat (first | exact List.Sublist.refl _ | exact List.nil_sublist _ | refine List.Sublist.cons _ ?_))))) ?_
  rintro i ⟨hi, hf⟩
  have Hf := Lib.hid hf
  clear hf
  by_cases hlt : (i : Int) < L.length
  · obtain ⟨x, hx⟩ := get_of (X := L) (k := i) (by omega)
    have hxi := Hel.out i x hx
    have hfx : x.2.2.2 = true → (L.any fun v => v.2.2.2) = true := fun h => List.any_eq_true.2 ⟨x, List.mem_of_getElem? hx, h⟩
    have hfn : x.2.2.2 = false → ∀ v ∈ L.take (i + 1), v.2.2.2 = false := fun h => take_all hx h Hf.out
    obtain ⟨nm, vl, u, st⟩ := x
    have hxi' : take? ((vrs L).drop ((i : Int).toNat * 4)) 4 = some [.string nm, .string vl, .bool u, .bool st] := hxi
    dsimp only at hfx hfn
    have Hfn := Lib.hid hfn
    have Hfx := Lib.hid hfx
    clear hxi hx hfn hfx
    cases st
    · repeat' (first | (apply g_sl; first | (apply ks_nil; refine sl_nil ?_) | (apply ks_move; refine s_move rfl rfl ?_) | (apply ks_bin; refine s_bin rfl rfl rfl ?_; first | first | (refine s_indexA (c_indexAddr rfl rfl rfl hlx (by omega) (by omega)) rfl ?_) | (refine s_load rfl rfl ?_; refine ld_elems hxi' rfl ?_) | (first | (apply kb_add; first | refine bb_add ⟨by omega, by omega⟩ ?_ | refine bb_of rfl ?_) | refine bb_of rfl ?_)) | (apply ks_load; first | (refine s_load rfl rfl ?_; first | refine ld_cell rfl ?_ | refine ld_whole rfl ?_ | refine ld_elem rfl ?_ | refine ld_part rfl rfl ?_) | first | (refine s_indexA (c_indexAddr rfl rfl rfl hlx (by omega) (by omega)) rfl ?_) | (refine s_load rfl rfl ?_; refine ld_elems hxi' rfl ?_)) | (apply ks_asgn; refine s_asgn rfl rfl ?_) | (apply ks_field; first | refine s_field (c_field0 rfl rfl) rfl ?_ | refine s_field (c_field rfl rfl) rfl ?_) | (apply ks_extr; refine s_extr (y_extract rfl rfl rfl) rfl ?_) | (apply ks_indexA; first | refine s_indexA (c_indexAddr rfl rfl rfl rfl (by omega) (by omega)) rfl ?_ | first | (refine s_indexA (c_indexAddr rfl rfl rfl hlx (by omega) (by omega)) rfl ?_) | (refine s_load rfl rfl ?_; refine ld_elems hxi' rfl ?_)) | (apply ks_fn; first | fail) | (apply ks_bi; first | first | (refine s_indexA (c_indexAddr rfl rfl rfl hlx (by omega) (by omega)) rfl ?_) | (refine s_load rfl rfl ?_; refine ld_elems hxi' rfl ?_) | refine s_call (c_len rfl rfl) rfl ?_ | refine s_call (c_len_str rfl rfl) rfl ?_ | refine s_call (c_bi rfl rfl rfl rfl) rfl ?_ | refine c_append rfl rfl rfl rfl (by first | rfl | simp [ints]) (by first | rfl | exact ints_one _ | exact octs_one _ | exact strs_one _) (by omega) rfl rfl (fun _ _ => ?_) | refine c_append_nil rfl rfl rfl rfl (by first | rfl | simp [ints]) (by first | rfl | exact ints_one _ | exact octs_one _ | exact strs_one _) (by omega) rfl rfl (fun _ _ => ?_)) | (apply ks_store; first | first | refine c_store rfl rfl rfl rfl rfl rfl rfl ?_ | refine c_storew rfl rfl rfl rfl rfl rfl rfl rfl ?_ | refine c_storee rfl rfl rfl rfl rfl (by omega) rfl ?_ | first | (refine s_indexA (c_indexAddr rfl rfl rfl hlx (by omega) (by omega)) rfl ?_) | (refine s_load rfl rfl ?_; refine ld_elems hxi' rfl ?_)) | (apply ks_alloc; refine c_alloc rfl rfl rfl rfl (fun _ => ?_)) | first | (refine s_indexA (c_indexAddr rfl rfl rfl hlx (by omega) (by omega)) rfl ?_) | (refine s_load rfl rfl ?_; refine ld_elems hxi' rfl ?_)) | (apply sw_seq) | (apply at_srd) | (apply sw_skip) | (apply sw_ret) | (apply sw_exit) | (apply sw_block) | (apply sw_region) | (refine sw_cd rfl ?_; first | (apply gd_t) | (apply gd_ft) | (apply gd_tf) | (apply gd_dec_t <;> intro hq <;> (try (exfalso; omega))) | (apply gd_dec_f <;> intro hq <;> (try (exfalso; omega))) | (apply gd_beq_t <;> intro hq <;> (try (exfalso; omega))) | (apply gd_beq_f <;> intro hq <;> (try (exfalso; omega))) | (apply gd_bne_t <;> intro hq <;> (try (exfalso; omega))) | (apply gd_bne_f <;> intro hq <;> (try (exfalso; omega))) | (apply gd_not_t <;> intro hq) | (apply gd_not_f <;> intro hq) | (apply gd_raw_t <;> intro hq) | (apply gd_raw_f <;> intro hq)) | (apply at_thn) | (apply at_thn_ret) | (apply at_thn_exit) | (apply at_inb) | (apply at_inb_ret) | (apply at_inb_exit) | refine at_inb_pass rfl ?_ | refine c_drawn (by kernel_rfl) ?_)
      exact at_meet (i + 1) ⟨⟨by omega, Hfn.out rfl⟩, by omega⟩ (by repeat (first | exact Le.nil _ | refine Le.cons (by first | rfl | (exact congrArg some (congrArg (Value.int _) (by omega)))) ?_)) (fun _ hw => hw.subs (by repeat (first | refine Subs.cons (by repeat constructor) ?_ | exact Subs.sub (by repeat (first | exact List.Sublist.refl _ | exact List.nil_sublist _ | refine List.Sublist.cons _ ?_)))))
    · repeat' (first | (apply g_sl; first | (apply ks_nil; refine sl_nil ?_) | (apply ks_move; refine s_move rfl rfl ?_) | (apply ks_bin; refine s_bin rfl rfl rfl ?_; first | first | (refine s_indexA (c_indexAddr rfl rfl rfl hlx (by omega) (by omega)) rfl ?_) | (refine s_load rfl rfl ?_; refine ld_elems hxi' rfl ?_) | (first | (apply kb_add; first | refine bb_add ⟨by omega, by omega⟩ ?_ | refine bb_of rfl ?_) | refine bb_of rfl ?_)) | (apply ks_load; first | (refine s_load rfl rfl ?_; first | refine ld_cell rfl ?_ | refine ld_whole rfl ?_ | refine ld_elem rfl ?_ | refine ld_part rfl rfl ?_) | first | (refine s_indexA (c_indexAddr rfl rfl rfl hlx (by omega) (by omega)) rfl ?_) | (refine s_load rfl rfl ?_; refine ld_elems hxi' rfl ?_)) | (apply ks_asgn; refine s_asgn rfl rfl ?_) | (apply ks_field; first | refine s_field (c_field0 rfl rfl) rfl ?_ | refine s_field (c_field rfl rfl) rfl ?_) | (apply ks_extr; refine s_extr (y_extract rfl rfl rfl) rfl ?_) | (apply ks_indexA; first | refine s_indexA (c_indexAddr rfl rfl rfl rfl (by omega) (by omega)) rfl ?_ | first | (refine s_indexA (c_indexAddr rfl rfl rfl hlx (by omega) (by omega)) rfl ?_) | (refine s_load rfl rfl ?_; refine ld_elems hxi' rfl ?_)) | (apply ks_fn; first | fail) | (apply ks_bi; first | first | (refine s_indexA (c_indexAddr rfl rfl rfl hlx (by omega) (by omega)) rfl ?_) | (refine s_load rfl rfl ?_; refine ld_elems hxi' rfl ?_) | refine s_call (c_len rfl rfl) rfl ?_ | refine s_call (c_len_str rfl rfl) rfl ?_ | refine s_call (c_bi rfl rfl rfl rfl) rfl ?_ | refine c_append rfl rfl rfl rfl (by first | rfl | simp [ints]) (by first | rfl | exact ints_one _ | exact octs_one _ | exact strs_one _) (by omega) rfl rfl (fun _ _ => ?_) | refine c_append_nil rfl rfl rfl rfl (by first | rfl | simp [ints]) (by first | rfl | exact ints_one _ | exact octs_one _ | exact strs_one _) (by omega) rfl rfl (fun _ _ => ?_)) | (apply ks_store; first | first | refine c_store rfl rfl rfl rfl rfl rfl rfl ?_ | refine c_storew rfl rfl rfl rfl rfl rfl rfl rfl ?_ | refine c_storee rfl rfl rfl rfl rfl (by omega) rfl ?_ | first | (refine s_indexA (c_indexAddr rfl rfl rfl hlx (by omega) (by omega)) rfl ?_) | (refine s_load rfl rfl ?_; refine ld_elems hxi' rfl ?_)) | (apply ks_alloc; refine c_alloc rfl rfl rfl rfl (fun _ => ?_)) | first | (refine s_indexA (c_indexAddr rfl rfl rfl hlx (by omega) (by omega)) rfl ?_) | (refine s_load rfl rfl ?_; refine ld_elems hxi' rfl ?_)) | (apply sw_seq) | (apply at_srd) | (apply sw_skip) | (apply sw_ret) | (apply sw_exit) | (apply sw_block) | (apply sw_region) | (refine sw_cd rfl ?_; first | (apply gd_t) | (apply gd_ft) | (apply gd_tf) | (apply gd_dec_t <;> intro hq <;> (try (exfalso; omega))) | (apply gd_dec_f <;> intro hq <;> (try (exfalso; omega))) | (apply gd_beq_t <;> intro hq <;> (try (exfalso; omega))) | (apply gd_beq_f <;> intro hq <;> (try (exfalso; omega))) | (apply gd_bne_t <;> intro hq <;> (try (exfalso; omega))) | (apply gd_bne_f <;> intro hq <;> (try (exfalso; omega))) | (apply gd_not_t <;> intro hq) | (apply gd_not_f <;> intro hq) | (apply gd_raw_t <;> intro hq) | (apply gd_raw_f <;> intro hq)) | (apply at_thn) | (apply at_thn_ret) | (apply at_thn_exit) | (apply at_inb) | (apply at_inb_ret) | (apply at_inb_exit) | refine at_inb_pass rfl ?_ | refine c_drawn (by kernel_rfl) ?_)
      rw [W1.out (Hfx.out rfl)]
      exact e_scf (.own 54 4 none 0 0 [] :: H) (.inr rfl) rfl (fun _ hw => (hw.sub ((List.sublist_cons_self _ _).trans (List.sublist_cons_self _ _))).nilrow _ _) ⟨_, _, rfl, rfl⟩
  · obtain rfl : i = L.length := by omega
    have hnf : (L.any fun v => v.2.2.2) = false := by
      have h1 := Hf.out
      rw [List.take_length] at h1
      rw [← Bool.not_eq_true, List.any_eq_true]
      rintro ⟨v, hv, h⟩
      exact Bool.noConfusion ((h1 v hv).symm.trans h)
    rw [W2.out hnf]
    repeat' (first | (apply g_sl; first | (apply ks_nil; refine sl_nil ?_) | (apply ks_move; refine s_move rfl rfl ?_) | (apply ks_bin; refine s_bin rfl rfl rfl ?_; first | fail | (first | (apply kb_add; first | refine bb_add ⟨by omega, by omega⟩ ?_ | refine bb_of rfl ?_) | refine bb_of rfl ?_)) | (apply ks_load; first | (refine s_load rfl rfl ?_; first | refine ld_cell rfl ?_ | refine ld_whole rfl ?_ | refine ld_elem rfl ?_ | refine ld_part rfl rfl ?_) | fail) | (apply ks_asgn; refine s_asgn rfl rfl ?_) | (apply ks_field; first | refine s_field (c_field0 rfl rfl) rfl ?_ | refine s_field (c_field rfl rfl) rfl ?_) | (apply ks_extr; refine s_extr (y_extract rfl rfl rfl) rfl ?_) | (apply ks_indexA; first | refine s_indexA (c_indexAddr rfl rfl rfl rfl (by omega) (by omega)) rfl ?_ | fail) | (apply ks_fn; first | fail) | (apply ks_bi; first | fail | refine s_call (c_len rfl rfl) rfl ?_ | refine s_call (c_len_str rfl rfl) rfl ?_ | refine s_call (c_bi rfl rfl rfl rfl) rfl ?_ | refine c_append rfl rfl rfl rfl (by first | rfl | simp [ints]) (by first | rfl | exact ints_one _ | exact octs_one _ | exact strs_one _) (by omega) rfl rfl (fun _ _ => ?_) | refine c_append_nil rfl rfl rfl rfl (by first | rfl | simp [ints]) (by first | rfl | exact ints_one _ | exact octs_one _ | exact strs_one _) (by omega) rfl rfl (fun _ _ => ?_)) | (apply ks_store; first | first | refine c_store rfl rfl rfl rfl rfl rfl rfl ?_ | refine c_storew rfl rfl rfl rfl rfl rfl rfl rfl ?_ | refine c_storee rfl rfl rfl rfl rfl (by omega) rfl ?_ | fail) | (apply ks_alloc; refine c_alloc rfl rfl rfl rfl (fun _ => ?_)) | fail) | (apply sw_seq) | (apply at_srd) | (apply sw_skip) | (apply sw_ret) | (apply sw_exit) | (apply sw_block) | (apply sw_region) | (refine sw_cd rfl ?_; first | (apply gd_t) | (apply gd_ft) | (apply gd_tf) | (apply gd_dec_t <;> intro hq <;> (try (exfalso; omega))) | (apply gd_dec_f <;> intro hq <;> (try (exfalso; omega))) | (apply gd_beq_t <;> intro hq <;> (try (exfalso; omega))) | (apply gd_beq_f <;> intro hq <;> (try (exfalso; omega))) | (apply gd_bne_t <;> intro hq <;> (try (exfalso; omega))) | (apply gd_bne_f <;> intro hq <;> (try (exfalso; omega))) | (apply gd_not_t <;> intro hq) | (apply gd_not_f <;> intro hq) | (apply gd_raw_t <;> intro hq) | (apply gd_raw_f <;> intro hq)) | (apply at_thn) | (apply at_thn_ret) | (apply at_thn_exit) | (apply at_inb) | (apply at_inb_ret) | (apply at_inb_exit) | refine at_inb_pass rfl ?_ | refine c_drawn (by kernel_rfl) ?_)
    exact e_sc _ (.inr rfl) rfl (List.Sublist.refl _) ⟨_, _, rfl, rfl⟩
theorem vrEq (v : Vr) : EqVal Tryd.prog 10000 54 (.agg (vrC v).toArray) (.agg (vrC v).toArray) true := by
  obtain ⟨nm, vl, u, st⟩ := v
  have hfs : Tryd.prog.fieldsOf 54 = (match Tryd.prog.underlying 54 with | some (.struct fs) => fs | _ => #[]) := rfl
  refine eqval_struct (d := 9999) (by rw [hfs, Tryd.underlying54]) (by kernel_rfl) ?_
  rw [hfs, Tryd.underlying54]
  refine .eq (by decide) (u := .string nm) (v := .string nm) (part_one rfl) (part_one rfl) (eqself_str _) ?_
  refine .eq (by decide) (u := .string vl) (v := .string vl) (part_one rfl) (part_one rfl) (eqself_str _) ?_
  refine .eq (by decide) (u := .bool u) (v := .bool u) (part_one rfl) (part_one rfl) (eqself_bool _ rfl) ?_
  exact .eq (by decide) (u := .bool st) (v := .bool st) (part_one rfl) (part_one rfl) (eqself_bool _ rfl) .nil
end Go.Proofs.YteicfkhaaeoheaaDoor
