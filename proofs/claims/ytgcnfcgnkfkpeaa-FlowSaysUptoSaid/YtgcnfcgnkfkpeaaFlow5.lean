/- farref.SameRows; Flow, Flowed, Lines, Unflowed, Again whatever is handed in. -/
import Derived.Test.YtgcnfcgnkfkpeaaFlow4
import Derived.Test.YtgcnfcgnkfkpeaaEqF
namespace Go.Proofs.Ytgcnfcgnkfkpeaa
open Go Go.RowKit Go.Fw Go.Sx
set_option maxRecDepth 100000
set_option maxHeartbeats 1000000
attribute [local irreducible] SW SL SQ AtQ SV SC BB LD PK Yields SO SOT SOA SY
theorem pur_1 {x y : Rr} (h : pur x = pur y) : x.1.2.2 = y.1.2.2 ∧ x.2 = y.2 := ⟨congrArg (·.1) h, congrArg (·.2) h⟩
theorem sameRow1_sv (G : Ctx) (H : List Ent) (x y : Rr) (hx : Sl ints G H x.1) (hy : Sl ints G H y.1) (he : pur x = pur y) : SV Try.prog G 55 [.agg (enR x).toArray, .agg (enR y).toArray] H (.bool true) := by
  have c := fun H' hx hy => eqI_sv G H' x.1 y.1 hx hy (pur_1 he).1
  have he2 := (pur_1 he).2
  clear he
  obtain ⟨⟨a, c1, L⟩, b⟩ := x
  obtain ⟨⟨a2, c2, L2⟩, b2⟩ := y
  dsimp only at he2
  subst he2
  refine sv_enter2 Try.func55 rfl rfl rfl rfl rfl ?_
  cases b
  all_goals
    repeat' (first | (apply g_sl; first | (apply ks_nil; refine sl_nil ?_) | (apply ks_move; refine s_move rfl rfl ?_) | (apply ks_bin; refine s_bin rfl rfl rfl ?_; first | fail | (first | refine bb_of rfl ?_)) | (apply ks_load; first | (refine s_load rfl rfl ?_; first | refine ld_cell rfl ?_ | refine ld_whole rfl ?_ | refine ld_elem rfl ?_ | refine ld_part rfl rfl ?_) | fail) | (apply ks_asgn; refine s_asgn rfl rfl ?_) | (apply ks_pick; refine s_pick rfl rfl ?_; first | (apply kp_t; refine pk_t rfl ?_) | (apply kp_f; refine pk_f rfl ?_) | refine pk_s rfl rfl ?_) | (apply ks_field; first | refine s_field (c_field0 rfl rfl) rfl ?_ | refine s_field (c_field rfl rfl) rfl ?_) | (apply ks_fn; first | refine c_callv rfl rfl rfl (c _ hx.cons.cons hy.cons.cons) rfl rfl ?_) | (apply ks_box; refine c_box rfl rfl rfl rfl rfl rfl (fun _ => ?_)) | (apply ks_guard; first | (refine sl_gd rfl rfl rfl rfl ?_; first | (apply gd_t) | (apply gd_ft) | (apply gd_tf) | (apply gd_dec_t <;> intro hq <;> (try (exfalso; omega))) | (apply gd_dec_f <;> intro hq <;> (try (exfalso; omega))) | (apply gd_beq_t <;> intro hq <;> (try (exfalso; omega))) | (apply gd_beq_f <;> intro hq <;> (try (exfalso; omega))) | (apply gd_bne_t <;> intro hq <;> (try (exfalso; omega))) | (apply gd_bne_f <;> intro hq <;> (try (exfalso; omega))) | (apply gd_not_t <;> intro hq) | (apply gd_not_f <;> intro hq) | (apply gd_raw_t <;> intro hq) | (apply gd_raw_f <;> intro hq)) | refine sl_skip_u rfl rfl rfl rfl rfl rfl ?_) | fail) | (apply sw_seq) | (apply at_srd) | (apply sw_skip) | (apply sw_ret) | (apply sw_exit) | (apply sw_block) | (apply sw_region) | (refine sw_cd rfl ?_; first | (apply gd_t) | (apply gd_ft) | (apply gd_tf) | (apply gd_dec_t <;> intro hq <;> (try (exfalso; omega))) | (apply gd_dec_f <;> intro hq <;> (try (exfalso; omega))) | (apply gd_beq_t <;> intro hq <;> (try (exfalso; omega))) | (apply gd_beq_f <;> intro hq <;> (try (exfalso; omega))) | (apply gd_bne_t <;> intro hq <;> (try (exfalso; omega))) | (apply gd_bne_f <;> intro hq <;> (try (exfalso; omega))) | (apply gd_not_t <;> intro hq) | (apply gd_not_f <;> intro hq) | (apply gd_raw_t <;> intro hq) | (apply gd_raw_f <;> intro hq)) | (apply at_thn) | (apply at_thn_ret) | (apply at_thn_exit) | (apply at_inb) | (apply at_inb_ret) | (apply at_inb_exit) | refine at_inb_pass rfl ?_ | refine c_drawn (by kernel_rfl) ?_)
    refine e_sv (by first | exact .inl rfl | exact .inr rfl) rfl (by repeat (first | exact List.Sublist.refl _ | exact List.nil_sublist _ | refine List.Sublist.cons _ ?_)) ?_
    rfl
theorem sameRows_sv (G : Ctx) (H : List Ent) (X Y : List Rr) (ao ay : Option Addr) (n m co cy : Nat) {vs us : List Value} [h1 : RdC G H ao vs] [h2 : RdC G H ay us] (hv : vs = X.flatMap enR) (hu : us = Y.flatMap enR) (hX : RdX ints G H (X.map (·.1))) (hY : RdX ints G H (Y.map (·.1))) (hn : n = X.length) (hm : n ≤ 9223372036854775807) (hn2 : m = Y.length) (he : X.map pur = Y.map pur) : SV Try.prog G 15 [.slice ao n co, .slice ay m cy] H (.bool true) := by
  have key : ∀ (H' : List Ent), (∀ w, Holds G H' w → Holds G H w) → SV Try.prog G 54 [.slice ao n co, .slice ay m cy, .func (.func 55) #[] #[]] H' (.bool true) := fun H' hH => by
    haveI : RdC G H' ao vs := ⟨h1.here.mono hH⟩
    haveI : RdC G H' ay us := ⟨h2.here.mono hH⟩
    replace hX := hX.mono hH
    replace hY := hY.mono hH
    subst hv
    subst hu
    have hl : X.length = Y.length := by simpa using congrArg List.length he
    obtain rfl : n = m := by omega
    clear hn2
    have hlx : (X.flatMap enR).length = n * 2 := by rw [fm_len, hn]
    have hly : (Y.flatMap enR).length = n * 2 := by rw [fm_len, hn, hl]
    have Hn := Lib.hid hn
    clear hn
    refine sv_enter3 Try.func54 rfl rfl rfl rfl rfl ?_
    repeat' (first | (apply g_sl; first | (apply ks_nil; refine sl_nil ?_) | (apply ks_move; refine s_move rfl rfl ?_) | (apply ks_bin; refine s_bin rfl rfl rfl ?_; first | fail | (first | (apply kb_add; first | refine bb_add ⟨by omega, by omega⟩ ?_ | refine bb_of rfl ?_) | refine bb_of rfl ?_)) | (apply ks_load; first | (refine s_load rfl rfl ?_; first | refine ld_cell rfl ?_ | refine ld_whole rfl ?_ | refine ld_elem rfl ?_ | refine ld_part rfl rfl ?_) | fail) | (apply ks_asgn; refine s_asgn rfl rfl ?_) | (apply ks_un; refine s_un (y_un rfl rfl rfl) rfl ?_) | (apply ks_indexA; first | refine s_indexA (c_indexAddr rfl rfl rfl rfl (by omega) (by omega)) rfl ?_ | fail) | (apply ks_fn; first | fail) | (apply ks_bi; first | fail | refine s_call (c_len rfl rfl) rfl ?_ | refine s_call (c_len_str rfl rfl) rfl ?_ | refine s_call (c_bi rfl rfl rfl rfl) rfl ?_ | refine c_append rfl rfl rfl rfl (by first | rfl | simp [ints]) (by first | rfl | exact ints_one _ | exact octs_one _ | exact strs_one _) (by omega) rfl rfl (fun _ _ => ?_) | refine c_append_nil rfl rfl rfl rfl (by first | rfl | simp [ints]) (by first | rfl | exact ints_one _ | exact octs_one _ | exact strs_one _) (by omega) rfl rfl (fun _ _ => ?_)) | (apply ks_store; first | first | refine c_store rfl rfl rfl rfl rfl rfl rfl ?_ | refine c_storew rfl rfl rfl rfl rfl rfl rfl rfl ?_ | refine c_storee rfl rfl rfl rfl rfl (by omega) rfl ?_ | fail) | (apply ks_alloc; refine c_alloc rfl rfl rfl rfl (fun _ => ?_)) | fail) | (apply sw_seq) | (apply at_srd) | (apply sw_skip) | (apply sw_ret) | (apply sw_exit) | (apply sw_block) | (apply sw_region) | (refine sw_cd rfl ?_; first | (apply gd_t) | (apply gd_ft) | (apply gd_tf) | (apply gd_dec_t <;> intro hq <;> (try (exfalso; omega))) | (apply gd_dec_f <;> intro hq <;> (try (exfalso; omega))) | (apply gd_beq_t <;> intro hq <;> (try (exfalso; omega))) | (apply gd_beq_f <;> intro hq <;> (try (exfalso; omega))) | (apply gd_bne_t <;> intro hq <;> (try (exfalso; omega))) | (apply gd_bne_f <;> intro hq <;> (try (exfalso; omega))) | (apply gd_not_t <;> intro hq) | (apply gd_not_f <;> intro hq) | (apply gd_raw_t <;> intro hq) | (apply gd_raw_f <;> intro hq)) | (apply at_thn) | (apply at_thn_ret) | (apply at_thn_exit) | (apply at_inb) | (apply at_inb_ret) | (apply at_inb_exit) | refine at_inb_pass rfl ?_ | refine c_drawn (by kernel_rfl) ?_)
    refine sw_loopg (α := Nat) (fun k => [(1, .slice ay n cy), (2, .func (.func 55) #[] #[]), (15, .slice ao n co), (16, .int .i64 n), (17, .int .i64 k)]) (fun _ => H')
      (fun k => k ≤ n) (fun k => n - k) 0 (Nat.zero_le _) (by repeat (first | exact Le.nil _ | refine Le.cons (by first | rfl | (exact congrArg some (congrArg (Value.int _) (by omega)))) ?_)) (fun _ hw => hw.subs (by repeat (first | refine Subs.cons (by repeat constructor) ?_ | exact Subs.sub (by repeat (first | exact List.Sublist.refl _ | exact List.nil_sublist _ | refine List.Sublist.cons _ ?_))))) ?_
    intro k hk
    by_cases hlt : (k : Int) < n
    · obtain ⟨⟨⟨a, c, L⟩, b⟩, hx⟩ := get_of (X := X) (k := k) (by rw [← Hn.out]; omega)
      obtain ⟨⟨⟨a2, c2, L2⟩, b2⟩, hy⟩ := get_of (X := Y) (k := k) (by rw [← hl, ← Hn.out]; omega)
      have hx' := enR_elem hx
      have hy' := enR_elem hy
      have heq : pur ((a, c, L), b) = pur ((a2, c2, L2), b2) := by
        have h5 := map_at pur hx
        rw [he, map_at pur hy] at h5
        exact (Option.some.inj h5).symm
      have cc := fun H' h3 h4 => sameRow1_sv G H' ((a, c, L), b) ((a2, c2, L2), b2) h3 h4 heq
      have sx := hX.at (map_at (·.1) hx)
      have sy := hY.at (map_at (·.1) hy)
      clear he hX hY
      repeat' (first | (apply g_sl; first | (apply ks_nil; refine sl_nil ?_) | (apply ks_move; refine s_move rfl rfl ?_) | (apply ks_bin; refine s_bin rfl rfl rfl ?_; first | first | (refine s_indexA (c_indexAddr rfl rfl rfl hlx (by omega) (by omega)) rfl ?_) | (refine s_indexA (c_indexAddr rfl rfl rfl hly (by omega) (by omega)) rfl ?_) | (refine s_load rfl rfl ?_; first | refine ld_elems hx' rfl ?_ | refine ld_elems hy' rfl ?_) | (refine c_calldv rfl rfl rfl rfl (cc _ sx.cons.cons sy.cons.cons) rfl rfl ?_) | (first | (apply kb_add; first | refine bb_add ⟨by omega, by omega⟩ ?_ | refine bb_of rfl ?_) | refine bb_of rfl ?_)) | (apply ks_load; first | (refine s_load rfl rfl ?_; first | refine ld_cell rfl ?_ | refine ld_whole rfl ?_ | refine ld_elem rfl ?_ | refine ld_part rfl rfl ?_) | first | (refine s_indexA (c_indexAddr rfl rfl rfl hlx (by omega) (by omega)) rfl ?_) | (refine s_indexA (c_indexAddr rfl rfl rfl hly (by omega) (by omega)) rfl ?_) | (refine s_load rfl rfl ?_; first | refine ld_elems hx' rfl ?_ | refine ld_elems hy' rfl ?_) | (refine c_calldv rfl rfl rfl rfl (cc _ sx.cons.cons sy.cons.cons) rfl rfl ?_)) | (apply ks_asgn; refine s_asgn rfl rfl ?_) | (apply ks_un; refine s_un (y_un rfl rfl rfl) rfl ?_) | (apply ks_indexA; first | refine s_indexA (c_indexAddr rfl rfl rfl rfl (by omega) (by omega)) rfl ?_ | first | (refine s_indexA (c_indexAddr rfl rfl rfl hlx (by omega) (by omega)) rfl ?_) | (refine s_indexA (c_indexAddr rfl rfl rfl hly (by omega) (by omega)) rfl ?_) | (refine s_load rfl rfl ?_; first | refine ld_elems hx' rfl ?_ | refine ld_elems hy' rfl ?_) | (refine c_calldv rfl rfl rfl rfl (cc _ sx.cons.cons sy.cons.cons) rfl rfl ?_)) | (apply ks_fn; first | fail) | (apply ks_bi; first | first | (refine s_indexA (c_indexAddr rfl rfl rfl hlx (by omega) (by omega)) rfl ?_) | (refine s_indexA (c_indexAddr rfl rfl rfl hly (by omega) (by omega)) rfl ?_) | (refine s_load rfl rfl ?_; first | refine ld_elems hx' rfl ?_ | refine ld_elems hy' rfl ?_) | (refine c_calldv rfl rfl rfl rfl (cc _ sx.cons.cons sy.cons.cons) rfl rfl ?_) | refine s_call (c_len rfl rfl) rfl ?_ | refine s_call (c_len_str rfl rfl) rfl ?_ | refine s_call (c_bi rfl rfl rfl rfl) rfl ?_ | refine c_append rfl rfl rfl rfl (by first | rfl | simp [ints]) (by first | rfl | exact ints_one _ | exact octs_one _ | exact strs_one _) (by omega) rfl rfl (fun _ _ => ?_) | refine c_append_nil rfl rfl rfl rfl (by first | rfl | simp [ints]) (by first | rfl | exact ints_one _ | exact octs_one _ | exact strs_one _) (by omega) rfl rfl (fun _ _ => ?_)) | (apply ks_store; first | first | refine c_store rfl rfl rfl rfl rfl rfl rfl ?_ | refine c_storew rfl rfl rfl rfl rfl rfl rfl rfl ?_ | refine c_storee rfl rfl rfl rfl rfl (by omega) rfl ?_ | first | (refine s_indexA (c_indexAddr rfl rfl rfl hlx (by omega) (by omega)) rfl ?_) | (refine s_indexA (c_indexAddr rfl rfl rfl hly (by omega) (by omega)) rfl ?_) | (refine s_load rfl rfl ?_; first | refine ld_elems hx' rfl ?_ | refine ld_elems hy' rfl ?_) | (refine c_calldv rfl rfl rfl rfl (cc _ sx.cons.cons sy.cons.cons) rfl rfl ?_)) | (apply ks_alloc; refine c_alloc rfl rfl rfl rfl (fun _ => ?_)) | first | (refine s_indexA (c_indexAddr rfl rfl rfl hlx (by omega) (by omega)) rfl ?_) | (refine s_indexA (c_indexAddr rfl rfl rfl hly (by omega) (by omega)) rfl ?_) | (refine s_load rfl rfl ?_; first | refine ld_elems hx' rfl ?_ | refine ld_elems hy' rfl ?_) | (refine c_calldv rfl rfl rfl rfl (cc _ sx.cons.cons sy.cons.cons) rfl rfl ?_)) | (apply sw_seq) | (apply at_srd) | (apply sw_skip) | (apply sw_ret) | (apply sw_exit) | (apply sw_block) | (apply sw_region) | (refine sw_cd rfl ?_; first | (apply gd_t) | (apply gd_ft) | (apply gd_tf) | (apply gd_dec_t <;> intro hq <;> (try (exfalso; omega))) | (apply gd_dec_f <;> intro hq <;> (try (exfalso; omega))) | (apply gd_beq_t <;> intro hq <;> (try (exfalso; omega))) | (apply gd_beq_f <;> intro hq <;> (try (exfalso; omega))) | (apply gd_bne_t <;> intro hq <;> (try (exfalso; omega))) | (apply gd_bne_f <;> intro hq <;> (try (exfalso; omega))) | (apply gd_not_t <;> intro hq) | (apply gd_not_f <;> intro hq) | (apply gd_raw_t <;> intro hq) | (apply gd_raw_f <;> intro hq)) | (apply at_thn) | (apply at_thn_ret) | (apply at_thn_exit) | (apply at_inb) | (apply at_inb_ret) | (apply at_inb_exit) | refine at_inb_pass rfl ?_ | refine c_drawn (by kernel_rfl) ?_)
      exact at_meet (k + 1) ⟨by omega, by omega⟩ (by repeat (first | exact Le.nil _ | refine Le.cons (by first | rfl | (exact congrArg some (congrArg (Value.int _) (by omega)))) ?_)) (fun _ hw => hw.subs (by repeat (first | refine Subs.cons (by repeat constructor) ?_ | exact Subs.sub (by repeat (first | exact List.Sublist.refl _ | exact List.nil_sublist _ | refine List.Sublist.cons _ ?_)))))
    · obtain rfl : k = n := by omega
      repeat' (first | (apply g_sl; first | (apply ks_nil; refine sl_nil ?_) | (apply ks_move; refine s_move rfl rfl ?_) | (apply ks_bin; refine s_bin rfl rfl rfl ?_; first | fail | (first | (apply kb_add; first | refine bb_add ⟨by omega, by omega⟩ ?_ | refine bb_of rfl ?_) | refine bb_of rfl ?_)) | (apply ks_load; first | (refine s_load rfl rfl ?_; first | refine ld_cell rfl ?_ | refine ld_whole rfl ?_ | refine ld_elem rfl ?_ | refine ld_part rfl rfl ?_) | fail) | (apply ks_asgn; refine s_asgn rfl rfl ?_) | (apply ks_un; refine s_un (y_un rfl rfl rfl) rfl ?_) | (apply ks_indexA; first | refine s_indexA (c_indexAddr rfl rfl rfl rfl (by omega) (by omega)) rfl ?_ | fail) | (apply ks_fn; first | fail) | (apply ks_bi; first | fail | refine s_call (c_len rfl rfl) rfl ?_ | refine s_call (c_len_str rfl rfl) rfl ?_ | refine s_call (c_bi rfl rfl rfl rfl) rfl ?_ | refine c_append rfl rfl rfl rfl (by first | rfl | simp [ints]) (by first | rfl | exact ints_one _ | exact octs_one _ | exact strs_one _) (by omega) rfl rfl (fun _ _ => ?_) | refine c_append_nil rfl rfl rfl rfl (by first | rfl | simp [ints]) (by first | rfl | exact ints_one _ | exact octs_one _ | exact strs_one _) (by omega) rfl rfl (fun _ _ => ?_)) | (apply ks_store; first | first | refine c_store rfl rfl rfl rfl rfl rfl rfl ?_ | refine c_storew rfl rfl rfl rfl rfl rfl rfl rfl ?_ | refine c_storee rfl rfl rfl rfl rfl (by omega) rfl ?_ | fail) | (apply ks_alloc; refine c_alloc rfl rfl rfl rfl (fun _ => ?_)) | fail) | (apply sw_seq) | (apply at_srd) | (apply sw_skip) | (apply sw_ret) | (apply sw_exit) | (apply sw_block) | (apply sw_region) | (refine sw_cd rfl ?_; first | (apply gd_t) | (apply gd_ft) | (apply gd_tf) | (apply gd_dec_t <;> intro hq <;> (try (exfalso; omega))) | (apply gd_dec_f <;> intro hq <;> (try (exfalso; omega))) | (apply gd_beq_t <;> intro hq <;> (try (exfalso; omega))) | (apply gd_beq_f <;> intro hq <;> (try (exfalso; omega))) | (apply gd_bne_t <;> intro hq <;> (try (exfalso; omega))) | (apply gd_bne_f <;> intro hq <;> (try (exfalso; omega))) | (apply gd_not_t <;> intro hq) | (apply gd_not_f <;> intro hq) | (apply gd_raw_t <;> intro hq) | (apply gd_raw_f <;> intro hq)) | (apply at_thn) | (apply at_thn_ret) | (apply at_thn_exit) | (apply at_inb) | (apply at_inb_ret) | (apply at_inb_exit) | refine at_inb_pass rfl ?_ | refine c_drawn (by kernel_rfl) ?_)
      refine e_sv (by first | exact .inl rfl | exact .inr rfl) rfl (by repeat (first | exact List.Sublist.refl _ | exact List.nil_sublist _ | refine List.Sublist.cons _ ?_)) ?_
      rfl
  have k0 := key H (fun _ h => h)
  clear key he hn hn2 hv hu hX hY
  refine sv_enter2 Try.func15 rfl rfl rfl rfl rfl ?_
  repeat' (first | (apply g_sl; first | (apply ks_nil; refine sl_nil ?_) | (apply ks_move; refine s_move rfl rfl ?_) | (apply ks_asgn; refine s_asgn rfl rfl ?_) | (apply ks_fn; first | refine c_callv rfl rfl rfl (k0) rfl rfl ?_) | fail) | (apply sw_seq) | (apply at_srd) | (apply sw_skip) | (apply sw_ret) | (apply sw_exit) | (apply sw_block) | (apply sw_region) | (refine sw_cd rfl ?_; first | (apply gd_t) | (apply gd_ft) | (apply gd_tf) | (apply gd_dec_t <;> intro hq <;> (try (exfalso; omega))) | (apply gd_dec_f <;> intro hq <;> (try (exfalso; omega))) | (apply gd_beq_t <;> intro hq <;> (try (exfalso; omega))) | (apply gd_beq_f <;> intro hq <;> (try (exfalso; omega))) | (apply gd_bne_t <;> intro hq <;> (try (exfalso; omega))) | (apply gd_bne_f <;> intro hq <;> (try (exfalso; omega))) | (apply gd_not_t <;> intro hq) | (apply gd_not_f <;> intro hq) | (apply gd_raw_t <;> intro hq) | (apply gd_raw_f <;> intro hq)) | (apply at_thn) | (apply at_thn_ret) | (apply at_thn_exit) | (apply at_inb) | (apply at_inb_ret) | (apply at_inb_exit) | refine at_inb_pass rfl ?_ | refine c_drawn (by kernel_rfl) ?_)
  refine e_sv (by first | exact .inl rfl | exact .inr rfl) rfl (by repeat (first | exact List.Sublist.refl _ | exact List.nil_sublist _ | refine List.Sublist.cons _ ?_)) ?_
  rfl
/-- What Flow answers. -/
def flowR (w : Int) (ls : List (List Int)) : Int × List (List Int × Bool) := if ¬ (2 ≤ w ∧ w ≤ 160) then (1, []) else if 500 < ls.length ∨ 4000 < lens ls then (2, []) else (0, flow w ls)
/-- What Lines answers. -/
def linesR (P : List (List Int × Bool)) : Int × List (List Int) := if 4500 < P.length ∨ 4000 < lens (P.map (·.1)) then (2, []) else if (P.getLast?.map (·.2)) = some true then (4, []) else (0, un [] P)
def againR (w : Int) (P : List (List Int × Bool)) : Int × List (List Int × Bool) := if (linesR P).1 ≠ 0 then ((linesR P).1, []) else flowR w (linesR P).2
/-- Rows come back. -/
def GotR (G : Ctx) (H : List Ent) (r : Int × List (List Int × Bool)) (v : Value) (H' : List Ent) : Prop := ∃ (R : List Rr) (E : List Ent) (a' : Option Addr) (c' : Nat), v = .tuple #[.slice a' R.length c', .int .i64 r.1] ∧ H' = E ++ H ∧ RdC G H' a' (R.flatMap enR) ∧ RdX ints G H' (R.map (·.1)) ∧ R.map pur = r.2
/-- Lines come back. -/
def GotL (G : Ctx) (H : List Ent) (r : Int × List (List Int)) (v : Value) (H' : List Ent) : Prop := ∃ (Y : List (Rx Int)) (E : List Ent) (a' : Option Addr) (c' : Nat), v = .tuple #[.slice a' Y.length c', .int .i64 r.1] ∧ H' = E ++ H ∧ RdC G H' a' (Y.map rxV) ∧ RdX ints G H' Y ∧ Y.map (·.2.2) = r.2
theorem gotR_0 {G : Ctx} {H : List Ent} {e : Int} : GotR G H (e, []) (.tuple #[.slice none 0 0, .int .i64 e]) H := ⟨[], [], none, 0, rfl, rfl, ⟨fun _ _ => .inl rfl⟩, RdX.nil, rfl⟩
theorem gotL_0 {G : Ctx} {H : List Ent} {e : Int} : GotL G H (e, []) (.tuple #[.slice none 0 0, .int .i64 e]) H := ⟨[], [], none, 0, rfl, rfl, ⟨fun _ _ => .inl rfl⟩, RdX.nil, rfl⟩
theorem flowU_sc (G : Ctx) (H : List Ent) (X : List (Rx Int)) (ao : Option Addr) (n co : Nat) (w : Int) {vs : List Value} [h1 : RdC G H ao vs] (hv : vs = X.map rxV) (hX : RdX ints G H X) (hn : n = X.length) (hm : n ≤ 1048576) (hm2 : lens (X.map (·.2.2)) ≤ 1048576) : SC Try.prog G 10 [.slice ao n co, .int .i64 w] H (GotR G H (flowR w (X.map (·.2.2)))) := by
  subst hv
  by_cases hw : 2 ≤ w ∧ w ≤ 160
  · by_cases hb : 500 < n ∨ 4000 < lens (X.map (·.2.2))
    · have e : flowR w (X.map (·.2.2)) = (2, []) := by unfold flowR; rw [if_neg (fun h => h hw), if_pos (by rw [List.length_map, ← hn]; exact hb)]
      rw [e]
      exact sv_imp (flow_e G H X ao n co w hn hm hm2 hw hb) gotR_0
    · have e : flowR w (X.map (·.2.2)) = (0, flow w (X.map (·.2.2))) := by unfold flowR; rw [if_neg (fun h => h hw), if_neg (by rw [List.length_map, ← hn]; exact hb)]
      rw [e]
      exact sc_imp (flow_sc G H X ao n co w hX hn hw (by omega) (by omega)) fun v H' h => h
  · have e : flowR w (X.map (·.2.2)) = (1, []) := by unfold flowR; rw [if_pos hw]
    rw [e]
    exact sv_imp (flow_arg G H ao n co w hw) gotR_0
theorem flowedU_sc (G : Ctx) (H : List Ent) (X : List (Rx Int)) (ao : Option Addr) (n co : Nat) (w : Int) {vs : List Value} [h1 : RdC G H ao vs] (hv : vs = X.map rxV) (hX : RdX ints G H X) (hn : n = X.length) (hm : n ≤ 1048576) : SC Try.prog G 11 [.slice ao n co, .int .i64 w] H (GotR G H (flowR w (X.map (·.2.2)))) := by
  subst hv
  by_cases hw : 2 ≤ w ∧ w ≤ 160
  · by_cases hb : 500 < n ∨ 4000 < lens (X.map (·.2.2))
    · have e : flowR w (X.map (·.2.2)) = (2, []) := by unfold flowR; rw [if_neg (fun h => h hw), if_pos (by rw [List.length_map, ← hn]; exact hb)]
      rw [e]
      exact sv_imp (flowed_e G H X ao n co w rfl hn (by omega) hw hb) gotR_0
    · have e : flowR w (X.map (·.2.2)) = (0, flow w (X.map (·.2.2))) := by unfold flowR; rw [if_neg (fun h => h hw), if_neg (by rw [List.length_map, ← hn]; exact hb)]
      rw [e]
      exact sc_imp (flowed_sc G H X ao n co w rfl hX hn hw (by omega) (by omega)) fun v H' h => h
  · have e : flowR w (X.map (·.2.2)) = (1, []) := by unfold flowR; rw [if_pos hw]
    rw [e]
    exact sv_imp (flowed_arg G H ao n co w hw) gotR_0
theorem plens_pur (R : List Rr) : lens ((R.map pur).map (·.1)) = plens R := by
  unfold plens lens
  rw [List.map_map, List.map_map]
  rfl
/-- The three ways of Lines. -/
theorem linesR_ways (R : List Rr) {n : Nat} (hn : n = R.length) : ((4500 < n ∨ 4000 < plens R) ∧ linesR (R.map pur) = (2, [])) ∨ (n ≤ 4500 ∧ plens R ≤ 4000 ∧ 0 < n ∧ (∃ r, R[n - 1]? = some r ∧ r.2 = true) ∧ linesR (R.map pur) = (4, [])) ∨ (n ≤ 4500 ∧ plens R ≤ 4000 ∧ (0 < n → ∃ r, R[n - 1]? = some r ∧ r.2 = false) ∧ linesR (R.map pur) = (0, un [] (R.map pur))) := by
  have el : ((R.map pur).getLast?.map (·.2)) = (R[n - 1]?).map (·.2) := by
    rw [List.getLast?_eq_getElem?, List.length_map, ← hn, List.getElem?_map, Option.map_map]
    rfl
  unfold linesR
  rw [plens_pur, List.length_map, ← hn, el]
  by_cases hb : 4500 < n ∨ 4000 < plens R
  · exact .inl ⟨hb, if_pos hb⟩
  · rw [if_neg hb]
    cases hr : R[n - 1]? with
    | none => exact .inr (.inr ⟨by omega, by omega, fun h0 => by rw [List.getElem?_eq_none_iff] at hr; omega, by simp⟩)
    | some r =>
      have h0 : 0 < n := by
        have := (List.getElem?_eq_some_iff.1 hr).1
        omega
      cases h2 : r.2
      · exact .inr (.inr ⟨by omega, by omega, fun _ => ⟨r, rfl, h2⟩, by simp [h2]⟩)
      · exact .inr (.inl ⟨by omega, by omega, h0, ⟨r, rfl, h2⟩, by simp [h2]⟩)
theorem linesU_sc (G : Ctx) (H : List Ent) (R : List Rr) (ao : Option Addr) (n co : Nat) {vs : List Value} [h1 : RdC G H ao vs] (hv : vs = R.flatMap enR) (hR : RdX ints G H (R.map (·.1))) (hn : n = R.length) (hm : n ≤ 1048576) (hm2 : plens R ≤ 1048576) : SC Try.prog G 12 [.slice ao n co] H (GotL G H (linesR (R.map pur))) := by
  rcases linesR_ways R hn with ⟨h3, e⟩ | ⟨h3, h4, h5, h6, e⟩ | ⟨h3, h4, h5, e⟩
  · rw [e]
    exact sv_imp (lines_e G H R ao n co hv hn hm hm2 2 (.inl ⟨h3, rfl⟩)) gotL_0
  · rw [e]
    exact sv_imp (lines_e G H R ao n co hv hn hm hm2 4 (.inr ⟨h3, h4, rfl, h5, h6⟩)) gotL_0
  · rw [e]
    exact sc_imp (lines_sc G H R ao n co hv hR hn h3 h4 h5) fun v H' h => h
theorem unflowedU_sc (G : Ctx) (H : List Ent) (R : List Rr) (ao : Option Addr) (n co : Nat) {vs : List Value} [h1 : RdC G H ao vs] (hv : vs = R.flatMap enR) (hR : RdX ints G H (R.map (·.1))) (hn : n = R.length) (hm : n ≤ 1048576) : SC Try.prog G 13 [.slice ao n co] H (GotL G H (linesR (R.map pur))) := by
  rcases linesR_ways R hn with ⟨h3, e⟩ | ⟨h3, h4, h5, h6, e⟩ | ⟨h3, h4, h5, e⟩
  · rw [e]
    exact sv_imp (unflowed_e G H R ao n co hv hR hn hm 2 (.inl ⟨h3, rfl⟩)) gotL_0
  · rw [e]
    exact sv_imp (unflowed_e G H R ao n co hv hR hn hm 4 (.inr ⟨h3, h4, rfl, h5, h6⟩)) gotL_0
  · rw [e]
    exact sc_imp (unflowed_sc G H R ao n co hv hR hn h3 h4 h5) fun v H' h => h
theorem un_bd : ∀ (rs : List (List Int × Bool)) (cur : List Int), (un cur rs).length ≤ rs.length ∧ lens (un cur rs) ≤ cur.length + lens (rs.map (·.1))
  | [], cur => ⟨Nat.le_refl _, Nat.zero_le _⟩
  | (r, s) :: rs, cur => by
    have e : lens (((r, s) :: rs).map (·.1)) = r.length + lens (rs.map (·.1)) := by simp [lens]
    have h1 := un_bd rs (cur ++ r)
    have h2 := un_bd rs []
    rw [List.length_append] at h1
    rw [e]
    cases s
    · have e2 : un cur ((r, false) :: rs) = (cur ++ r) :: un [] rs := rfl
      have e3 : lens ((cur ++ r) :: un [] rs) = (cur ++ r).length + lens (un [] rs) := by simp [lens]
      rw [e2, e3, List.length_cons, List.length_cons, List.length_append]
      simp only [List.length_nil] at h2
      omega
    · have e2 : un cur ((r, true) :: rs) = un (cur ++ r) rs := rfl
      rw [e2, List.length_cons]
      omega
theorem linesR_bd (P : List (List Int × Bool)) : (linesR P).2.length ≤ 1048576 ∧ lens (linesR P).2 ≤ 1048576 := by
  unfold linesR
  split
  · exact ⟨Nat.zero_le _, Nat.zero_le _⟩
  · split
    · exact ⟨Nat.zero_le _, Nat.zero_le _⟩
    · have h := un_bd P []
      simp only [List.length_nil] at h
      dsimp only
      omega
theorem gotR_app {G : Ctx} {H E H' : List Ent} {r : Int × List (List Int × Bool)} {v : Value} (h : GotR G (E ++ H) r v H') : GotR G H r v H' := by
  obtain ⟨R, E2, a', c', h1, h2, h3⟩ := h
  exact ⟨R, E2 ++ E, a', c', h1, by rw [h2, List.append_assoc], h3⟩
theorem againU_sc (G : Ctx) (H : List Ent) (R : List Rr) (ao : Option Addr) (n co : Nat) (w : Int) {vs : List Value} [h1 : RdC G H ao vs] (hv : vs = R.flatMap enR) (hR : RdX ints G H (R.map (·.1))) (hn : n = R.length) (hm : n ≤ 1048576) (hm2 : plens R ≤ 1048576) : SC Try.prog G 14 [.slice ao n co, .int .i64 w] H (GotR G H (againR w (R.map pur))) := by
  have cL := fun (H : List Ent) {vs : List Value} [RdC G H ao vs] (hv : vs = R.flatMap enR) hR => linesU_sc G H R ao n co hv hR hn hm hm2
  have hb := linesR_bd (R.map pur)
  have cF := fun (H : List Ent) (Y : List (Rx Int)) (a2 : Option Addr) (c2 : Nat) {vs : List Value} [RdC G H a2 vs] (hv : vs = Y.map rxV) hY (hl : Y.map (·.2.2) = (linesR (R.map pur)).2) => flowU_sc G H Y a2 Y.length c2 w hv hY rfl (by rw [← hl, List.length_map] at hb; exact hb.1) (by rw [← hl] at hb; exact hb.2)
  subst hv
  unfold againR
  generalize linesR (R.map pur) = r at *
  obtain ⟨g, l⟩ := r
  dsimp only at hb cF ⊢
  clear hn hb
  by_cases hg : g = 0
  · rw [if_neg (fun h => h hg)]
    subst hg
    refine sc_enter2 Try.func14 rfl rfl rfl rfl rfl ?_
    repeat' (first | (apply g_sl; first | (apply ks_nil; refine sl_nil ?_) | (apply ks_move; refine s_move rfl rfl ?_) | (apply ks_bin; refine s_bin rfl rfl rfl ?_; first | fail | (first | refine bb_of rfl ?_)) | (apply ks_asgn; refine s_asgn rfl rfl ?_) | (apply ks_extr; refine s_extr (y_extract rfl rfl rfl) rfl ?_) | (apply ks_fn; first | first | (refine c_call rfl rfl rfl (cL _ rfl hR) rfl rfl ?_; rintro _ _ ⟨Y, E, a2, c2, rfl, rfl, hrd, hY, hYl⟩; haveI := hrd; have cF := cF (E ++ H) Y a2 c2 rfl hY hYl) | (refine c_call rfl rfl rfl cF rfl rfl ?_; rintro _ _ hgot; obtain ⟨R2, E2, a3, c3, rfl, rfl, h9⟩ := hgot)) | fail) | (apply sw_seq) | (apply at_srd) | (apply sw_skip) | (apply sw_ret) | (apply sw_exit) | (apply sw_block) | (apply sw_region) | (refine sw_cd rfl ?_; first | (apply gd_t) | (apply gd_ft) | (apply gd_tf) | (apply gd_dec_t <;> intro hq <;> (try (exfalso; omega))) | (apply gd_dec_f <;> intro hq <;> (try (exfalso; omega))) | (apply gd_beq_t <;> intro hq <;> (try (exfalso; omega))) | (apply gd_beq_f <;> intro hq <;> (try (exfalso; omega))) | (apply gd_bne_t <;> intro hq <;> (try (exfalso; omega))) | (apply gd_bne_f <;> intro hq <;> (try (exfalso; omega))) | (apply gd_not_t <;> intro hq) | (apply gd_not_f <;> intro hq) | (apply gd_raw_t <;> intro hq) | (apply gd_raw_f <;> intro hq)) | (apply at_thn) | (apply at_thn_ret) | (apply at_thn_exit) | (apply at_inb) | (apply at_inb_ret) | (apply at_inb_exit) | refine at_inb_pass rfl ?_ | refine c_drawn (by kernel_rfl) ?_)
    all_goals first | (exfalso; omega) | skip
    refine e_sc _ (.inr rfl) rfl (List.Sublist.refl _) ?_
    dsimp only at hYl
    rw [hYl] at h9
    exact ⟨R2, E2 ++ E, a3, c3, by rw [← hYl]; rfl, (List.append_assoc _ _ _).symm, h9⟩
  · rw [if_pos hg]
    clear cF
    refine sc_enter2 Try.func14 rfl rfl rfl rfl rfl ?_
    repeat' (first | (apply g_sl; first | (apply ks_nil; refine sl_nil ?_) | (apply ks_move; refine s_move rfl rfl ?_) | (apply ks_bin; refine s_bin rfl rfl rfl ?_; first | fail | (first | refine bb_of rfl ?_)) | (apply ks_asgn; refine s_asgn rfl rfl ?_) | (apply ks_extr; refine s_extr (y_extract rfl rfl rfl) rfl ?_) | (apply ks_fn; first | first | (refine c_call rfl rfl rfl (cL _ rfl hR) rfl rfl ?_; rintro _ _ ⟨Y, E, a2, c2, rfl, rfl, hrd, hY, hYl⟩)) | fail) | (apply sw_seq) | (apply at_srd) | (apply sw_skip) | (apply sw_ret) | (apply sw_exit) | (apply sw_block) | (apply sw_region) | (refine sw_cd rfl ?_; first | (apply gd_t) | (apply gd_ft) | (apply gd_tf) | (apply gd_dec_t <;> intro hq <;> (try (exfalso; omega))) | (apply gd_dec_f <;> intro hq <;> (try (exfalso; omega))) | (apply gd_beq_t <;> intro hq <;> (try (exfalso; omega))) | (apply gd_beq_f <;> intro hq <;> (try (exfalso; omega))) | (apply gd_bne_t <;> intro hq <;> (try (exfalso; omega))) | (apply gd_bne_f <;> intro hq <;> (try (exfalso; omega))) | (apply gd_not_t <;> intro hq) | (apply gd_not_f <;> intro hq) | (apply gd_raw_t <;> intro hq) | (apply gd_raw_f <;> intro hq)) | (apply at_thn) | (apply at_thn_ret) | (apply at_thn_exit) | (apply at_inb) | (apply at_inb_ret) | (apply at_inb_exit) | refine at_inb_pass rfl ?_ | refine c_drawn (by kernel_rfl) ?_)
    all_goals first | (exfalso; omega) | skip
    refine e_sc H (.inr rfl) rfl (List.sublist_append_right _ _) ?_
    exact gotR_0
end Go.Proofs.Ytgcnfcgnkfkpeaa
