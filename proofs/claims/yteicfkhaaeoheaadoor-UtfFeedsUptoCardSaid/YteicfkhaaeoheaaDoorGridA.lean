/- The cells of a grid: plain. -/
import Derived.Test.YteicfkhaaeoheaaDoorSxB
import Derived.Test.YteicfkhaaeoheaaDoorCut
import Derived.Test.YteicfkhaaeoheaaDoorPen
namespace Go.Fw
open Go Go.RowKit Go.Sx
/-- A cell: its rune, and its pen's flags, foreground and background. -/
abbrev Qd := Int × Int × Int × Int
def qd (q : Qd) : List Value := [.int .i64 q.1, .int .i64 q.2.1, .int .i64 q.2.2.1, .int .i64 q.2.2.2]
def qds (C : List Qd) : List Value := C.flatMap qd
abbrev qz : Qd := (0, 0, 0, 0)
theorem qd_len (q : Qd) : (qd q).length = 4 := rfl
theorem qds_cons (q : Qd) (C : List Qd) : qds (q :: C) = qd q ++ qds C := by simp [qds]
theorem qds_app (C D : List Qd) : qds (C ++ D) = qds C ++ qds D := by simp [qds]
theorem qds_len : ∀ C : List Qd, (qds C).length = C.length * 4
  | [] => rfl
  | q :: C => by rw [qds_cons, List.length_append, qds_len C, qd_len, List.length_cons]; omega
theorem qds_drop : ∀ (k : Nat) (C : List Qd), (qds C).drop (k * 4) = qds (C.drop k)
  | 0, C => by simp
  | k + 1, [] => by simp [qds]
  | k + 1, q :: C => by
    rw [qds_cons, show (k + 1) * 4 = (qd q).length + k * 4 from by rw [qd_len]; omega, List.drop_length_add_append, qds_drop k C]
    rfl
theorem qds_take : ∀ (k : Nat) (C : List Qd), (qds C).take (k * 4) = qds (C.take k)
  | 0, C => by simp [qds]
  | k + 1, [] => by simp [qds]
  | k + 1, q :: C => by
    rw [qds_cons, show (k + 1) * 4 = (qd q).length + k * 4 from by rw [qd_len]; omega, List.take_length_add_append, qds_take k C, List.take_succ_cons, qds_cons]
theorem qds_piece (C : List Qd) (q m : Nat) (l h : Int) (hl : l = q) (hh : h = q + m) : ((qds C).drop (l.toNat * 4)).take ((h.toNat - l.toNat) * 4) = qds ((C.drop q).take m) := by
  rw [show l.toNat = q from by omega, show h.toNat - q = m from by omega, qds_drop, qds_take]
theorem getD_cons_drop {C : List Qd} {k : Nat} (hk : k < C.length) : C.drop k = C.getD k qz :: C.drop (k + 1) := by
  rw [List.drop_eq_getElem_cons hk, List.getD_eq_getElem?_getD, List.getElem?_eq_getElem hk]
  rfl
theorem qds_cell {C : List Qd} {k : Nat} (j : Nat) (hk : k < C.length) (hj : j < 4) : (qds C)[k * 4 + j]? = (qd (C.getD k qz))[j]? := by
  rw [← List.getElem?_drop, qds_drop, getD_cons_drop hk, qds_cons, List.getElem?_append_left (by rw [qd_len]; exact hj)]
theorem qds_elem {C : List Qd} {k : Nat} (hk : k < C.length) : take? ((qds C).drop (k * 4)) 4 = some (qd (C.getD k qz)) := by
  rw [qds_drop, getD_cons_drop hk, qds_cons]
  simp [take?, qd]
theorem qds_pen {C : List Qd} {k : Nat} (hk : k < C.length) : take? ((qds C).drop (k * 4 + 1)) 3 = some [.int .i64 (C.getD k qz).2.1, .int .i64 (C.getD k qz).2.2.1, .int .i64 (C.getD k qz).2.2.2] := by
  rw [← List.drop_drop, qds_drop, getD_cons_drop hk, qds_cons]
  simp [take?, qd]
theorem qds_over {C : List Qd} {k : Nat} (q : Qd) (hk : k < C.length) : over (qds C) (k * 4) (qd q) = qds (C.set k q) := by
  unfold over
  rw [qds_take, qd_len, show k * 4 + 4 = (k + 1) * 4 from by omega, qds_drop, List.set_eq_take_append_cons_drop, if_pos hk, qds_app, qds_cons, List.append_assoc]
theorem qds_one (C : List Qd) : (qds C).all (·.oneCell') = true := by
  unfold qds
  rw [List.all_flatMap]
  exact List.all_eq_true.2 fun _ _ => rfl
/-- The other half of the sign ahead. -/
def tailP (C : List Qd) (k : Nat) : Prop := k < C.length ∧ (C.getD k qz).1 = 0 ∧ (C.getD k qz).2 = (C.getD (k - 1) qz).2
instance (C : List Qd) (k : Nat) : Decidable (tailP C k) := by unfold tailP; infer_instance
/-- Half of nothing. -/
def loneB (wd : Int → Int) (C : List Qd) (i : Nat) : Bool :=
  if (C.getD i qz).1 = 0 then decide (i = 0 ∨ wd (C.getD (i - 1) qz).1 ≠ 2 ∨ ¬ tailP C i) else decide (wd (C.getD i qz).1 = 2 ∧ ¬ tailP C (i + 1))
end Go.Fw
/- grid.size, grid.lone, farref.wholeCell: walks. -/
namespace Go.Proofs.YteicfkhaaeoheaaDoor
open Go Go.RowKit Go.Fw Go.Sx
set_option maxRecDepth 100000
set_option maxHeartbeats 1000000
attribute [local irreducible] SW SL SQ AtQ SV SC BB LD PK Yields SO SOT SOA SY
def sizeE (w h : Int) : Int := if 1 ≤ w ∧ w ≤ 160 ∧ 1 ≤ h ∧ h ≤ 60 then 0 else 1
theorem gridSize_sv (G : Ctx) (H : List Ent) (w h : Int) : SV Tryd.prog G 143 [.int .i64 w, .int .i64 h] H (.int .i64 (sizeE w h)) := by
  unfold sizeE
  refine sv_enter2 Tryd.func143 rfl rfl rfl rfl rfl ?_
  repeat' (first | (apply g_sl; first | (apply ks_nil; refine sl_nil ?_) | (apply ks_move; refine s_move rfl rfl ?_) | (apply ks_bin; refine s_bin rfl rfl rfl ?_; first | fail | (first | refine bb_of rfl ?_)) | (apply ks_asgn; refine s_asgn rfl rfl ?_) | (apply ks_pick; refine s_pick rfl rfl ?_; first | (apply kp_t; refine pk_t rfl ?_) | (apply kp_f; refine pk_f rfl ?_) | refine pk_s rfl rfl ?_) | (apply ks_guard; first | (refine sl_gd rfl rfl rfl rfl ?_; first | (apply gd_t) | (apply gd_ft) | (apply gd_tf) | (apply gd_dec_t <;> intro hq <;> (try (exfalso; omega))) | (apply gd_dec_f <;> intro hq <;> (try (exfalso; omega))) | (apply gd_beq_t <;> intro hq <;> (try (exfalso; omega))) | (apply gd_beq_f <;> intro hq <;> (try (exfalso; omega))) | (apply gd_bne_t <;> intro hq <;> (try (exfalso; omega))) | (apply gd_bne_f <;> intro hq <;> (try (exfalso; omega))) | (apply gd_not_t <;> intro hq) | (apply gd_not_f <;> intro hq) | (apply gd_raw_t <;> intro hq) | (apply gd_raw_f <;> intro hq)) | refine sl_skip_u rfl rfl rfl rfl rfl rfl ?_) | fail) | (apply sw_seq) | (apply at_srd) | (apply sw_skip) | (apply sw_ret) | (apply sw_exit) | (apply sw_block) | (apply sw_region) | (refine sw_cd rfl ?_; first | (apply gd_t) | (apply gd_ft) | (apply gd_tf) | (apply gd_dec_t <;> intro hq <;> (try (exfalso; omega))) | (apply gd_dec_f <;> intro hq <;> (try (exfalso; omega))) | (apply gd_beq_t <;> intro hq <;> (try (exfalso; omega))) | (apply gd_beq_f <;> intro hq <;> (try (exfalso; omega))) | (apply gd_bne_t <;> intro hq <;> (try (exfalso; omega))) | (apply gd_bne_f <;> intro hq <;> (try (exfalso; omega))) | (apply gd_not_t <;> intro hq) | (apply gd_not_f <;> intro hq) | (apply gd_raw_t <;> intro hq) | (apply gd_raw_f <;> intro hq)) | (apply at_thn) | (apply at_thn_ret) | (apply at_thn_exit) | (apply at_inb) | (apply at_inb_ret) | (apply at_inb_exit) | refine at_inb_pass rfl ?_ | refine c_drawn (by kernel_rfl) ?_)
  all_goals (refine e_sv (by first | exact .inl rfl | exact .inr rfl) rfl (by repeat (first | exact List.Sublist.refl _ | exact List.nil_sublist _ | refine List.Sublist.cons _ ?_)) ?_; first | exact ri_t (by omega) rfl | exact ri_f (by omega) rfl)
theorem penEqvD (d : Nat) (x y z x' y' z' : Int) (b : Bool) (h : b = decide ((x, y, z) = (x', y', z'))) : EqVal Tryd.prog (d + 1 + 1) 69 (.agg [.int .i64 x, .int .i64 y, .int .i64 z].toArray) (.agg [.int .i64 x', .int .i64 y', .int .i64 z'].toArray) b := by
  have hfs : Tryd.prog.fieldsOf 69 = (match Tryd.prog.underlying 69 with | some (.struct fs) => fs | _ => #[]) := rfl
  refine eqval_struct (d := d + 1) (by rw [hfs, Tryd.underlying69]) (by kernel_rfl) ?_
  rw [hfs, Tryd.underlying69]
  have ne : ∀ a b : Int, ¬ a = b → EqVal Tryd.prog (d + 1) 3 (.int .i64 a) (.int .i64 b) false := fun a b hab => by
    have := eqval_int (P := Tryd.prog) (t := 3) (d := d) (k := .i64) a b
    rwa [show (a == b) = false from by simpa using hab] at this
  by_cases hx : x = x'
  · subst hx
    refine .eq (by decide) (u := .int .i64 x) (v := .int .i64 x) (part_one rfl) (part_one rfl) (eqself_int _) ?_
    by_cases hy : y = y'
    · subst hy
      refine .eq (by decide) (u := .int .i64 y) (v := .int .i64 y) (part_one rfl) (part_one rfl) (eqself_int _) ?_
      by_cases hz : z = z'
      · subst hz
        rw [h, decide_eq_true rfl]
        exact .eq (by decide) (u := .int .i64 z) (v := .int .i64 z) (part_one rfl) (part_one rfl) (eqself_int _) .nil
      · rw [h, decide_eq_false (by simp [hz])]
        exact .ne (by decide) (u := .int .i64 z) (v := .int .i64 z') (part_one rfl) (part_one rfl) (ne _ _ hz)
    · rw [h, decide_eq_false (by simp [hy])]
      exact .ne (by decide) (u := .int .i64 y) (v := .int .i64 y') (part_one rfl) (part_one rfl) (ne _ _ hy)
  · rw [h, decide_eq_false (by simp [hx])]
    exact .ne (by decide) (u := .int .i64 x) (v := .int .i64 x') (part_one rfl) (part_one rfl) (ne _ _ hx)
theorem penEqv (x y z x' y' z' : Int) (b : Bool) (h : b = decide ((x, y, z) = (x', y', z'))) : EqVal Tryd.prog 10000 69 (.agg [.int .i64 x, .int .i64 y, .int .i64 z].toArray) (.agg [.int .i64 x', .int .i64 y', .int .i64 z'].toArray) b := penEqvD 9998 x y z x' y' z' b h
theorem penEqv9 (x y z x' y' z' : Int) (b : Bool) (h : b = decide ((x, y, z) = (x', y', z'))) : EqVal Tryd.prog 9999 69 (.agg [.int .i64 x, .int .i64 y, .int .i64 z].toArray) (.agg [.int .i64 x', .int .i64 y', .int .i64 z'].toArray) b := penEqvD 9997 x y z x' y' z' b h
theorem qI_cell {C : List Qd} {i : Int} (hi : i.toNat < C.length) : (qds C)[i.toNat * 4 + 0]? = some (.int .i64 (C.getD i.toNat qz).1) := qds_cell 0 hi (by decide)
theorem qI_pen {C : List Qd} {i : Int} (hi : i.toNat < C.length) : take? ((qds C).drop (i.toNat * 4 + 1)) 3 = some [.int .i64 (C.getD i.toNat qz).2.1, .int .i64 (C.getD i.toNat qz).2.2.1, .int .i64 (C.getD i.toNat qz).2.2.2] := qds_pen hi
theorem qI_lt {C : List Qd} {i : Int} (hi : i.toNat < C.length) : i.toNat * 4 < (qds C).length := by rw [qds_len]; omega
theorem loneB_eq (wd : Int → Int) (C : List Qd) (i : Nat) : loneB wd C i = (if (C.getD i qz).1 = 0 then (decide (i = 0) || (decide (wd (C.getD (i - 1) qz).1 ≠ 2) || !decide (tailP C i))) else (decide (wd (C.getD i qz).1 = 2) && !decide (tailP C (i + 1)))) := by
  unfold loneB
  split
  · rw [Bool.eq_iff_iff]; simp
  · rw [Bool.eq_iff_iff]; simp
end Go.Proofs.YteicfkhaaeoheaaDoor
/- slices.Clone and slices.Equal of cells, grid.row, farref.SizeRight: walks. -/
namespace Go.Proofs.YteicfkhaaeoheaaDoor
open Go Go.RowKit Go.Fw Go.Sx
set_option maxRecDepth 100000
set_option maxHeartbeats 1000000
attribute [local irreducible] SW SL SQ AtQ SV SC BB LD PK Yields SO SOT SOA SY
theorem cloneQ_sc (G : Ctx) (H : List Ent) (C : List Qd) {vs : List Value} (a : Option Addr) (n c : Nat) [h1 : RdC G H a vs] (hv : vs = qds C) (hn : n = C.length) (hm : n ≤ 100000) : SC Tryd.prog G 146 [.slice a n c] H fun v H' => ∃ a' c', v = .slice a' n c' ∧ H' = .own 178 4 a' n c' (qds C) :: H := by
  subst hv
  have hlx : (qds C).length = n * 4 := by rw [qds_len, hn]
  have hone := qds_one C
  refine sc_here (callee_of Tryd.func146 rfl rfl) fun w0 hw0 => ?_
  cases a with
  | none =>
    have h0 := At.none_nil (h1.here w0 hw0)
    have hl0 : C.length = 0 := by
      have := congrArg List.length h0
      rw [qds_len, List.length_nil] at this
      omega
    obtain rfl : C = [] := List.eq_nil_of_length_eq_zero hl0
    obtain rfl : n = 0 := hn
    clear h0 hlx hone
    refine sc_enter1 Tryd.func146 rfl rfl rfl rfl rfl ?_
    repeat' (first | (apply g_sl; first | (apply ks_nil; refine sl_nil ?_) | (apply ks_move; refine s_move rfl rfl ?_) | (apply ks_bin; refine s_bin rfl rfl rfl ?_; first | first | refine bb_enil ?_ | (first | refine bb_of rfl ?_)) | (apply ks_asgn; refine s_asgn rfl rfl ?_) | (apply ks_bi; first | first | refine bb_enil ?_ | refine s_call (c_len rfl rfl) rfl ?_ | refine s_call (c_len_str rfl rfl) rfl ?_ | refine s_call (c_bi rfl rfl rfl rfl) rfl ?_ | refine c_append rfl rfl rfl rfl (by first | rfl | simp [ints]) (by first | rfl | exact ints_one _ | exact octs_one _ | exact strs_one _) (by omega) rfl rfl (fun _ _ => ?_) | refine c_append_nil rfl rfl rfl rfl (by first | rfl | simp [ints]) (by first | rfl | exact ints_one _ | exact octs_one _ | exact strs_one _) (by omega) rfl rfl (fun _ _ => ?_)) | (apply ks_bs; first | refine c_buildSlice rfl rfl rfl rfl rfl rfl rfl rfl rfl rfl (fun _ => ?_) | first | refine bb_enil ?_) | first | refine bb_enil ?_) | (apply sw_seq) | (apply at_srd) | (apply sw_skip) | (apply sw_ret) | (apply sw_exit) | (apply sw_block) | (apply sw_region) | (refine sw_cd rfl ?_; first | (apply gd_t) | (apply gd_ft) | (apply gd_tf) | (apply gd_dec_t <;> intro hq <;> (try (exfalso; omega))) | (apply gd_dec_f <;> intro hq <;> (try (exfalso; omega))) | (apply gd_beq_t <;> intro hq <;> (try (exfalso; omega))) | (apply gd_beq_f <;> intro hq <;> (try (exfalso; omega))) | (apply gd_bne_t <;> intro hq <;> (try (exfalso; omega))) | (apply gd_bne_f <;> intro hq <;> (try (exfalso; omega))) | (apply gd_not_t <;> intro hq) | (apply gd_not_f <;> intro hq) | (apply gd_raw_t <;> intro hq) | (apply gd_raw_f <;> intro hq)) | (apply at_thn) | (apply at_thn_ret) | (apply at_thn_exit) | (apply at_inb) | (apply at_inb_ret) | (apply at_inb_exit) | refine at_inb_pass rfl ?_ | refine c_drawn (by kernel_rfl) ?_)
    · exact e_scf (.own 178 4 none 0 0 [] :: H) (.inr rfl) rfl (fun _ hw => hw.nilrow _ _) ⟨_, _, rfl, rfl⟩
  | some a =>
    clear hn
    refine sc_enter1 Tryd.func146 rfl rfl rfl rfl rfl ?_
    repeat' (first | (apply g_sl; first | (apply ks_nil; refine sl_nil ?_) | (apply ks_move; refine s_move rfl rfl ?_) | (apply ks_bin; refine s_bin rfl rfl rfl ?_; first | first | refine bb_enil ?_ | (refine c_bsl0 rfl rfl rfl rfl (fun _ => ?_)) | (refine c_append rfl rfl rfl rfl hlx hone (by omega) rfl rfl (fun _ _ => ?_)) | (first | refine bb_of rfl ?_)) | (apply ks_asgn; refine s_asgn rfl rfl ?_) | (apply ks_bi; first | first | refine bb_enil ?_ | (refine c_bsl0 rfl rfl rfl rfl (fun _ => ?_)) | (refine c_append rfl rfl rfl rfl hlx hone (by omega) rfl rfl (fun _ _ => ?_)) | refine s_call (c_len rfl rfl) rfl ?_ | refine s_call (c_len_str rfl rfl) rfl ?_ | refine s_call (c_bi rfl rfl rfl rfl) rfl ?_ | refine c_append rfl rfl rfl rfl (by first | rfl | simp [ints]) (by first | rfl | exact ints_one _ | exact octs_one _ | exact strs_one _) (by omega) rfl rfl (fun _ _ => ?_) | refine c_append_nil rfl rfl rfl rfl (by first | rfl | simp [ints]) (by first | rfl | exact ints_one _ | exact octs_one _ | exact strs_one _) (by omega) rfl rfl (fun _ _ => ?_)) | (apply ks_bs; first | refine c_buildSlice rfl rfl rfl rfl rfl rfl rfl rfl rfl rfl (fun _ => ?_) | first | refine bb_enil ?_ | (refine c_bsl0 rfl rfl rfl rfl (fun _ => ?_)) | (refine c_append rfl rfl rfl rfl hlx hone (by omega) rfl rfl (fun _ _ => ?_))) | first | refine bb_enil ?_ | (refine c_bsl0 rfl rfl rfl rfl (fun _ => ?_)) | (refine c_append rfl rfl rfl rfl hlx hone (by omega) rfl rfl (fun _ _ => ?_))) | (apply sw_seq) | (apply at_srd) | (apply sw_skip) | (apply sw_ret) | (apply sw_exit) | (apply sw_block) | (apply sw_region) | (refine sw_cd rfl ?_; first | (apply gd_t) | (apply gd_ft) | (apply gd_tf) | (apply gd_dec_t <;> intro hq <;> (try (exfalso; omega))) | (apply gd_dec_f <;> intro hq <;> (try (exfalso; omega))) | (apply gd_beq_t <;> intro hq <;> (try (exfalso; omega))) | (apply gd_beq_f <;> intro hq <;> (try (exfalso; omega))) | (apply gd_bne_t <;> intro hq <;> (try (exfalso; omega))) | (apply gd_bne_f <;> intro hq <;> (try (exfalso; omega))) | (apply gd_not_t <;> intro hq) | (apply gd_not_f <;> intro hq) | (apply gd_raw_t <;> intro hq) | (apply gd_raw_f <;> intro hq)) | (apply at_thn) | (apply at_thn_ret) | (apply at_thn_exit) | (apply at_inb) | (apply at_inb_ret) | (apply at_inb_exit) | refine at_inb_pass rfl ?_ | refine c_drawn (by kernel_rfl) ?_)
    refine e_sc _ (.inr rfl) rfl (List.Sublist.refl _) ?_
    simp only [Nat.zero_add, List.nil_append]
    exact ⟨_, _, rfl, rfl⟩
theorem qd_eqv (q q' : Qd) (b : Bool) (h : b = decide (q = q')) : EqVal Tryd.prog 10000 178 (.agg (qd q).toArray) (.agg (qd q').toArray) b := by
  obtain ⟨r, x, y, z⟩ := q
  obtain ⟨r', x', y', z'⟩ := q'
  have hfs : Tryd.prog.fieldsOf 178 = (match Tryd.prog.underlying 178 with | some (.struct fs) => fs | _ => #[]) := rfl
  refine eqval_struct (d := 9999) (by rw [hfs, Tryd.underlying178]) (by kernel_rfl) ?_
  rw [hfs, Tryd.underlying178]
  by_cases hr : r = r'
  · subst hr
    refine .eq (by decide) (u := .int .i64 r) (v := .int .i64 r) (part_one rfl) (part_one rfl) (eqself_int _) ?_
    have hp := penEqv9 x y z x' y' z' _ rfl
    by_cases hE : (x, y, z) = (x', y', z')
    · rw [decide_eq_true hE] at hp
      rw [h, decide_eq_true (by simp only [Prod.mk.injEq] at hE ⊢; exact ⟨trivial, hE⟩)]
      exact .eq (by decide) (part_agg (sz := 3) rfl) (part_agg (sz := 3) rfl) hp .nil
    · rw [decide_eq_false hE] at hp
      rw [h, decide_eq_false (by simp only [Prod.mk.injEq] at hE ⊢; exact fun e => hE e.2)]
      exact .ne (by decide) (part_agg (sz := 3) rfl) (part_agg (sz := 3) rfl) hp
  · rw [h, decide_eq_false (by simp [hr])]
    refine .ne (by decide) (u := .int .i64 r) (v := .int .i64 r') (part_one rfl) (part_one rfl) ?_
    have := eqval_int (P := Tryd.prog) (t := 3) (d := 9998) (k := .i64) r r'
    rwa [show (r == r') = false from by simpa using hr] at this
theorem qI_elem {C : List Qd} {i : Int} (hi : i.toNat < C.length) : take? ((qds C).drop (i.toNat * 4)) 4 = some (qd (C.getD i.toNat qz)) := qds_elem hi
theorem equalQ_sv (G : Ctx) (H : List Ent) (C D : List Qd) {vs us : List Value} (a a2 : Option Addr) (n m c c2 : Nat) [h1 : RdC G H a vs] [h2 : RdC G H a2 us] (hv : vs = qds C) (hu : us = qds D) (hn : n = C.length) (hm : m = D.length) (hb : n ≤ 100000) (hb2 : m ≤ 100000) : SV Tryd.prog G 118 [.slice a n c, .slice a2 m c2] H (.bool (decide (C = D))) := by
  subst hv hu
  have hlx : (qds C).length = n * 4 := by rw [qds_len, hn]
  have hly : (qds D).length = m * 4 := by rw [qds_len, hm]
  by_cases hnm : n = m
  · subst hnm
    have hec := fun j (hj : j < n) => qI_elem (C := C) (i := (j : Int)) (by omega)
    have hed := fun j (hj : j < n) => qI_elem (C := D) (i := (j : Int)) (by omega)
    have hall : (∀ j, j < n → C.getD j qz = D.getD j qz) → C = D := fun h => List.ext_getElem (by omega) fun j h1 h2 => by
      have := h j (by omega)
      rw [List.getD_eq_getElem?_getD, List.getD_eq_getElem?_getD, List.getElem?_eq_getElem h1, List.getElem?_eq_getElem h2] at this
      exact this
    have Hec := Lib.hid hec
    have Hed := Lib.hid hed
    have Hall := Lib.hid hall
    clear hec hed hall hn hm
    refine sv_enter2 Tryd.func118 rfl rfl rfl rfl rfl ?_
    repeat' (first | (apply g_sl; first | (apply ks_nil; refine sl_nil ?_) | (apply ks_move; refine s_move rfl rfl ?_) | (apply ks_bin; refine s_bin rfl rfl rfl ?_; first | fail | (first | (apply kb_add; first | refine bb_add ⟨by omega, by omega⟩ ?_ | refine bb_of rfl ?_) | refine bb_of rfl ?_)) | (apply ks_load; first | (refine s_load rfl rfl ?_; first | refine ld_cell rfl ?_ | refine ld_whole rfl ?_ | refine ld_elem rfl ?_ | refine ld_part rfl rfl ?_) | fail) | (apply ks_asgn; refine s_asgn rfl rfl ?_) | (apply ks_indexA; first | refine s_indexA (c_indexAddr rfl rfl rfl rfl (by omega) (by omega)) rfl ?_ | fail) | (apply ks_bi; first | fail | refine s_call (c_len rfl rfl) rfl ?_ | refine s_call (c_len_str rfl rfl) rfl ?_ | refine s_call (c_bi rfl rfl rfl rfl) rfl ?_ | refine c_append rfl rfl rfl rfl (by first | rfl | simp [ints]) (by first | rfl | exact ints_one _ | exact octs_one _ | exact strs_one _) (by omega) rfl rfl (fun _ _ => ?_) | refine c_append_nil rfl rfl rfl rfl (by first | rfl | simp [ints]) (by first | rfl | exact ints_one _ | exact octs_one _ | exact strs_one _) (by omega) rfl rfl (fun _ _ => ?_)) | fail) | (apply g_sq; first | (apply kq_nil; refine sq_nil ?_) | (apply kq_move; refine q_move rfl rfl ?_) | (apply kq_bin; refine q_bin rfl rfl rfl ?_; first | fail | (first | (apply kb_add; first | refine bb_add ⟨by omega, by omega⟩ ?_ | refine bb_of rfl ?_) | refine bb_of rfl ?_)) | (apply kq_load; first | (refine q_load rfl rfl ?_; first | refine ld_cell rfl ?_ | refine ld_whole rfl ?_ | refine ld_elem rfl ?_ | refine ld_part rfl rfl ?_) | fail) | (apply kq_asgn; refine q_asgn rfl rfl ?_) | (apply kq_indexA; first | refine q_indexA (c_indexAddr rfl rfl rfl rfl (by omega) (by omega)) rfl ?_ | fail) | (apply kq_bi; first | fail | refine q_call (c_len rfl rfl) rfl ?_ | refine q_call (c_len_str rfl rfl) rfl ?_) | fail) | (apply sw_seq) | (apply at_srd) | (apply sw_skip) | (apply sw_ret) | (apply sw_exit) | (apply sw_block) | (apply sw_region) | (refine sw_cd rfl ?_; first | (apply gd_t) | (apply gd_ft) | (apply gd_tf) | (apply gd_dec_t <;> intro hq <;> (try (exfalso; omega))) | (apply gd_dec_f <;> intro hq <;> (try (exfalso; omega))) | (apply gd_beq_t <;> intro hq <;> (try (exfalso; omega))) | (apply gd_beq_f <;> intro hq <;> (try (exfalso; omega))) | (apply gd_bne_t <;> intro hq <;> (try (exfalso; omega))) | (apply gd_bne_f <;> intro hq <;> (try (exfalso; omega))) | (apply gd_not_t <;> intro hq) | (apply gd_not_f <;> intro hq) | (apply gd_raw_t <;> intro hq) | (apply gd_raw_f <;> intro hq)) | (apply at_thn) | (apply at_thn_ret) | (apply at_thn_exit) | (apply at_inb) | (apply at_inb_ret) | (apply at_inb_exit) | refine at_inb_pass rfl ?_ | refine c_drawn (by kernel_rfl) ?_)
    refine sw_loopg (α := Nat) (fun j => [(0, .slice a n c), (1, .slice a2 n c2), (12, .int .i64 n), (13, .int .i64 j)]) (fun _ => H)
      (fun j => j ≤ n ∧ ∀ i, i < j → C.getD i qz = D.getD i qz) (fun j => n - j) 0 ⟨Nat.zero_le _, fun i hi => absurd hi (Nat.not_lt_zero _)⟩ (by repeat (first | exact Le.nil _ | refine Le.cons (by first | rfl | (exact congrArg some (congrArg (Value.int _) (by omega)))) ?_)) (fun _ hw => hw.subs (by repeat (first | refine Subs.cons (by repeat constructor) ?_ | exact Subs.sub (by repeat (first | exact List.Sublist.refl _ | exact List.nil_sublist _ | refine List.Sublist.cons _ ?_))))) ?_
    rintro j ⟨hj, hs⟩
    have Hs := Lib.hid hs
    clear hs
    by_cases hlt : (j : Int) < n
    · have he1 := Hec.out j (by omega)
      have he2 := Hed.out j (by omega)
      have hE := qd_eqv (C.getD (j : Int).toNat qz) (D.getD (j : Int).toNat qz) _ rfl
      rw [Int.toNat_natCast] at hE
      rw [show C.getD (j : Int).toNat qz = C.getD j qz from by rw [Int.toNat_natCast]] at he1
      rw [show D.getD (j : Int).toNat qz = D.getD j qz from by rw [Int.toNat_natCast]] at he2
      by_cases hqq : C.getD j qz = D.getD j qz
      · rw [decide_eq_true hqq] at hE
        repeat' (first | (apply g_sl; first | (apply ks_nil; refine sl_nil ?_) | (apply ks_move; refine s_move rfl rfl ?_) | (apply ks_bin; refine s_bin rfl rfl rfl ?_; first | fail | (first | (apply kb_add; first | refine bb_add ⟨by omega, by omega⟩ ?_ | refine bb_of rfl ?_) | refine bb_of rfl ?_)) | (apply ks_load; first | (refine s_load rfl rfl ?_; first | refine ld_cell rfl ?_ | refine ld_whole rfl ?_ | refine ld_elem rfl ?_ | refine ld_part rfl rfl ?_) | fail) | (apply ks_asgn; refine s_asgn rfl rfl ?_) | (apply ks_indexA; first | refine s_indexA (c_indexAddr rfl rfl rfl rfl (by omega) (by omega)) rfl ?_ | fail) | (apply ks_bi; first | fail | refine s_call (c_len rfl rfl) rfl ?_ | refine s_call (c_len_str rfl rfl) rfl ?_ | refine s_call (c_bi rfl rfl rfl rfl) rfl ?_ | refine c_append rfl rfl rfl rfl (by first | rfl | simp [ints]) (by first | rfl | exact ints_one _ | exact octs_one _ | exact strs_one _) (by omega) rfl rfl (fun _ _ => ?_) | refine c_append_nil rfl rfl rfl rfl (by first | rfl | simp [ints]) (by first | rfl | exact ints_one _ | exact octs_one _ | exact strs_one _) (by omega) rfl rfl (fun _ _ => ?_)) | fail) | (apply g_sq; first | (apply kq_nil; refine sq_nil ?_) | (apply kq_move; refine q_move rfl rfl ?_) | (apply kq_bin; refine q_bin rfl rfl rfl ?_; first | first | (refine q_indexA (c_indexAddr rfl rfl rfl hlx (by omega) (by omega)) rfl ?_) | (refine q_indexA (c_indexAddr rfl rfl rfl hly (by omega) (by omega)) rfl ?_) | (refine q_load rfl rfl ?_; first | refine ld_elems he1 rfl ?_ | refine ld_elems he2 rfl ?_) | (refine bb_nev hE (by kernel_rfl) ?_) | (first | (apply kb_add; first | refine bb_add ⟨by omega, by omega⟩ ?_ | refine bb_of rfl ?_) | refine bb_of rfl ?_)) | (apply kq_load; first | (refine q_load rfl rfl ?_; first | refine ld_cell rfl ?_ | refine ld_whole rfl ?_ | refine ld_elem rfl ?_ | refine ld_part rfl rfl ?_) | first | (refine q_indexA (c_indexAddr rfl rfl rfl hlx (by omega) (by omega)) rfl ?_) | (refine q_indexA (c_indexAddr rfl rfl rfl hly (by omega) (by omega)) rfl ?_) | (refine q_load rfl rfl ?_; first | refine ld_elems he1 rfl ?_ | refine ld_elems he2 rfl ?_) | (refine bb_nev hE (by kernel_rfl) ?_)) | (apply kq_asgn; refine q_asgn rfl rfl ?_) | (apply kq_indexA; first | refine q_indexA (c_indexAddr rfl rfl rfl rfl (by omega) (by omega)) rfl ?_ | first | (refine q_indexA (c_indexAddr rfl rfl rfl hlx (by omega) (by omega)) rfl ?_) | (refine q_indexA (c_indexAddr rfl rfl rfl hly (by omega) (by omega)) rfl ?_) | (refine q_load rfl rfl ?_; first | refine ld_elems he1 rfl ?_ | refine ld_elems he2 rfl ?_) | (refine bb_nev hE (by kernel_rfl) ?_)) | (apply kq_bi; first | first | (refine q_indexA (c_indexAddr rfl rfl rfl hlx (by omega) (by omega)) rfl ?_) | (refine q_indexA (c_indexAddr rfl rfl rfl hly (by omega) (by omega)) rfl ?_) | (refine q_load rfl rfl ?_; first | refine ld_elems he1 rfl ?_ | refine ld_elems he2 rfl ?_) | (refine bb_nev hE (by kernel_rfl) ?_) | refine q_call (c_len rfl rfl) rfl ?_ | refine q_call (c_len_str rfl rfl) rfl ?_) | first | (refine q_indexA (c_indexAddr rfl rfl rfl hlx (by omega) (by omega)) rfl ?_) | (refine q_indexA (c_indexAddr rfl rfl rfl hly (by omega) (by omega)) rfl ?_) | (refine q_load rfl rfl ?_; first | refine ld_elems he1 rfl ?_ | refine ld_elems he2 rfl ?_) | (refine bb_nev hE (by kernel_rfl) ?_)) | (apply sw_seq) | (apply at_srd) | (apply sw_skip) | (apply sw_ret) | (apply sw_exit) | (apply sw_block) | (apply sw_region) | (refine sw_cd rfl ?_; first | (apply gd_t) | (apply gd_ft) | (apply gd_tf) | (apply gd_dec_t <;> intro hq <;> (try (exfalso; omega))) | (apply gd_dec_f <;> intro hq <;> (try (exfalso; omega))) | (apply gd_beq_t <;> intro hq <;> (try (exfalso; omega))) | (apply gd_beq_f <;> intro hq <;> (try (exfalso; omega))) | (apply gd_bne_t <;> intro hq <;> (try (exfalso; omega))) | (apply gd_bne_f <;> intro hq <;> (try (exfalso; omega))) | (apply gd_not_t <;> intro hq) | (apply gd_not_f <;> intro hq) | (apply gd_raw_t <;> intro hq) | (apply gd_raw_f <;> intro hq)) | (apply at_thn) | (apply at_thn_ret) | (apply at_thn_exit) | (apply at_inb) | (apply at_inb_ret) | (apply at_inb_exit) | refine at_inb_pass rfl ?_ | refine c_drawn (by kernel_rfl) ?_)
        refine at_meet (j + 1) ⟨⟨by omega, fun i hi => ?_⟩, by omega⟩ (by repeat (first | exact Le.nil _ | refine Le.cons (by first | rfl | (exact congrArg some (congrArg (Value.int _) (by omega)))) ?_)) (fun _ hw => hw.subs (by repeat (first | refine Subs.cons (by repeat constructor) ?_ | exact Subs.sub (by repeat (first | exact List.Sublist.refl _ | exact List.nil_sublist _ | refine List.Sublist.cons _ ?_)))))
        rcases Nat.lt_or_ge i j with h | h
        · exact Hs.out i h
        · obtain rfl : i = j := by omega
          exact hqq
      · rw [decide_eq_false hqq] at hE
        repeat' (first | (apply g_sl; first | (apply ks_nil; refine sl_nil ?_) | (apply ks_move; refine s_move rfl rfl ?_) | (apply ks_bin; refine s_bin rfl rfl rfl ?_; first | fail | (first | (apply kb_add; first | refine bb_add ⟨by omega, by omega⟩ ?_ | refine bb_of rfl ?_) | refine bb_of rfl ?_)) | (apply ks_load; first | (refine s_load rfl rfl ?_; first | refine ld_cell rfl ?_ | refine ld_whole rfl ?_ | refine ld_elem rfl ?_ | refine ld_part rfl rfl ?_) | fail) | (apply ks_asgn; refine s_asgn rfl rfl ?_) | (apply ks_indexA; first | refine s_indexA (c_indexAddr rfl rfl rfl rfl (by omega) (by omega)) rfl ?_ | fail) | (apply ks_bi; first | fail | refine s_call (c_len rfl rfl) rfl ?_ | refine s_call (c_len_str rfl rfl) rfl ?_ | refine s_call (c_bi rfl rfl rfl rfl) rfl ?_ | refine c_append rfl rfl rfl rfl (by first | rfl | simp [ints]) (by first | rfl | exact ints_one _ | exact octs_one _ | exact strs_one _) (by omega) rfl rfl (fun _ _ => ?_) | refine c_append_nil rfl rfl rfl rfl (by first | rfl | simp [ints]) (by first | rfl | exact ints_one _ | exact octs_one _ | exact strs_one _) (by omega) rfl rfl (fun _ _ => ?_)) | fail) | (apply g_sq; first | (apply kq_nil; refine sq_nil ?_) | (apply kq_move; refine q_move rfl rfl ?_) | (apply kq_bin; refine q_bin rfl rfl rfl ?_; first | first | (refine q_indexA (c_indexAddr rfl rfl rfl hlx (by omega) (by omega)) rfl ?_) | (refine q_indexA (c_indexAddr rfl rfl rfl hly (by omega) (by omega)) rfl ?_) | (refine q_load rfl rfl ?_; first | refine ld_elems he1 rfl ?_ | refine ld_elems he2 rfl ?_) | (refine bb_nev hE (by kernel_rfl) ?_) | (first | (apply kb_add; first | refine bb_add ⟨by omega, by omega⟩ ?_ | refine bb_of rfl ?_) | refine bb_of rfl ?_)) | (apply kq_load; first | (refine q_load rfl rfl ?_; first | refine ld_cell rfl ?_ | refine ld_whole rfl ?_ | refine ld_elem rfl ?_ | refine ld_part rfl rfl ?_) | first | (refine q_indexA (c_indexAddr rfl rfl rfl hlx (by omega) (by omega)) rfl ?_) | (refine q_indexA (c_indexAddr rfl rfl rfl hly (by omega) (by omega)) rfl ?_) | (refine q_load rfl rfl ?_; first | refine ld_elems he1 rfl ?_ | refine ld_elems he2 rfl ?_) | (refine bb_nev hE (by kernel_rfl) ?_)) | (apply kq_asgn; refine q_asgn rfl rfl ?_) | (apply kq_indexA; first | refine q_indexA (c_indexAddr rfl rfl rfl rfl (by omega) (by omega)) rfl ?_ | first | (refine q_indexA (c_indexAddr rfl rfl rfl hlx (by omega) (by omega)) rfl ?_) | (refine q_indexA (c_indexAddr rfl rfl rfl hly (by omega) (by omega)) rfl ?_) | (refine q_load rfl rfl ?_; first | refine ld_elems he1 rfl ?_ | refine ld_elems he2 rfl ?_) | (refine bb_nev hE (by kernel_rfl) ?_)) | (apply kq_bi; first | first | (refine q_indexA (c_indexAddr rfl rfl rfl hlx (by omega) (by omega)) rfl ?_) | (refine q_indexA (c_indexAddr rfl rfl rfl hly (by omega) (by omega)) rfl ?_) | (refine q_load rfl rfl ?_; first | refine ld_elems he1 rfl ?_ | refine ld_elems he2 rfl ?_) | (refine bb_nev hE (by kernel_rfl) ?_) | refine q_call (c_len rfl rfl) rfl ?_ | refine q_call (c_len_str rfl rfl) rfl ?_) | first | (refine q_indexA (c_indexAddr rfl rfl rfl hlx (by omega) (by omega)) rfl ?_) | (refine q_indexA (c_indexAddr rfl rfl rfl hly (by omega) (by omega)) rfl ?_) | (refine q_load rfl rfl ?_; first | refine ld_elems he1 rfl ?_ | refine ld_elems he2 rfl ?_) | (refine bb_nev hE (by kernel_rfl) ?_)) | (apply sw_seq) | (apply at_srd) | (apply sw_skip) | (apply sw_ret) | (apply sw_exit) | (apply sw_block) | (apply sw_region) | (refine sw_cd rfl ?_; first | (apply gd_t) | (apply gd_ft) | (apply gd_tf) | (apply gd_dec_t <;> intro hq <;> (try (exfalso; omega))) | (apply gd_dec_f <;> intro hq <;> (try (exfalso; omega))) | (apply gd_beq_t <;> intro hq <;> (try (exfalso; omega))) | (apply gd_beq_f <;> intro hq <;> (try (exfalso; omega))) | (apply gd_bne_t <;> intro hq <;> (try (exfalso; omega))) | (apply gd_bne_f <;> intro hq <;> (try (exfalso; omega))) | (apply gd_not_t <;> intro hq) | (apply gd_not_f <;> intro hq) | (apply gd_raw_t <;> intro hq) | (apply gd_raw_f <;> intro hq)) | (apply at_thn) | (apply at_thn_ret) | (apply at_thn_exit) | (apply at_inb) | (apply at_inb_ret) | (apply at_inb_exit) | refine at_inb_pass rfl ?_ | refine c_drawn (by kernel_rfl) ?_)
        refine e_sv (by first | exact .inl rfl | exact .inr rfl) rfl (by repeat (first | exact List.Sublist.refl _ | exact List.nil_sublist _ | refine List.Sublist.cons _ ?_)) ?_
        rw [decide_eq_false (fun e => hqq (by rw [e]))]
        rfl
    · obtain rfl : j = n := by omega
      repeat' (first | (apply g_sl; first | (apply ks_nil; refine sl_nil ?_) | (apply ks_move; refine s_move rfl rfl ?_) | (apply ks_bin; refine s_bin rfl rfl rfl ?_; first | fail | (first | (apply kb_add; first | refine bb_add ⟨by omega, by omega⟩ ?_ | refine bb_of rfl ?_) | refine bb_of rfl ?_)) | (apply ks_load; first | (refine s_load rfl rfl ?_; first | refine ld_cell rfl ?_ | refine ld_whole rfl ?_ | refine ld_elem rfl ?_ | refine ld_part rfl rfl ?_) | fail) | (apply ks_asgn; refine s_asgn rfl rfl ?_) | (apply ks_indexA; first | refine s_indexA (c_indexAddr rfl rfl rfl rfl (by omega) (by omega)) rfl ?_ | fail) | (apply ks_bi; first | fail | refine s_call (c_len rfl rfl) rfl ?_ | refine s_call (c_len_str rfl rfl) rfl ?_ | refine s_call (c_bi rfl rfl rfl rfl) rfl ?_ | refine c_append rfl rfl rfl rfl (by first | rfl | simp [ints]) (by first | rfl | exact ints_one _ | exact octs_one _ | exact strs_one _) (by omega) rfl rfl (fun _ _ => ?_) | refine c_append_nil rfl rfl rfl rfl (by first | rfl | simp [ints]) (by first | rfl | exact ints_one _ | exact octs_one _ | exact strs_one _) (by omega) rfl rfl (fun _ _ => ?_)) | fail) | (apply g_sq; first | (apply kq_nil; refine sq_nil ?_) | (apply kq_move; refine q_move rfl rfl ?_) | (apply kq_bin; refine q_bin rfl rfl rfl ?_; first | fail | (first | (apply kb_add; first | refine bb_add ⟨by omega, by omega⟩ ?_ | refine bb_of rfl ?_) | refine bb_of rfl ?_)) | (apply kq_load; first | (refine q_load rfl rfl ?_; first | refine ld_cell rfl ?_ | refine ld_whole rfl ?_ | refine ld_elem rfl ?_ | refine ld_part rfl rfl ?_) | fail) | (apply kq_asgn; refine q_asgn rfl rfl ?_) | (apply kq_indexA; first | refine q_indexA (c_indexAddr rfl rfl rfl rfl (by omega) (by omega)) rfl ?_ | fail) | (apply kq_bi; first | fail | refine q_call (c_len rfl rfl) rfl ?_ | refine q_call (c_len_str rfl rfl) rfl ?_) | fail) | (apply sw_seq) | (apply at_srd) | (apply sw_skip) | (apply sw_ret) | (apply sw_exit) | (apply sw_block) | (apply sw_region) | (refine sw_cd rfl ?_; first | (apply gd_t) | (apply gd_ft) | (apply gd_tf) | (apply gd_dec_t <;> intro hq <;> (try (exfalso; omega))) | (apply gd_dec_f <;> intro hq <;> (try (exfalso; omega))) | (apply gd_beq_t <;> intro hq <;> (try (exfalso; omega))) | (apply gd_beq_f <;> intro hq <;> (try (exfalso; omega))) | (apply gd_bne_t <;> intro hq <;> (try (exfalso; omega))) | (apply gd_bne_f <;> intro hq <;> (try (exfalso; omega))) | (apply gd_not_t <;> intro hq) | (apply gd_not_f <;> intro hq) | (apply gd_raw_t <;> intro hq) | (apply gd_raw_f <;> intro hq)) | (apply at_thn) | (apply at_thn_ret) | (apply at_thn_exit) | (apply at_inb) | (apply at_inb_ret) | (apply at_inb_exit) | refine at_inb_pass rfl ?_ | refine c_drawn (by kernel_rfl) ?_)
      refine e_sv (by first | exact .inl rfl | exact .inr rfl) rfl (by repeat (first | exact List.Sublist.refl _ | exact List.nil_sublist _ | refine List.Sublist.cons _ ?_)) ?_
      rw [decide_eq_true (Hall.out Hs.out)]
      rfl
  · rw [decide_eq_false (fun e => hnm (by rw [hn, hm, e]))]
    clear hlx hly
    refine sv_enter2 Tryd.func118 rfl rfl rfl rfl rfl ?_
    repeat' (first | (apply g_sl; first | (apply ks_nil; refine sl_nil ?_) | (apply ks_move; refine s_move rfl rfl ?_) | (apply ks_bin; refine s_bin rfl rfl rfl ?_; first | fail | (first | (apply kb_add; first | refine bb_add ⟨by omega, by omega⟩ ?_ | refine bb_of rfl ?_) | refine bb_of rfl ?_)) | (apply ks_load; first | (refine s_load rfl rfl ?_; first | refine ld_cell rfl ?_ | refine ld_whole rfl ?_ | refine ld_elem rfl ?_ | refine ld_part rfl rfl ?_) | fail) | (apply ks_asgn; refine s_asgn rfl rfl ?_) | (apply ks_indexA; first | refine s_indexA (c_indexAddr rfl rfl rfl rfl (by omega) (by omega)) rfl ?_ | fail) | (apply ks_bi; first | fail | refine s_call (c_len rfl rfl) rfl ?_ | refine s_call (c_len_str rfl rfl) rfl ?_ | refine s_call (c_bi rfl rfl rfl rfl) rfl ?_ | refine c_append rfl rfl rfl rfl (by first | rfl | simp [ints]) (by first | rfl | exact ints_one _ | exact octs_one _ | exact strs_one _) (by omega) rfl rfl (fun _ _ => ?_) | refine c_append_nil rfl rfl rfl rfl (by first | rfl | simp [ints]) (by first | rfl | exact ints_one _ | exact octs_one _ | exact strs_one _) (by omega) rfl rfl (fun _ _ => ?_)) | fail) | (apply g_sq; first | (apply kq_nil; refine sq_nil ?_) | (apply kq_move; refine q_move rfl rfl ?_) | (apply kq_bin; refine q_bin rfl rfl rfl ?_; first | fail | (first | (apply kb_add; first | refine bb_add ⟨by omega, by omega⟩ ?_ | refine bb_of rfl ?_) | refine bb_of rfl ?_)) | (apply kq_load; first | (refine q_load rfl rfl ?_; first | refine ld_cell rfl ?_ | refine ld_whole rfl ?_ | refine ld_elem rfl ?_ | refine ld_part rfl rfl ?_) | fail) | (apply kq_asgn; refine q_asgn rfl rfl ?_) | (apply kq_indexA; first | refine q_indexA (c_indexAddr rfl rfl rfl rfl (by omega) (by omega)) rfl ?_ | fail) | (apply kq_bi; first | fail | refine q_call (c_len rfl rfl) rfl ?_ | refine q_call (c_len_str rfl rfl) rfl ?_) | fail) | (apply sw_seq) | (apply at_srd) | (apply sw_skip) | (apply sw_ret) | (apply sw_exit) | (apply sw_block) | (apply sw_region) | (refine sw_cd rfl ?_; first | (apply gd_t) | (apply gd_ft) | (apply gd_tf) | (apply gd_dec_t <;> intro hq <;> (try (exfalso; omega))) | (apply gd_dec_f <;> intro hq <;> (try (exfalso; omega))) | (apply gd_beq_t <;> intro hq <;> (try (exfalso; omega))) | (apply gd_beq_f <;> intro hq <;> (try (exfalso; omega))) | (apply gd_bne_t <;> intro hq <;> (try (exfalso; omega))) | (apply gd_bne_f <;> intro hq <;> (try (exfalso; omega))) | (apply gd_not_t <;> intro hq) | (apply gd_not_f <;> intro hq) | (apply gd_raw_t <;> intro hq) | (apply gd_raw_f <;> intro hq)) | (apply at_thn) | (apply at_thn_ret) | (apply at_thn_exit) | (apply at_inb) | (apply at_inb_ret) | (apply at_inb_exit) | refine at_inb_pass rfl ?_ | refine c_drawn (by kernel_rfl) ?_)
    all_goals first | (exfalso; omega) | (refine e_sv (by first | exact .inl rfl | exact .inr rfl) rfl (by repeat (first | exact List.Sublist.refl _ | exact List.nil_sublist _ | refine List.Sublist.cons _ ?_)) ?_; rfl)
abbrev gridV (w h : Int) (a : Option Addr) (n c : Nat) : Value := .agg [.int .i64 w, .int .i64 h, .slice a n c].toArray
theorem row_mul {w h k n : Nat} (hk : k < h) (hn : n = w * h) : k * w + w ≤ n := by
  have := Nat.mul_le_mul_right w (show k + 1 ≤ h from hk)
  rw [Nat.succ_mul, Nat.mul_comm h w] at this
  omega
/-- Row k of a grid. -/
def rowQ (w : Nat) (C : List Qd) (k : Nat) : List Qd := (C.drop (k * w)).take w
theorem rowQ_len {w h k : Nat} {C : List Qd} (hk : k < h) (hn : C.length = w * h) : (rowQ w C k).length = w := by
  unfold rowQ
  have := row_mul hk hn
  rw [List.length_take, List.length_drop]
  omega
end Go.Proofs.YteicfkhaaeoheaaDoor
/- grid.Check: its walk. -/
namespace Go.Proofs.YteicfkhaaeoheaaDoor
open Go Go.RowKit Go.Fw Go.Sx
set_option maxRecDepth 100000
set_option maxHeartbeats 1000000
attribute [local irreducible] SW SL SQ AtQ SV SC BB LD PK Yields SO SOT SOA SY
end Go.Proofs.YteicfkhaaeoheaaDoor
