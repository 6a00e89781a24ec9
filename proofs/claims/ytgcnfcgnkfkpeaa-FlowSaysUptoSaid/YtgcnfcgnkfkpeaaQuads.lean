/- The cells of a grid: plain. -/
import Derived.Test.YtgcnfcgnkfkpeaaSx22
namespace Go.Fw
open Go Go.RowKit Go.Sx
/-- A cell: its rune, and its pen's flags, foreground and background. -/
abbrev Qd := Int × Int × Int × Int
def qd (q : Qd) : List Value := [.int .i64 q.1, .int .i64 q.2.1, .int .i64 q.2.2.1, .int .i64 q.2.2.2]
def qds (C : List Qd) : List Value := C.flatMap qd
abbrev qz : Qd := (0, 0, 0, 0)
theorem qd_len (q : Qd) : (qd q).length = 4 := rfl
theorem qds_cons (q : Qd) (C : List Qd) : qds (q :: C) = qd q ++ qds C := by simp [qds]
theorem qds_app (C D : List Qd) : qds (C ++ D) = qds C ++ qds D := by simp [qds]
theorem qds_len : ∀ C : List Qd, (qds C).length = C.length * 4
  | [] => rfl
  | q :: C => by rw [qds_cons, List.length_append, qds_len C, qd_len, List.length_cons]; omega
theorem qds_drop : ∀ (k : Nat) (C : List Qd), (qds C).drop (k * 4) = qds (C.drop k)
  | 0, C => by simp
  | k + 1, [] => by simp [qds]
  | k + 1, q :: C => by
    rw [qds_cons, show (k + 1) * 4 = (qd q).length + k * 4 from by rw [qd_len]; omega, List.drop_length_add_append, qds_drop k C]
    rfl
theorem qds_take : ∀ (k : Nat) (C : List Qd), (qds C).take (k * 4) = qds (C.take k)
  | 0, C => by simp [qds]
  | k + 1, [] => by simp [qds]
  | k + 1, q :: C => by
    rw [qds_cons, show (k + 1) * 4 = (qd q).length + k * 4 from by rw [qd_len]; omega, List.take_length_add_append, qds_take k C, List.take_succ_cons, qds_cons]
theorem qds_piece (C : List Qd) (q m : Nat) (l h : Int) (hl : l = q) (hh : h = q + m) : ((qds C).drop (l.toNat * 4)).take ((h.toNat - l.toNat) * 4) = qds ((C.drop q).take m) := by
  rw [show l.toNat = q from by omega, show h.toNat - q = m from by omega, qds_drop, qds_take]
theorem getD_cons_drop {C : List Qd} {k : Nat} (hk : k < C.length) : C.drop k = C.getD k qz :: C.drop (k + 1) := by
  rw [List.drop_eq_getElem_cons hk, List.getD_eq_getElem?_getD, List.getElem?_eq_getElem hk]
  rfl
theorem qds_cell {C : List Qd} {k : Nat} (j : Nat) (hk : k < C.length) (hj : j < 4) : (qds C)[k * 4 + j]? = (qd (C.getD k qz))[j]? := by
  rw [← List.getElem?_drop, qds_drop, getD_cons_drop hk, qds_cons, List.getElem?_append_left (by rw [qd_len]; exact hj)]
theorem qds_elem {C : List Qd} {k : Nat} (hk : k < C.length) : take? ((qds C).drop (k * 4)) 4 = some (qd (C.getD k qz)) := by
  rw [qds_drop, getD_cons_drop hk, qds_cons]
  simp [take?, qd]
theorem qds_pen {C : List Qd} {k : Nat} (hk : k < C.length) : take? ((qds C).drop (k * 4 + 1)) 3 = some [.int .i64 (C.getD k qz).2.1, .int .i64 (C.getD k qz).2.2.1, .int .i64 (C.getD k qz).2.2.2] := by
  rw [← List.drop_drop, qds_drop, getD_cons_drop hk, qds_cons]
  simp [take?, qd]
theorem qds_over {C : List Qd} {k : Nat} (q : Qd) (hk : k < C.length) : over (qds C) (k * 4) (qd q) = qds (C.set k q) := by
  unfold over
  rw [qds_take, qd_len, show k * 4 + 4 = (k + 1) * 4 from by omega, qds_drop, List.set_eq_take_append_cons_drop, if_pos hk, qds_app, qds_cons, List.append_assoc]
theorem qds_one (C : List Qd) : (qds C).all (·.oneCell') = true := by
  unfold qds
  rw [List.all_flatMap]
  exact List.all_eq_true.2 fun _ _ => rfl
/-- The other half of the sign ahead. -/
def tailP (C : List Qd) (k : Nat) : Prop := k < C.length ∧ (C.getD k qz).1 = 0 ∧ (C.getD k qz).2 = (C.getD (k - 1) qz).2
instance (C : List Qd) (k : Nat) : Decidable (tailP C k) := by unfold tailP; infer_instance
/-- Half of nothing. -/
def loneB (wd : Int → Int) (C : List Qd) (i : Nat) : Bool :=
  if (C.getD i qz).1 = 0 then decide (i = 0 ∨ wd (C.getD (i - 1) qz).1 ≠ 2 ∨ ¬ tailP C i) else decide (wd (C.getD i qz).1 = 2 ∧ ¬ tailP C (i + 1))
end Go.Fw
