/- More rules: rows whose elements are structs; function values that hold variables. -/
import Derived.Test.YtgcnfcgnkfkpeaaSx21
namespace Go.Sx
open Go Go.RowKit Go.Fw
section
variable {P : Program} {G : Ctx} {n : Nat} {ops : Array Oper} {Q : Post} {s : Fm} {H : List Ent} {o : Oper} {rest : List Oper}
/-- A field's place in an element of a row. -/
theorem c_fieldE {t i fo k : Nat} {x : Operand} {a : Option Addr} {xs : List Value} (ho : o.op = .fieldAddr t x i) [h : FieldAt P t i fo] (hx : ev s x = some (elemPtr a k)) [hr : RdC G H a xs] (hk : k < xs.length) : Yields P G n s H o (elemPtr a (k + fo)) := fun act w ha hw => by
  obtain ⟨b, off, rfl, -⟩ := At.someAt (hr.here w hw) (by omega)
  have e1 : elemPtr (some ⟨b, off, none⟩) k = .pointer (some ⟨b, off + k, none⟩) := by simp only [elemPtr, Option.map_some, Addr.add_mid]
  have e2 : elemPtr (some ⟨b, off, none⟩) (k + fo) = .pointer (some ⟨b, off + k + fo, none⟩) := by simp only [elemPtr, Option.map_some, Addr.add_mid, Nat.add_assoc]
  rw [e1] at hx
  rw [e2]
  exact c_field (P := P) (G := G) (H := H) ho hx act w ha hw
/-- An element of several cells, or a part of one, is loaded. -/
theorem ld_elems {t sz k : Nat} {K : Value → Prop} {a : Option Addr} {xs cs : List Value} [h : Ag P t sz] [hr : RdC G H a xs] (hn : take? (xs.drop k) sz = some cs) (hz : Nat.blt 0 sz = true) (hk : K (.agg cs.toArray)) : LD P G H t (elemPtr a k) K := by
  obtain ⟨d, h1, h2, h3⟩ := h.here
  obtain ⟨e1, e2⟩ := take?_eq hn
  rw [List.length_drop] at e2
  have hz' : 0 < sz := by simpa [Nat.blt_eq] using hz
  refine ⟨_, fun w hw => ?_, hk⟩
  obtain ⟨b, off, rfl, hc⟩ := At.someAt (hr.here w hw) (by omega)
  simp only [elemPtr, Option.map_some, Addr.add_mid]
  refine run_load_cells h1 h2 (cs := cs) (by rw [h3, ← e1, List.length_take, List.length_drop, Nat.min_eq_left (by omega)]) fun j v hj => ?_
  rw [← e1] at hj
  have hlt : j < sz := by
    have := (List.getElem?_eq_some_iff.1 hj).1
    rw [List.length_take] at this; omega
  rw [List.getElem?_take, if_pos hlt, List.getElem?_drop] at hj
  rw [Nat.add_assoc]
  exact (hc (k + j) (List.getElem?_eq_some_iff.1 hj).1).trans hj
/-- A function value is made. -/
theorem y_mkfn {f : FuncId} {first captured : Array Operand} {v1 v2 : List Value} (ho : o.op = .makeFunc (.func f) first captured) (h1 : evs s first.toList = some v1) (h2 : evs s captured.toList = some v2) : Yields P G n s H o (.func (.func f) v1.toArray v2.toArray) := fun a w ha _ => by
  have e1 : first.map a.eval = v1.toArray := by rw [← (evs_of h1).map ha, ← List.map_toArray, Array.toArray_toList]
  have e2 : captured.map a.eval = v2.toArray := by rw [← (evs_of h2).map ha, ← List.map_toArray, Array.toArray_toList]
  unfold execOp; rw [ho]
  simp only [e1, e2, Instr.makeFunc]
  exact run_value rfl
theorem s_mkfn {f : FuncId} {first captured : Array Operand} {d : Nat} {v : Value} {ty : TypeId} {pos : String} {af : Array Edge} (hy : Yields P G n s H ⟨some d, .makeFunc (.func f) first captured, ty, pos, af, none⟩ v) (h2 : Nat.blt d n = true) (h : SL P G n ops Q rest ((d, v) :: s) H) : SL P G n ops Q (⟨some d, .makeFunc (.func f) first captured, ty, pos, af, none⟩ :: rest) s H := sl_val rfl hy rfl h2 h
end
end Go.Sx
