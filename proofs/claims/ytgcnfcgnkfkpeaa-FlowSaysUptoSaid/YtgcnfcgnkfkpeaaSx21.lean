/- More rules: the whole of an array as a slice; who is here. -/
import Derived.Test.YtgcnfcgnkfkpeaaSx20
namespace Go.Sx
open Go Go.RowKit Go.Fw
section
variable {P : Program} {G : Ctx} {n : Nat} {ops : Array Oper} {Q : Post} {s : Fm} {H : List Ent} {o : Oper} {rest : List Oper}
theorem c_slArr {t e len sz : Nat} {x : Operand} {b off : Nat} (ho : o.op = .slice t x none none none) [hA : ArrT P t len e sz] (hx : ev s x = some (.pointer (some ⟨b, off, none⟩))) : Yields P G n s H o (.slice (some ⟨b, off, none⟩) len len) := fun act w ha _ => by
  obtain ⟨hu, hS⟩ := hA.here
  unfold execOp; rw [ho]; simp only [ha.ev hx]
  refine run_value ?_
  cases hq : P.info? e with
  | none => simp [hq] at hS
  | some inf =>
    have hs : inf.size = sz := by simpa [hq] using hS
    have hz : (sizeOf e).run P w = .ok sz w := by simp [sizeOf, typeInfo, program, Sem.run, hq, hs]
    have hb : (Instr.sliceBounds false len len none none none).run P w = .ok (0, len, len) w := by
      unfold Instr.sliceBounds
      simp [Sem.run, pure]
    simp only [Instr.sliceAt, Sem.run_bind, run_underlying hu, Result.andThen_ok, Instr.sureAddr, Sem.run_pure, Option.map_none]
    simp [hb, hz, Sem.run, Addr.add_mid]
theorem sc_pick {f : FuncId} {args : List Value} {H' : List Ent} {e : Ent} {R : Value → List Ent → Prop} (hp : Pick e H H') (h : SC P G f args (e :: H') R) : SC P G f args H R := ⟨h.1, fun w hw => h.2 w (hw.pick hp)⟩
theorem sw_here {code : Code} (h : ∀ w, Holds G H w → SW P G n code Q s H) : SW P G n code Q s H := fun a w ha hw => h w hw a w ha hw
/-- Held otherwise. -/
theorem sw_held {code : Code} (H' : List Ent) (hh : ∀ w, Holds G H w → Holds G H' w) (h : SW P G n code Q s H') : SW P G n code Q s H := fun a w ha hw => h a w ha (hh w hw)
end
end Go.Sx
