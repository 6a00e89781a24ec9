/- More rules: pieces in regions that draw their order. -/
import Derived.Test.YtgcnfcgnkfkpeaaSx10
namespace Go.Sx
open Go Go.RowKit Go.Fw
section
variable {P : Program} {G : Ctx} {n : Nat} {ops : Array Oper} {s : Fm} {H : List Ent} {o : Oper} {rest : List Oper}
theorem kq_slice {Q : Fm → Prop} {x : Operand} {t : TypeId} {lo hi mx : Option Operand} {d : Option Nat} {ty : TypeId} {pos : String} {af : Array Edge} (h : SQ P G n ops Q H (⟨d, .slice t x lo hi mx, ty, pos, af, none⟩ :: rest) s) : SQ P G n ops Q H (⟨d, .slice t x lo hi mx, ty, pos, af, none⟩ :: rest) s := h
theorem q_slice {Q : Fm → Prop} {x : Operand} {t : TypeId} {lo hi mx : Option Operand} {d : Nat} {v : Value} {ty : TypeId} {pos : String} {af : Array Edge} (hy : Yields P G n s H ⟨some d, .slice t x lo hi mx, ty, pos, af, none⟩ v) (h2 : Nat.blt d n = true) (h : SQ P G n ops Q H rest ((d, v) :: s)) : SQ P G n ops Q H (⟨some d, .slice t x lo hi mx, ty, pos, af, none⟩ :: rest) s := sq_val rfl hy rfl h2 h
theorem q_sliceSl {Q : Fm → Prop} {t e sz bytes : Nat} {x : Operand} {lo hi : Option Operand} {a : Option Addr} {len c d : Nat} {l h : Int} {Hr : List Ent} {xs : List Value} (hg : o.guard = none) (ho : o.op = .slice t x lo hi none) [hT : SliceT P t e sz bytes] (hx : ev s x = some (.slice a len c)) (hl : bnd s 0 lo = some l) (hh : bnd s len hi = some h)
    (hr : Rd G Hr a xs) (hlen : xs.length = len * sz) (h0 : 0 ≤ l) (h1 : l ≤ h) (h2 : h ≤ len) (h3 : len ≤ c) (h1d : o.dst = some d) (h2d : Nat.blt d n = true)
    (hk : ∀ a', RdC G Hr a' ((xs.drop (l.toNat * sz)).take ((h.toNat - l.toNat) * sz)) → SQ P G n ops Q H rest ((d, .slice a' (h.toNat - l.toNat) (c - l.toNat)) :: s)) : SQ P G n ops Q H (o :: rest) s := by
  obtain ⟨hu, hsz, -, -⟩ := hT.here
  have hS := hT.size
  refine sq_val (v := .slice (if c = l.toNat then a else a.map (·.add (l.toNat * sz))) (h.toNat - l.toNat) (c - l.toNat)) hg (fun act w ha _ => ?_) h1d h2d (hk _ ⟨?_⟩)
  · unfold execOp; rw [ho]; simp only [ha.ev hx]
    refine run_value ?_
    have hb := run_bounds (P := P) (isSl := true) (w := w) (cap := c) ha hl hh h0 h1 (by omega)
    cases hq : P.info? e with
    | none => simp [hq] at hS
    | some inf =>
      have hs : inf.size = sz := by simpa [hq] using hS
      have hz : (sizeOf e).run P w = .ok sz w := by simp [sizeOf, typeInfo, program, Sem.run, hq, hs]
      simp only [Instr.sliceAt, Sem.run_bind, run_underlying hu, Result.andThen_ok, Instr.slice, Option.map_none]
      simp [hb, hz, Sem.run]
  · split
    · rename_i hc
      have e0 : (h.toNat - l.toNat) * sz = 0 := by rw [show h.toNat - l.toNat = 0 from by omega, Nat.zero_mul]
      rw [e0, List.take_zero]
      exact fun w _ => At.nil w a
    · refine hr.piece ?_
      rw [hlen, ← Nat.add_mul]
      exact Nat.mul_le_mul_right sz (by omega)
end
end Go.Sx
