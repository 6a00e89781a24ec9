/- Loads of rows in regions that draw their order. -/
import Derived.Test.YtkbkppoefgojaaaBase2
namespace Go.Fw
open Go.RowKit

theorem fw_quiet_load {P : Program} {C : World → Prop} {a : Act} {o : Oper} {K : Act → Prop} (ty : TypeId) (x : Operand) (ho : o.op = .load ty x) (ad : Option Addr) (v : Value) (hx : a.eval x = .pointer ad)
    (hl : ∀ w, C w → (Instr.loadAt ty (.pointer ad)).run P w = .ok v w) (hk : K (a.put o.dst v)) : o.quiet P a C K := by
  refine ⟨v, fun w hw => ?_, hk⟩
  unfold Oper.quietAt execOp
  simp only [ho, hx, Sem.run_bind, hl w hw, Result.andThen_ok]
  exact ⟨rfl, rfl⟩

theorem Grow.loads {P : Program} {B : Nat} {w : World} {g : Nat} {cs : Array Value} {t ty : TypeId} {d : TypeDesc} (hg : g < B) (h : w.heap[g]? = some (.cells cs t (0, 0)))
    (hu : P.underlying ty = some d) (hd : d.isRow = true) (hi : (P.info? ty).map (·.size) = some cs.size) : ∀ w', (∃ x : Grow B w, w' = x.now) → (Instr.loadAt ty (.pointer (some ⟨g, 0, none⟩))).run P w' = .ok (.agg cs) w' := by
  rintro _ ⟨x, rfl⟩
  exact x.load hg h hu hd hi

end Go.Fw
