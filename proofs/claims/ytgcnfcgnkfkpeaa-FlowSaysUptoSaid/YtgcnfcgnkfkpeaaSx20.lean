/- More rules: a call of a function value; function values. -/
import Derived.Test.YtgcnfcgnkfkpeaaSx19
namespace Go.Sx
open Go Go.RowKit Go.Fw
section
variable {P : Program} {G : Ctx} {n : Nat} {ops : Array Oper} {Q : Post} {s : Fm} {H : List Ent} {o : Oper} {rest : List Oper}
theorem run_calld {f : FuncId} {x : Operand} {first captured : List Value} {xs : Array Operand} {ats : Array TypeId} {vs : List Value} {a : Act} {w : World} (ho : o.op = .call { callee := .value x, args := xs, argTypes := ats }) (hx : ev s x = some (.func (.func f) first.toArray captured.toArray)) (he : Evs s xs.toList vs) (hc : Callee P f) (ha : Fr n s a) : (execOp a.eval o).run P w = .ok (.enter f (first ++ vs ++ captured).toArray) w := by
  have e1 : xs.map a.eval = vs.toArray := by
    rw [← he.map ha, ← List.map_toArray, Array.toArray_toList]
  have e0 := ha.ev hx
  have e2 : execOp a.eval o = (do let d ← Deferred.ofValue (a.eval x) (xs.map a.eval); invoke d.target d.args) := by
    cases o; simp only at ho; subst ho; rfl
  rw [e2, e0, e1]
  have := hc (first ++ vs ++ captured).toArray w
  simp only [Deferred.ofValue, invoke, Sem.run_bind, Sem.run_pure, Result.andThen_ok]
  simpa using this
/-- A call of a function value. -/
theorem c_calld {f d : Nat} {x : Operand} {first captured : List Value} {xs : Array Operand} {ats : Array TypeId} {vs : List Value} {R : Value → List Ent → Prop} (hg : o.guard = none) (ho : o.op = .call { callee := .value x, args := xs, argTypes := ats }) (hx : ev s x = some (.func (.func f) first.toArray captured.toArray)) (he : evs s xs.toList = some vs) (hc : SC P G f (first ++ vs ++ captured) H R) (h1d : o.dst = some d) (h2d : Nat.blt d n = true)
    (h : ∀ v H', R v H' → SL P G n ops Q rest ((d, v) :: s) H') : SL P G n ops Q (o :: rest) s H := by
  have hd := okd (n := n) h1d h2d
  simp only [← updd h1d] at h
  refine sl_op (.inl hg) fun a w ha hw K hK => ?_
  unfold Oper.wp
  rw [run_calld ho hx (evs_of he) hc.1 ha]
  exact (hc.2 w hw).mono fun e w' ⟨v, H', he, hw', q⟩ => by subst he; exact hK _ _ (h v H' q _ _ (ha.put _ _ hd) hw')
theorem c_calldv {f d : Nat} {x : Operand} {first captured : List Value} {xs : Array Operand} {ats : Array TypeId} {vs : List Value} {v : Value} (hg : o.guard = none) (ho : o.op = .call { callee := .value x, args := xs, argTypes := ats }) (hx : ev s x = some (.func (.func f) first.toArray captured.toArray)) (he : evs s xs.toList = some vs) (hc : SV P G f (first ++ vs ++ captured) H v) (h1d : o.dst = some d) (h2d : Nat.blt d n = true)
    (h : SL P G n ops Q rest ((d, v) :: s) H) : SL P G n ops Q (o :: rest) s H := c_calld hg ho hx he hc h1d h2d fun _ _ ⟨e1, e2⟩ => by subst e1; subst e2; exact h
theorem c_calldq {Q : Fm → Prop} {f d : Nat} {x : Operand} {first captured : List Value} {xs : Array Operand} {ats : Array TypeId} {vs : List Value} {v : Value} (hg : o.guard = none) (ho : o.op = .call { callee := .value x, args := xs, argTypes := ats }) (hx : ev s x = some (.func (.func f) first.toArray captured.toArray)) (he : evs s xs.toList = some vs) (hc : SV P G f (first ++ vs ++ captured) H v) (h1d : o.dst = some d) (h2d : Nat.blt d n = true)
    (h : SQ P G n ops Q H rest ((d, v) :: s)) : SQ P G n ops Q H (o :: rest) s := fun a ha => by
  have hd := okd (n := n) h1d h2d
  simp only [← updd h1d] at h
  refine wpQuiet_step fun K hK => ?_
  rw [if_pos ((show Want ops o s from .inl hg).wanted ha)]
  refine ⟨v, fun w hw => ?_, hK _ (h _ (ha.put _ _ hd))⟩
  unfold Oper.quietAt
  rw [run_calld ho hx (evs_of he) hc.1 ha]
  refine ⟨rfl, (hc.2 w hw).mono fun e w' ⟨u, H', he, hw', e1, e2⟩ => ?_⟩
  subst e1; subst e2
  exact ⟨he, hw'⟩
/-- The larger of two, of three. -/
theorem c_max2 {x y : Operand} {ats : Array TypeId} {k k' : IntKind} {p q : Int} (ho : o.op = .call { callee := .builtin .max, args := #[x, y], argTypes := ats }) (hx : ev s x = some (.int k p)) (hy : ev s y = some (.int k' q)) : Yields P G n s H o (.int k (max p q)) := fun a w ha _ => by
  have e : max p q = if q > p then q else p := by split <;> omega
  unfold execOp; rw [ho, e]
  simp only [resolve, invoke, Sem.run_bind, Sem.run_pure, Result.andThen_ok, builtin, List.map_toArray, List.map_cons, List.map_nil, ha.ev hx, ha.ev hy, run_max_int2]
theorem c_max3 {x y z : Operand} {ats : Array TypeId} {k k' k'' : IntKind} {p q r : Int} (ho : o.op = .call { callee := .builtin .max, args := #[x, y, z], argTypes := ats }) (hx : ev s x = some (.int k p)) (hy : ev s y = some (.int k' q)) (hz : ev s z = some (.int k'' r)) : Yields P G n s H o (.int k (max (max p q) r)) := fun a w ha _ => by
  have e : max (max p q) r = if r > (if q > p then q else p) then r else (if q > p then q else p) := by split <;> split <;> omega
  unfold execOp; rw [ho, e]
  simp only [resolve, invoke, Sem.run_bind, Sem.run_pure, Result.andThen_ok, builtin, List.map_toArray, List.map_cons, List.map_nil, ha.ev hx, ha.ev hy, ha.ev hz, run_max_int3]
variable {K : Value → Prop} {x y : Operand} {t : TypeId}
theorem st_shll {k k' : IntKind} {p : Int} {m : Nat} (hm : Nat.ble m k.bits = true) (hf : Fits k (p * 2 ^ m)) : still P (do eqGuard .shl t x y (.int k p) (.int k' m); binOp .shl t (.int k p) (.int k' m)) = some (.int k (p * 2 ^ m)) := by
  have hm' := Nat.le_of_ble_eq_true hm
  have e : min ((m : Int).toNat) k.bits = m := by rw [Int.toNat_natCast]; exact Nat.min_eq_left hm'
  have e3 : ¬ ((m : Int) < 0) := by omega
  simp only [eqGuard, binOp, Op.shift, e3, if_false, e, hf.wrap]
  simp
  rfl
theorem bb_shll {k k' : IntKind} {p q D : Int} {m : Nat} (hq : q = m) (hp : pw? m = some D) (hm : Nat.ble m k.bits = true) (hf : Fits k (p * D)) (hk : K (.int k (p * D))) : BB P .shl t x y (.int k p) (.int k' q) K := by
  subst hq
  obtain ⟨e, -⟩ := pw?_eq hp
  subst e
  exact bb_of (st_shll hm hf) hk
end
end Go.Sx
