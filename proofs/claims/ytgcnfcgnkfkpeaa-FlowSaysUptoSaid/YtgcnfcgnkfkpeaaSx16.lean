/- More rules: a struct or an array is equal to itself. -/
import Derived.Test.YtgcnfcgnkfkpeaaSx15
import Derived.ChangeKeysEq
namespace Go.Sx
open Go Go.RowKit Go.Fw
/-- Equal to itself, at depth d. -/
def EqSelf (P : Program) (d : Nat) (t : TypeId) (v : Value) : Prop := ∀ w, (Op.equalIn d t v v).run P w = .ok true w
section
variable {P : Program} {d : Nat} {t e : TypeId}
theorem eqself_int {k : IntKind} (z : Int) [h : IntT P t k] : EqSelf P (d + 1) t (.int k z) := fun w => by rw [run_equalIn_int w d t k k z z h.here]; simp
theorem eqself_str (s : ByteArray) [h : StrT P t] : EqSelf P (d + 1) t (.string s) := fun w => by rw [run_equalIn_string w d t s s h.here]; simp
theorem eqself_bool (b : Bool) (h : P.underlying t = some .bool) : EqSelf P (d + 1) t (.bool b) := fun w => by rw [run_equalIn_bool' w d t b b h]; simp
theorem part_one {cs : List Value} {off : Nat} {v : Value} [h : Sc P t] (hv : cs[off]? = some v) (w : World) : (part t cs.toArray off).run P w = .ok v w := by
  obtain ⟨d, hd, hrow, -⟩ := h.here
  simp only [part, Sem.run_bind, run_isAgg hd, hrow, Result.andThen_ok, Bool.false_eq_true, if_false]
  simp [hv, Sem.run]
theorem part_agg {cs cs' : List Value} {off sz : Nat} [h : Ag P t sz] (hv : (cs.drop off).take sz = cs') (w : World) : (part t cs.toArray off).run P w = .ok (.agg cs'.toArray) w := by
  obtain ⟨d, hd, hrow, hi⟩ := h.here
  cases hq : P.info? t with
  | none => simp [hq] at hi
  | some inf =>
    have hs : inf.size = sz := by simpa [hq] using hi
    have hz : (sizeOf t).run P w = .ok sz w := by simp [sizeOf, typeInfo, program, Sem.run, hq, hs]
    simp only [part, Sem.run_bind, run_isAgg hd, hrow, Result.andThen_ok, if_true, hz, Sem.run_pure]
    congr 2
    rw [← hv]
    apply Array.ext'
    simp
/-- An array whose elements are of one cell. -/
theorem eqself_arr {n : Nat} {cs : List Value} [h : ArrT P t n e 1] [he : Sc P e] (hc : P.cellsOf e = 1) (hs : ∀ j, j < n → ∃ v, cs[j]? = some v ∧ EqSelf P d e v) : EqSelf P (d + 1) t (.agg cs.toArray) := fun w => by
  obtain ⟨hu, hi⟩ := h.here
  cases hq : P.info? e with
  | none => simp [hq] at hi
  | some inf =>
    rw [run_equalIn_array w d cs.toArray cs.toArray hu hq, hc]
    have key : ∀ (is : List Nat), (∀ j ∈ is, j < n) → (Op.eqItems d e 1 cs.toArray cs.toArray is).run P w = .ok true w := by
      intro is
      induction is with
      | nil => intro _; simp [Op.eqItems]
      | cons j is ih =>
        intro hj
        obtain ⟨v, hv, hself⟩ := hs j (hj j (by simp))
        have hp := part_one (P := P) (t := e) (cs := cs) (off := j * 1) (v := v) (by rw [Nat.mul_one]; exact hv) w
        simp only [Op.eqItems, Sem.run_bind, hp, Result.andThen_ok, hself w, Bool.not_true, Bool.false_eq_true, if_false]
        exact ih fun k hk => hj k (by simp [hk])
    exact key _ fun j hj => List.mem_range.1 hj
theorem eqself_struct {cs : List Value} (ht : P.underlying t = some (.struct (P.fieldsOf t))) (hp : P.stoodInHeld t = false) (hs : ∀ f ∈ (P.fieldsOf t).toList, f.name ≠ "_" ∧ ∃ v, (∀ w, (part f.type cs.toArray f.offset).run P w = .ok v w) ∧ EqSelf P d f.type v) : EqSelf P (d + 1) t (.agg cs.toArray) := fun w => by
  rw [run_equalIn_struct w d t _ _ ht hp]
  have key : ∀ (fs : List Field), (∀ f ∈ fs, f.name ≠ "_" ∧ ∃ v, (∀ w, (part f.type cs.toArray f.offset).run P w = .ok v w) ∧ EqSelf P d f.type v) → (Op.eqFields d cs.toArray cs.toArray fs).run P w = .ok true w := by
    intro fs
    induction fs with
    | nil => intro _; simp [Op.eqFields]
    | cons f fs ih =>
      intro hf
      obtain ⟨hn, v, hv, hself⟩ := hf f (by simp)
      simp only [Op.eqFields, ne_eq, hn, not_false_eq_true, if_true, Sem.run_bind, hv, Result.andThen_ok, hself w, Bool.not_true, Bool.false_eq_true, if_false]
      exact ih fun g hg => hf g (by simp [hg])
  exact key _ hs
variable {K : Value → Prop} {x y : Operand}
theorem bb_self {cs : Array Value} (hs : EqSelf P 10000 t (.agg cs)) (hm : P.eqGuardType P.depth t = false) (hk : K (.bool true)) : BB P .eql t x y (.agg cs) (.agg cs) K := ⟨_, fun w => by
  have h1 := run_eqGuard_agg w .eql t x y cs cs hm
  have h2 := run_eql_struct w (P := P) t cs cs
  rw [hs w] at h2
  simp only [Sem.run_bind, h1, Result.andThen_ok, h2], hk⟩
end
end Go.Sx
