/- More rules: the empty literal, slices against nil, results that lie in blocks, arrays by an index. -/
import Derived.Test.YtgcnfcgnkfkpeaaSx13
import Derived.Lib.SliceRun
namespace Go.Sx
open Go Go.RowKit Go.Fw
section
variable {P : Program} {G : Ctx} {n : Nat} {ops : Array Oper} {Q : Post} {s : Fm} {H : List Ent} {o : Oper} {rest : List Oper}
theorem c_bs0 {t e sz bytes d : Nat} (hg : o.guard = none) (ho : o.op = .buildSlice t 0 #[]) [hT : SliceT P t e sz bytes] (hb : builtSlice P e 0 [] = some #[]) (h1d : o.dst = some d) (h2d : Nat.blt d n = true)
    (h : ∀ b, SL P G n ops Q rest ((d, .slice (some ⟨b, 0, none⟩) 0 0) :: s) (.own e sz (some ⟨b, 0, none⟩) 0 0 [] :: H)) : SL P G n ops Q (o :: rest) s H :=
  sl_buildSlice (vs := []) (cs := []) hg ho .nil hT.here.1 hT.size hb (by simp) (Nat.zero_le _) h1d h2d h
variable {K : Value → Prop} {x y : Operand} {t : TypeId}
theorem bb_enil {e sz bytes : Nat} [hT : SliceT P t e sz bytes] {a : Option Addr} {m c m' c' : Nat} (hk : K (.bool a.isNone)) : BB P .eql t x y (.slice a m c) (.slice none m' c') K := ⟨_, fun w => by
  have := Lib.run_eql_slice_nil (P := P) w t e a m c m' c' hT.here.1
  simpa [eqGuard] using this, hk⟩
/-- A result that lies in a block. -/
theorem res_agg {p b sz : Nat} {t t' : TypeId} {cs : List Value} {l : List ResultVar} {vs : List Value} (h : look s p = some (.pointer (some ⟨b, 0, none⟩))) [hm : HasBlk H b t' cs] [ha : Ag P t sz] (hl : cs.length = sz) (hr : Res s H P l vs) : Res s H P (.cell p t :: l) (.agg cs.toArray :: vs) := by
  obtain ⟨d, h1, h2, h3⟩ := ha.here
  exact .agg h hm.here h1 h2 (by rw [h3, hl]) hr
theorem e_scr {R : Value → List Ent → Prop} {rs : List ResultVar} {vs : List Value} {e : Exit} (H' : List Ent) (he : e = .normal ∨ e = .ret) (hr : Res s H P rs vs) (hH : ∀ w, Holds G H w → Holds G H' w) (h : R (resV vs) H') : AtQ (fpost G P rs R) e s H := at_fpost e he hr hH h
theorem e_svr {H0 : List Ent} {rs : List ResultVar} {vs : List Value} {v : Value} {e : Exit} (he : e = .normal ∨ e = .ret) (hr : Res s H P rs vs) (hH : ∀ w, Holds G H w → Holds G H0 w) (h : resV vs = v) : AtQ (fpost G P rs fun u H' => u = v ∧ H' = H0) e s H := at_fpost e he hr hH ⟨h, rfl⟩
/-- The place of an element of an array that lies in a block. -/
theorem c_indexP {t len e sz : Nat} {x y : Operand} {b off : Nat} {k : IntKind} {i : Int} (ho : o.op = .indexAddr t x y) [h : ArrT P t len e sz] (hx : ev s x = some (.pointer (some ⟨b, off, none⟩))) (hy : ev s y = some (.int k i)) (h0 : 0 ≤ i) (h1 : i < (len : Int)) : Yields P G n s H o (.pointer (some ⟨b, off + i.toNat * sz, none⟩)) := fun a w ha _ => by
  obtain ⟨hu, hi⟩ := h.here
  unfold execOp; rw [ho]; simp only [ha.ev hx, ha.ev hy]
  refine run_value ?_
  cases hq : P.info? e with
  | none => simp [hq] at hi
  | some inf =>
    have hs : inf.size = sz := by simpa [hq] using hi
    simp only [Instr.indexAt, Instr.sureAddr, asIntOf, Sem.run_bind, Sem.run_pure, Result.andThen_ok, run_underlying hu]
    rw [if_pos ⟨h0, h1⟩]
    simp only [sizeOf, typeInfo, Sem.run_bind, Sem.run_pure, Result.andThen_ok]
    simp [hq, hs, program, Sem.run, Addr.add_mid]
end
end Go.Sx
