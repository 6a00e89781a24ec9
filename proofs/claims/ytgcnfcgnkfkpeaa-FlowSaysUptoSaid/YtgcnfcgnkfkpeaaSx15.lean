/- More rules: the empty literal; a contract for the worlds in which the call is. -/
import Derived.Test.YtgcnfcgnkfkpeaaSx14
namespace Go.Sx
open Go Go.RowKit Go.Fw
section
variable {P : Program} {G : Ctx} {n : Nat} {ops : Array Oper} {Q : Post} {s : Fm} {H : List Ent} {o : Oper} {rest : List Oper}
theorem run_buildSlice0 (w : World) (t e sz : Nat) (hu : P.underlying t = some (.slice e)) (hi : (P.info? e).map (·.size) = some sz) :
    (Instr.buildSlice t 0 #[]).run P w = .ok (.slice (some ⟨w.heap.size, 0, none⟩) 0 0) (w.alloc (.cells #[] e)) := by
  cases hq : P.info? e with
  | none => simp [hq] at hi
  | some ie =>
    have e0 : (Array.range 0).map (fun _ : Nat => (default : Value)) = #[] := by
      apply Array.eq_empty_of_size_eq_zero
      simp
    simp [Instr.buildSlice, run_underlying hu, sizeOf, typeInfo, hq, Instr.fill, newRow, e0]
theorem c_bsl0 {t e sz bytes d : Nat} (hg : o.guard = none) (ho : o.op = .buildSlice t 0 #[]) [hT : SliceT P t e sz bytes] (h1d : o.dst = some d) (h2d : Nat.blt d n = true)
    (h : ∀ b, SL P G n ops Q rest ((d, .slice (some ⟨b, 0, none⟩) 0 0) :: s) (.own e sz (some ⟨b, 0, none⟩) 0 0 [] :: H)) : SL P G n ops Q (o :: rest) s H := by
  have hd := okd (n := n) h1d h2d
  simp only [← updd h1d] at h
  refine sl_op (.inl hg) fun a w ha hw K hK => ?_
  unfold Oper.wp execOp
  simp only [ho, Sem.run_bind, Array.map_empty, run_buildSlice0 w t e sz hT.here.1 hT.size, Result.andThen_ok]
  have hw2 := hw.alloc e []
  have hw3 : Holds G (.own e sz (some ⟨w.heap.size, 0, none⟩) 0 0 [] :: H) (w.alloc (.cells #[] e)) := by
    refine ⟨hw2.below, hw2.base, fun x hx => ?_, List.pairwise_cons.2 ⟨fun y hy k hk => (List.pairwise_cons.1 hw2.apart).1 y hy k hk, (List.pairwise_cons.1 hw2.apart).2⟩⟩
    rcases List.mem_cons.1 hx with rfl | hx
    · have := hw2.ok _ List.mem_cons_self
      exact ⟨by simp, .inr ⟨w.heap.size, 0, #[], rfl, this.1, this.2, Nat.le_refl _, by unfold maxLen; omega, by simp, by simp⟩⟩
    · exact hw2.ok x (List.mem_cons_of_mem _ hx)
  exact hK _ _ (h _ _ _ (ha.put _ _ hd) hw3)
theorem g_atso {Hs : List Ent} {fuel : Nat} {done : List Nat} (h : AtQ (soQ P G n ops Q Hs fuel done) .normal s H) : AtQ (soQ P G n ops Q Hs fuel done) .normal s H := h
theorem sc_here {f : FuncId} {args : List Value} {R : Value → List Ent → Prop} (hc : Callee P f) (h : ∀ w, Holds G H w → SC P G f args H R) : SC P G f args H R := ⟨hc, fun w hw => (h w hw).2 w hw⟩
theorem sv_here {f : FuncId} {args : List Value} {v : Value} (hc : Callee P f) (h : ∀ w, Holds G H w → SV P G f args H v) : SV P G f args H v := sc_here hc h
theorem e_scc {R : Value → List Ent → Prop} {p b sz : Nat} {t t' : TypeId} {cs : List Value} {rs : List ResultVar} {vs : List Value} {e : Exit} (H' : List Ent) (he : e = .normal ∨ e = .ret) (hp : look s p = some (.pointer (some ⟨b, 0, none⟩))) [hm : HasBlk H b t' cs] [ha : Ag P t sz] (hl : cs.length = sz) (hr : res? s rs = some vs) (hH : ∀ w, Holds G H w → Holds G H' w) (h : R (resV (.agg cs.toArray :: vs)) H') : AtQ (fpost G P (.cell p t :: rs) R) e s H :=
  e_scr H' he (res_agg hp hl (res?_of hr)) hH h
theorem e_scc2 {R : Value → List Ent → Prop} {p b sz p2 b2 sz2 : Nat} {t t' t2 t2' : TypeId} {cs cs2 : List Value} {rs : List ResultVar} {vs : List Value} {e : Exit} (H' : List Ent) (he : e = .normal ∨ e = .ret) (hp : look s p = some (.pointer (some ⟨b, 0, none⟩))) [hm : HasBlk H b t' cs] [ha : Ag P t sz] (hl : cs.length = sz) (hp2 : look s p2 = some (.pointer (some ⟨b2, 0, none⟩))) [hm2 : HasBlk H b2 t2' cs2] [ha2 : Ag P t2 sz2] (hl2 : cs2.length = sz2) (hr : res? s rs = some vs) (hH : ∀ w, Holds G H w → Holds G H' w) (h : R (resV (.agg cs.toArray :: .agg cs2.toArray :: vs)) H') : AtQ (fpost G P (.cell p t :: .cell p2 t2 :: rs) R) e s H :=
  e_scr H' he (res_agg hp hl (res_agg hp2 hl2 (res?_of hr))) hH h
/-- There is room for what is there. -/
class CapC (G : Ctx) (H : List Ent) (a : Option Addr) (m c : Nat) : Prop where
  here : ∀ w, Holds G H w → m ≤ c
instance (priority := low) capTail {a : Option Addr} {m c : Nat} {x : Ent} [h : CapC G H a m c] : CapC G (x :: H) a m c := ⟨fun w hw => h.here w hw.drop⟩
instance capOwn {e sz m c : Nat} {a : Option Addr} {xs : List Value} : CapC G (.own e sz a m c xs :: H) a m c := ⟨fun w hw => by
  have ho : w.ownsRow G.B e sz (.slice a m c) m xs := hw.ok _ List.mem_cons_self
  rcases ho.2 with ⟨hv, h0⟩ | ⟨g, cap, cur, hv, -, -, hn, -⟩
  · omega
  · have : c = cap := by injection hv
    omega⟩
theorem At.none_nil {w : World} {xs : List Value} (h : At w none xs) : xs = [] := by
  rcases h with h | ⟨b, o, e, -⟩
  · exact h
  · cases e
end
end Go.Sx
