/- More rules: pieces of a piece of a row that is held, by their place. -/
import Derived.Test.YthllelffblpdkaaDoorSxB
namespace Go.Sx
open Go Go.RowKit Go.Fw
section
variable {P : Program} {G : Ctx} {n : Nat} {ops : Array Oper} {Q : Post} {s : Fm} {H : List Ent} {o : Oper} {rest : List Oper}
/-- Where a piece begins: a piece at the very end stays where the whole is. -/
def offO (off l c sz : Nat) : Nat := if c = l then off else off + l * sz
theorem y_sliceO {t e sz bytes : Nat} {x : Operand} {lo hi : Option Operand} {b off len c : Nat} {l h : Int} (ho : o.op = .slice t x lo hi none) [hT : SliceT P t e sz bytes] (hx : ev s x = some (.slice (some ⟨b, off, none⟩) len c)) (hl : bnd s 0 lo = some l) (hh : bnd s len hi = some h) (h0 : 0 ≤ l) (h1 : l ≤ h) (h2 : h ≤ c) : Yields P G n s H o (.slice (some ⟨b, offO off l.toNat c sz, none⟩) (h.toNat - l.toNat) (c - l.toNat)) := fun act w ha _ => by
  obtain ⟨hu, hsz, -, -⟩ := hT.here
  have hS := hT.size
  unfold execOp; rw [ho]; simp only [ha.ev hx]
  refine run_value ?_
  have hb := run_bounds (P := P) (isSl := true) (w := w) (cap := c) ha hl hh h0 h1 h2
  cases hq : P.info? e with
  | none => simp [hq] at hS
  | some inf =>
    have hs : inf.size = sz := by simpa [hq] using hS
    have hz : (sizeOf e).run P w = .ok sz w := by simp [sizeOf, typeInfo, program, Sem.run, hq, hs]
    simp only [Instr.sliceAt, Sem.run_bind, run_underlying hu, Result.andThen_ok, Instr.slice, Option.map_none]
    unfold offO
    by_cases hne : c = l.toNat
    · subst hne
      simp [hb, hz, Sem.run]
    · simp [hb, hz, Sem.run, hne, Addr.add_mid]
theorem y_sliceOv {t e sz bytes : Nat} {x : Operand} {lo hi : Option Operand} {b off len c O : Nat} {l h : Int} (hO : offO off l.toNat c sz = O) (ho : o.op = .slice t x lo hi none) [hT : SliceT P t e sz bytes] (hx : ev s x = some (.slice (some ⟨b, off, none⟩) len c)) (hl : bnd s 0 lo = some l) (hh : bnd s len hi = some h) (h0 : 0 ≤ l) (h1 : l ≤ h) (h2 : h ≤ c) : Yields P G n s H o (.slice (some ⟨b, O, none⟩) (h.toNat - l.toNat) (c - l.toNat)) := hO ▸ y_sliceO ho hx hl hh h0 h1 h2
end
theorem sot_callg {P : Program} {G : Ctx} {n : Nat} {ops : Array Oper} {Q : Post} {s : Fm} {H Hs : List Ent} {fuel : Nat} {done : List Nat} {k : Nat} {d : Option Nat} {c : Call} {ty : TypeId} {pos : String} {af : Array Edge} {g : Option (Nat × Bool)} (_ho : ops[k]? = some ⟨d, .call c, ty, pos, af, g⟩) (h : SOT P G n ops Q Hs fuel done s H k) : SOT P G n ops Q Hs fuel done s H k := h
theorem sot_loadg {P : Program} {G : Ctx} {n : Nat} {ops : Array Oper} {Q : Post} {s : Fm} {H Hs : List Ent} {fuel : Nat} {done : List Nat} {k : Nat} {d : Option Nat} {t : TypeId} {c : Operand} {ty : TypeId} {pos : String} {af : Array Edge} {g : Option (Nat × Bool)} (_ho : ops[k]? = some ⟨d, .load t c, ty, pos, af, g⟩) (h : SOT P G n ops Q Hs fuel done s H k) : SOT P G n ops Q Hs fuel done s H k := h
/-- What is made has a place, if it is not empty. -/
theorem sc_some {P : Program} {G : Ctx} {f : FuncId} {args : List Value} {H : List Ent} {e sz n : Nat} {xs : List Value} {F : Option Addr → Nat → Value} (h : SC P G f args H fun v H' => ∃ a' c', v = F a' c' ∧ H' = .own e sz a' n c' xs :: H) (hn : 0 < n) : SC P G f args H fun v H' => ∃ b c', n ≤ c' ∧ v = F (some ⟨b, 0, none⟩) c' ∧ H' = .own e sz (some ⟨b, 0, none⟩) n c' xs :: H := ⟨h.1, fun w hw => (h.2 w hw).mono fun r w' ⟨v, H', h1, h2, a', c', h3, h4⟩ => by
  subst h4
  obtain ⟨b, rfl, hc⟩ := own_some h2 List.mem_cons_self hn
  exact ⟨v, _, h1, h2, b, c', hc, h3, rfl⟩⟩
end Go.Sx
