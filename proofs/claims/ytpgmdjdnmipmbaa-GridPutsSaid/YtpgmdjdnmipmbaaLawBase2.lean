/- A slice of integers that came in, with its capacity. -/
import Derived.Test.YtpgmdjdnmipmbaaLawBase
namespace Go.Fw
open Go.RowKit Go.ChangeShapes Go.WideShapes Go.ChangeAt
theorem open_ints_cap {H : Type} {enc : TypeId × Value → H} {P : Program} {W : World} {base : Nat} {t e : TypeId} {k : IntKind} {v : Value} {d : DataW H} {ps : List MemPlace}
    (ht : P.underlying t = some (.slice e)) (he : P.underlying e = some (.int k)) (hc : P.cellsOf e = 1) (hval : Value.okWide P W .any base t v)
    (h : DataW.Trod enc P W 0 (fun _ => true) true t v d ps) :
    ∃ (a : Option Addr) (xs ys : List Int) (c : Nat), v = .slice a xs.length c ∧ At W a (xs.map (Value.int k)) ∧ (∀ x ∈ xs, (Lit.int k x).wf = true) ∧ xs.length ≤ maxLen ∧
      ((xs = [] ∧ d = .nil) ∨ d = .slice (lits k xs) (lits k ys)) ∧ xs.length ≤ c := by
  obtain ⟨a, xs, ys, c, rfl, h1, h2, h3, h4⟩ := open_ints_at ht he hc hval h
  refine ⟨a, xs, ys, c, rfl, h1, h2, h3, h4, ?_⟩
  obtain ⟨fuel, hf⟩ := h
  rcases open_ints ht he hc hf with ⟨hcs, hx⟩ | ⟨a', len', cap', zs, hcs, _, hl, hm, hz, hx, hcell, hwz⟩
  · simp [Value.cells] at hcs
    simp [hcs]
  · simp [Value.cells] at hcs
    omega
theorem open_strs_cap {H : Type} {enc : TypeId × Value → H} {P : Program} {W : World} {base : Nat} {t e : TypeId} {v : Value} {d : DataW H} {ps : List MemPlace}
    (ht : P.underlying t = some (.slice e)) (he : P.underlying e = some .string) (hc : P.cellsOf e = 1) (hval : Value.okWide P W .any base t v)
    (h : DataW.Trod enc P W 0 (fun _ => true) true t v d ps) :
    ∃ (a : Option Addr) (xs ys : List ByteArray) (c : Nat), v = .slice a xs.length c ∧ At W a (Fw.strs xs) ∧ (∀ x ∈ xs, x.size ≤ maxLen) ∧ xs.length ≤ maxLen ∧
      ((xs = [] ∧ d = .nil) ∨ d = .slice (Go.ChangeShapes.strs xs) (Go.ChangeShapes.strs ys)) ∧ xs.length ≤ c := by
  obtain ⟨a, xs, ys, c, rfl, h1, h2, h3, h4⟩ := open_strs_at ht he hc hval h
  refine ⟨a, xs, ys, c, rfl, h1, h2, h3, h4, ?_⟩
  obtain ⟨fuel, hf⟩ := h
  rcases open_strings ht he hc hf with ⟨hcs, hx⟩ | ⟨a', len', cap', zs, hcs, _, hl, hm, hz, hx, hcell, hwz⟩
  · simp [Value.cells] at hcs
    simp [hcs]
  · simp [Value.cells] at hcs
    omega
end Go.Fw
