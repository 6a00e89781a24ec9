/- Arguments that are structs of integers, by value. -/
import Derived.Test.YtpgmdjdnmipmbaaLawAgg
namespace Go.Fw
open Go Go.RowKit Go.ChangeShapes Go.WideShapes Go.ChangeAt
theorem open_struct_flat {H : Type} {enc : TypeId × Value → H} {P : Program} {W : World} {base : Nat} {t : TypeId} {k : IntKind} {v : Value} {d : DataW H} {ps : List MemPlace} {fs : Array Field}
    (ht : P.underlying t = some (.struct fs)) (hct : P.cellsOf t = fs.size) (hfs : ∀ (i : Nat) f, fs[i]? = some f → f.offset = i ∧ P.underlying f.type = some (.int k) ∧ P.cellsOf f.type = 1)
    (hval : Value.okWide P W .any base t v) (h : DataW.Trod enc P W 0 (fun _ => true) true t v d ps) :
    ∃ zs : List Int, zs.length = fs.size ∧ v = .agg (zs.map (Value.int k)).toArray ∧ ∀ z ∈ zs, (Lit.int k z).wf = true := by
  obtain ⟨cs, rfl, hsz⟩ := okWide_struct ht hval
  obtain ⟨fuel, hf'⟩ := h
  rw [show (Value.agg cs).cells.toList = cs.toList from rfl] at hf'
  obtain ⟨xs, m, -, -, hl, hxs, hel⟩ := DataW.trod_struct ht hf'
  rw [hct] at hl
  have key : ∀ i, i < fs.size → ∃ z, cs.toList[i]? = some (.int k z) ∧ (Lit.int k z).wf = true := by
    intro i hi
    obtain ⟨h0, h1, h2⟩ := hfs i fs[i] (Array.getElem?_eq_getElem hi)
    have h3 := hel i fs[i] (Array.getElem?_eq_getElem hi)
    rw [List.getElem?_eq_getElem (show i < xs.length by rw [hxs]; exact hi), h0, h2] at h3
    obtain ⟨z, e1, -, hw⟩ := DataW.trod_int h1 h3
    refine ⟨z, ?_, hw⟩
    have := congrArg (·[0]?) e1
    simpa [List.getElem?_take, List.getElem?_drop] using this
  refine ⟨cs.toList.map fun v => match v with | .int _ z => z | _ => 0, by rw [List.length_map]; exact hl, ?_, ?_⟩
  · congr 1
    rw [List.map_map]
    apply Array.ext'
    apply List.ext_getElem?
    intro i
    simp only [List.getElem?_map]
    rcases Nat.lt_or_ge i fs.size with hi | hi
    · obtain ⟨z, hz, _⟩ := key i hi
      rw [hz]; rfl
    · rw [List.getElem?_eq_none (by omega)]; rfl
  · intro z hz
    obtain ⟨v, hv, rfl⟩ := List.mem_map.1 hz
    obtain ⟨i, hi, rfl⟩ := List.getElem_of_mem hv
    obtain ⟨z, hz', hw⟩ := key i (by omega)
    rw [List.getElem?_eq_getElem hi] at hz'
    have := Option.some.inj hz'
    rw [this]
    exact hw
end Go.Fw
