/- Arguments that are arrays of integers, or structs of one such array. -/
import Derived.Test.YtgcnfcgnkfkpeaaLawBase
namespace Go.Fw
open Go Go.RowKit Go.ChangeShapes Go.WideShapes Go.ChangeAt

/-- An array of integers, of whatever length, reads as a list of well formed numbers. -/
theorem trod_ints {H : Type} {enc : TypeId × Value → H} {P : Program} {W : World} {base : Nat} {sp : Nat → Bool} {hd : Bool} {fuel n : Nat} {t e : TypeId} {k : IntKind} {cs : List Value} {x : DataW H × List MemPlace}
    (ht : P.underlying t = some (.array n e)) (he : P.underlying e = some (.int k)) (hc : P.cellsOf e = 1) (hct : P.cellsOf t = n) (h : DataW.trod enc P W base sp hd fuel t cs = some x) :
    ∃ zs : List Int, zs.length = n ∧ cs = zs.map (Value.int k) ∧ ∀ z ∈ zs, (Lit.int k z).wf = true := by
  obtain ⟨xs, m, -, -, hl, hxs, hel⟩ := DataW.trod_array ht h
  rw [hct] at hl
  rw [hc] at hel
  have key : ∀ i, i < n → ∃ z, cs[i]? = some (.int k z) ∧ (Lit.int k z).wf = true := by
    intro i hi
    have h1 := hel i hi
    rw [List.getElem?_eq_getElem (show i < xs.length by omega)] at h1
    obtain ⟨z, e1, -, hw⟩ := DataW.trod_int he h1
    refine ⟨z, ?_, hw⟩
    have := congrArg (·[0]?) e1
    simpa [List.getElem?_take, List.getElem?_drop] using this
  refine ⟨cs.map fun v => match v with | .int _ z => z | _ => 0, by simp [hl], ?_, ?_⟩
  · rw [List.map_map]
    apply List.ext_getElem?
    intro i
    rw [List.getElem?_map]
    rcases Nat.lt_or_ge i n with hi | hi
    · obtain ⟨z, hz, _⟩ := key i hi
      rw [hz]; rfl
    · rw [List.getElem?_eq_none (by omega)]; rfl
  · intro z hz
    obtain ⟨v, hv, rfl⟩ := List.mem_map.1 hz
    obtain ⟨i, hi, rfl⟩ := List.getElem_of_mem hv
    obtain ⟨z, hz', hw⟩ := key i (by omega)
    rw [List.getElem?_eq_getElem hi] at hz'
    have := Option.some.inj hz'
    rw [this]
    exact hw

/-- A struct of one field that is an array of integers, by value. -/
theorem open_struct_ints {H : Type} {enc : TypeId × Value → H} {P : Program} {W : World} {base n : Nat} {t ta e : TypeId} {k : IntKind} {v : Value} {d : DataW H} {ps : List MemPlace} {f : Field}
    (ht : P.underlying t = some (.struct #[f])) (hf : f.type = ta) (hf0 : f.offset = 0) (hta : P.underlying ta = some (.array n e)) (he : P.underlying e = some (.int k)) (hc : P.cellsOf e = 1) (hca : P.cellsOf ta = n) (hct : P.cellsOf t = n)
    (hval : Value.okWide P W .any base t v) (h : DataW.Trod enc P W 0 (fun _ => true) true t v d ps) :
    ∃ zs : List Int, zs.length = n ∧ v = .agg (zs.map (Value.int k)).toArray ∧ ∀ z ∈ zs, (Lit.int k z).wf = true := by
  obtain ⟨cs, rfl, hsz⟩ := okWide_struct ht hval
  obtain ⟨fuel, hf'⟩ := h
  rw [show (Value.agg cs).cells.toList = cs.toList from rfl] at hf'
  obtain ⟨xs, m, -, -, hl, hxs, hel⟩ := DataW.trod_struct ht hf'
  have h1 := hel 0 f rfl
  rw [List.getElem?_eq_getElem (show 0 < xs.length by rw [hxs]; exact Nat.zero_lt_one), hf0, hf, hca, List.drop_zero, List.take_of_length_le (by rw [hl, hct]; exact Nat.le_refl _)] at h1
  obtain ⟨zs, hz, hcs, hw⟩ := trod_ints hta he hc hca h1
  refine ⟨zs, hz, ?_, hw⟩
  rw [← hcs]

end Go.Fw
/- Arguments that are structs of integers, by value. -/
namespace Go.Fw
open Go Go.RowKit Go.ChangeShapes Go.WideShapes Go.ChangeAt
theorem open_struct_flat {H : Type} {enc : TypeId × Value → H} {P : Program} {W : World} {base : Nat} {t : TypeId} {k : IntKind} {v : Value} {d : DataW H} {ps : List MemPlace} {fs : Array Field}
    (ht : P.underlying t = some (.struct fs)) (hct : P.cellsOf t = fs.size) (hfs : ∀ (i : Nat) f, fs[i]? = some f → f.offset = i ∧ P.underlying f.type = some (.int k) ∧ P.cellsOf f.type = 1)
    (hval : Value.okWide P W .any base t v) (h : DataW.Trod enc P W 0 (fun _ => true) true t v d ps) :
    ∃ zs : List Int, zs.length = fs.size ∧ v = .agg (zs.map (Value.int k)).toArray ∧ ∀ z ∈ zs, (Lit.int k z).wf = true := by
  obtain ⟨cs, rfl, hsz⟩ := okWide_struct ht hval
  obtain ⟨fuel, hf'⟩ := h
  rw [show (Value.agg cs).cells.toList = cs.toList from rfl] at hf'
  obtain ⟨xs, m, -, -, hl, hxs, hel⟩ := DataW.trod_struct ht hf'
  rw [hct] at hl
  have key : ∀ i, i < fs.size → ∃ z, cs.toList[i]? = some (.int k z) ∧ (Lit.int k z).wf = true := by
    intro i hi
    obtain ⟨h0, h1, h2⟩ := hfs i fs[i] (Array.getElem?_eq_getElem hi)
    have h3 := hel i fs[i] (Array.getElem?_eq_getElem hi)
    rw [List.getElem?_eq_getElem (show i < xs.length by rw [hxs]; exact hi), h0, h2] at h3
    obtain ⟨z, e1, -, hw⟩ := DataW.trod_int h1 h3
    refine ⟨z, ?_, hw⟩
    have := congrArg (·[0]?) e1
    simpa [List.getElem?_take, List.getElem?_drop] using this
  refine ⟨cs.toList.map fun v => match v with | .int _ z => z | _ => 0, by rw [List.length_map]; exact hl, ?_, ?_⟩
  · congr 1
    rw [List.map_map]
    apply Array.ext'
    apply List.ext_getElem?
    intro i
    simp only [List.getElem?_map]
    rcases Nat.lt_or_ge i fs.size with hi | hi
    · obtain ⟨z, hz, _⟩ := key i hi
      rw [hz]; rfl
    · rw [List.getElem?_eq_none (by omega)]; rfl
  · intro z hz
    obtain ⟨v, hv, rfl⟩ := List.mem_map.1 hz
    obtain ⟨i, hi, rfl⟩ := List.getElem_of_mem hv
    obtain ⟨z, hz', hw⟩ := key i (by omega)
    rw [List.getElem?_eq_getElem hi] at hz'
    have := Option.some.inj hz'
    rw [this]
    exact hw
end Go.Fw
