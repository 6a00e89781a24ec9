/- Sorts that came in: how they lie. -/
import Derived.Test.YtpgmdjdnmipmbaaLawAgg2
import Derived.Test.YtpgmdjdnmipmbaaLawBase2
namespace Go.Fw
open Go.RowKit Go.ChangeShapes Go.WideShapes Go.ChangeAt
theorem open_strs_cells {H : Type} {enc : TypeId × Value → H} {P : Program} {W : World} {t e : TypeId} {cs : List Value} {x : DataW H × List MemPlace} {fuel : Nat}
    (ht : P.underlying t = some (.slice e)) (he : P.underlying e = some .string) (hc : P.cellsOf e = 1)
    (hf : DataW.trod enc P W 0 (fun _ => true) true fuel t cs = some x) :
    ∃ (a : Option Addr) (xs ys : List ByteArray) (c : Nat), cs = [.slice a xs.length c] ∧ At W a (Fw.strs xs) ∧ (∀ x ∈ xs, x.size ≤ maxLen) ∧ xs.length ≤ maxLen ∧
      ((xs = [] ∧ x.1 = .nil) ∨ x.1 = .slice (Go.ChangeShapes.strs xs) (Go.ChangeShapes.strs ys)) ∧ xs.length ≤ c := by
  rcases open_strings ht he hc hf with ⟨hcs, hx⟩ | ⟨a, len, cap, zs, hcs, _, hl, hm, hz, hx, hcell, hwz⟩
  · exact ⟨none, [], [], 0, hcs, .inl rfl, by simp, by simp [maxLen], .inl ⟨rfl, by rw [hx]⟩, Nat.le_refl _⟩
  · simp only [if_true] at hz
    have hlen : (zs.take len).length = len := by simp; omega
    refine ⟨some a, zs.take len, zs.drop len, cap, by rw [hlen, hcs], ?_, fun x hx => hwz x (List.mem_of_mem_take hx), by rw [hlen]; omega, .inr (by rw [hx]), by rw [hlen]; exact hl⟩
    by_cases h0 : len = 0
    · left; subst h0; simp
    · right
      have hc0 : W.cell? a = some (.string (zs.getD 0 ByteArray.empty)) := by have := hcell 0 (by omega); simpa [Addr.add] using this
      obtain ⟨b, o, sp⟩ := a
      have hsp : sp = none := by
        cases sp with
        | none => rfl
        | some x =>
          simp only [World.cell?] at hc0
          split at hc0 <;> cases hc0
      subst hsp
      refine ⟨b, o, rfl, World.block_lt_of_cell? W _ hc0, fun i hi => ?_⟩
      rw [List.length_map, hlen] at hi
      have := hcell i (by omega)
      rw [add_plain] at this
      rw [this]
      simp [hi, List.getD, List.getElem?_eq_getElem (show i < zs.length by omega)]
theorem open_sorts {H : Type} {enc : TypeId × Value → H} {P : Program} {W : World} {base : Nat} {t ts e ti : TypeId} {v : Value} {d : DataW H} {ps : List MemPlace} {f0 f1 : Field}
    (ht : P.underlying t = some (.struct #[f0, f1])) (hct : P.cellsOf t = 2) (h0 : f0.offset = 0 ∧ f0.type = ts) (h1 : f1.offset = 1 ∧ f1.type = ti) (hts : P.underlying ts = some (.slice e)) (he : P.underlying e = some .string) (hce : P.cellsOf e = 1) (hcs : P.cellsOf ts = 1)
    (hti : P.underlying ti = some (.int .i64)) (hci : P.cellsOf ti = 1)
    (hval : Value.okWide P W .any base t v) (h : DataW.Trod enc P W 0 (fun _ => true) true t v d ps) :
    ∃ (a : Option Addr) (xs ys : List ByteArray) (c : Nat) (k : Int) (ds : DataW H), v = .agg #[.slice a xs.length c, .int .i64 k] ∧ At W a (Fw.strs xs) ∧ (∀ x ∈ xs, x.size ≤ maxLen) ∧ xs.length ≤ maxLen ∧
      ((xs = [] ∧ ds = .nil) ∨ ds = .slice (Go.ChangeShapes.strs xs) (Go.ChangeShapes.strs ys)) ∧ xs.length ≤ c ∧ (Lit.int .i64 k).wf = true ∧ (∃ d1, d = .agg [ds, d1]) := by
  obtain ⟨cs, rfl, hsz⟩ := okWide_struct ht hval
  obtain ⟨fuel, hf⟩ := h
  rw [show (Value.agg cs).cells.toList = cs.toList from rfl] at hf
  obtain ⟨xs, m, -, hd, hl, hxs, hel⟩ := DataW.trod_struct ht hf
  rw [hct] at hl
  match xs, hxs with
  | [x0, x1], _ =>
    have g0 := hel 0 f0 rfl
    have g1 := hel 1 f1 rfl
    rw [h0.1, h0.2, hcs] at g0
    rw [h1.1, h1.2, hci] at g1
    obtain ⟨a, zs, ys, c, e0, h2, h3, h4, h5, h6⟩ := open_strs_cells hts he hce g0
    obtain ⟨z, e1, -, hw⟩ := DataW.trod_int hti g1
    refine ⟨a, zs, ys, c, z, x0.1, ?_, h2, h3, h4, h5, h6, hw, x1.1, ?_⟩
    · congr 1
      apply Array.toList_inj.1
      have hcl : ∃ u v, cs.toList = [u, v] := by
        match hq : cs.toList, hl with
        | [u, v], _ => exact ⟨u, v, rfl⟩
      obtain ⟨u, v, hq⟩ := hcl
      rw [hq] at e0 e1
      simp at e0 e1
      rw [hq, e0, e1]
    · have := congrArg Prod.fst hd
      simpa using this
end Go.Fw
