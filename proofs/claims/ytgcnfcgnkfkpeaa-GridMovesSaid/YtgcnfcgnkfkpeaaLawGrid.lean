/- A grid that came in. -/
import Derived.Test.YtgcnfcgnkfkpeaaLawAgg
import Derived.Test.YtgcnfcgnkfkpeaaLawBase
import Derived.Test.YtgcnfcgnkfkpeaaGridB
namespace Go.Proofs.Ytgcnfcgnkfkpeaa
open Go Go.RowKit Go.Fw Go.Sx Go.ChangeShapes Go.WideShapes Go.ChangeAt
set_option maxRecDepth 100000
theorem trod_pen {H : Type} {enc : TypeId × Value → H} {W : World} {base : Nat} {sp : Nat → Bool} {hd : Bool} {fuel : Nat} {cs : List Value} {x : DataW H × List MemPlace} (h : DataW.trod enc Try.prog W base sp hd fuel 37 cs = some x) : ∃ a b c : Int, cs = [.int .i64 a, .int .i64 b, .int .i64 c] := by
  obtain ⟨xs, m, -, -, hl, hxs, hel⟩ := DataW.trod_struct Try.underlying37 h
  have hct : Try.prog.cellsOf 37 = 3 := by kernel_rfl
  have hci : Try.prog.cellsOf 3 = 1 := by kernel_rfl
  rw [hct] at hl
  match cs, hl, xs, hxs with
  | [c0, c1, c2], _, [x0, x1, x2], _ =>
    have g0 := hel 0 _ rfl
    have g1 := hel 1 _ rfl
    have g2 := hel 2 _ rfl
    rw [show ([x0, x1, x2][0]? : Option _) = some x0 from rfl] at g0
    rw [show ([x0, x1, x2][1]? : Option _) = some x1 from rfl] at g1
    rw [show ([x0, x1, x2][2]? : Option _) = some x2 from rfl] at g2
    obtain ⟨z0, e0, -, -⟩ := DataW.trod_int Try.underlying3 g0
    obtain ⟨z1, e1, -, -⟩ := DataW.trod_int Try.underlying3 g1
    obtain ⟨z2, e2, -, -⟩ := DataW.trod_int Try.underlying3 g2
    have f0 : ([c0, c1, c2].drop 0).take (Try.prog.cellsOf 3) = [.int .i64 z0] := e0
    have f1 : ([c0, c1, c2].drop 1).take (Try.prog.cellsOf 3) = [.int .i64 z1] := e1
    have f2 : ([c0, c1, c2].drop 2).take (Try.prog.cellsOf 3) = [.int .i64 z2] := e2
    rw [hci] at f0 f1 f2
    simp at f0 f1 f2
    exact ⟨z0, z1, z2, by rw [f0, f1, f2]⟩
theorem trod_cell {H : Type} {enc : TypeId × Value → H} {W : World} {base : Nat} {sp : Nat → Bool} {hd : Bool} {fuel : Nat} {cs : List Value} {x : DataW H × List MemPlace} (h : DataW.trod enc Try.prog W base sp hd fuel 104 cs = some x) : ∃ q : Qd, cs = qd q := by
  obtain ⟨xs, m, -, -, hl, hxs, hel⟩ := DataW.trod_struct Try.underlying104 h
  have hct : Try.prog.cellsOf 104 = 4 := by kernel_rfl
  have hcp : Try.prog.cellsOf 37 = 3 := by kernel_rfl
  have hci : Try.prog.cellsOf 3 = 1 := by kernel_rfl
  rw [hct] at hl
  match cs, hl, xs, hxs with
  | [c0, c1, c2, c3], _, [x0, x1], _ =>
    have g0 := hel 0 _ rfl
    have g1 := hel 1 _ rfl
    rw [show ([x0, x1][0]? : Option _) = some x0 from rfl] at g0
    rw [show ([x0, x1][1]? : Option _) = some x1 from rfl] at g1
    obtain ⟨z0, e0, -, -⟩ := DataW.trod_int Try.underlying3 g0
    obtain ⟨a, b, c, e1⟩ := trod_pen g1
    have f0 : ([c0, c1, c2, c3].drop 0).take (Try.prog.cellsOf 3) = [.int .i64 z0] := e0
    have f1 : ([c0, c1, c2, c3].drop 1).take (Try.prog.cellsOf 37) = [.int .i64 a, .int .i64 b, .int .i64 c] := e1
    rw [hci] at f0
    rw [hcp] at f1
    simp at f0 f1
    refine ⟨(z0, a, b, c), ?_⟩
    rw [f0, f1.1, f1.2.1, f1.2.2]
    rfl
/-- A slice of cells that came in. -/
theorem trod_cells {H : Type} {enc : TypeId × Value → H} {W : World} {fuel : Nat} {cs : List Value} {x : DataW H × List MemPlace} (h : DataW.trod enc Try.prog W 0 (fun _ => true) true fuel 33 cs = some x) : ∃ (a : Option Addr) (C : List Qd) (c : Nat), cs = [.slice a C.length c] ∧ At W a (qds C) ∧ C.length ≤ maxLen ∧ C.length ≤ c := by
  rcases DataW.trod_slice Try.underlying33 h with ⟨hcs, -⟩ | ⟨a, len, cap, elems, rest, n, -, hcs, -, -, hl, hm, hlen, hel, -, -⟩
  · exact ⟨none, [], 0, hcs, .inl rfl, by simp [maxLen], Nat.le_refl _⟩
  · have hct : Try.prog.cellsOf 104 = 4 := by kernel_rfl
    rw [hct] at hel
    have each : ∀ i, i < len → ∃ q : Qd, ∀ j, j < 4 → W.cell? ((a.add (i * 4)).add j) = (qd q)[j]? := fun i hi => by
      have h1 := hel i hi
      rw [List.getElem?_eq_getElem (by omega : i < elems.length), Option.bind_eq_some_iff] at h1
      obtain ⟨cs', hc, ht⟩ := h1
      obtain ⟨q, rfl⟩ := trod_cell ht
      obtain ⟨_, hlen', hcell⟩ := World.cells?_some hc
      exact ⟨q, fun j hj => hcell j hj⟩
    let f : Nat → Qd := fun i => if hi : i < len then Classical.choose (each i hi) else qz
    have hf : ∀ i, i < len → ∀ j, j < 4 → W.cell? ((a.add (i * 4)).add j) = (qd (f i))[j]? := fun i hi j hj => by
      show _ = (qd (if hi : i < len then Classical.choose (each i hi) else qz))[j]?
      rw [dif_pos hi]
      exact Classical.choose_spec (each i hi) j hj
    refine ⟨some a, (List.range len).map f, cap, by rw [hcs, List.length_map, List.length_range], ?_, by rw [List.length_map, List.length_range]; omega, by rw [List.length_map, List.length_range]; exact hl⟩
    by_cases h0 : len = 0
    · left; subst h0; rfl
    · right
      have hc0 := hf 0 (by omega) 0 (by omega)
      obtain ⟨b, o, sp⟩ := a
      have hsp : sp = none := by
        cases sp with
        | none => rfl
        | some x =>
          exfalso
          have : W.cell? ((Addr.add ⟨b, o, some x⟩ (0 * 4)).add 0) = some (.int .i64 (f 0).1) := hc0
          simp only [World.cell?, Addr.add] at this
          split at this <;> simp_all
      subst hsp
      refine ⟨b, o, rfl, World.block_lt_of_cell? W _ (u := .int .i64 (f 0).1) (by have := hc0; simpa [Addr.add, qd] using this), fun i hi => ?_⟩
      rw [qds_len, List.length_map, List.length_range] at hi
      have h3 := hf (i / 4) (by omega) (i % 4) (by omega)
      rw [Fw.add_plain, Fw.add_plain] at h3
      rw [show o + i = o + i / 4 * 4 + i % 4 from by omega, h3]
      have h4 := qds_cell (C := (List.range len).map f) (k := i / 4) (i % 4) (by rw [List.length_map, List.length_range]; omega) (by omega)
      rw [show i / 4 * 4 + i % 4 = i from by omega] at h4
      rw [h4, List.getD_eq_getElem?_getD, List.getElem?_map, List.getElem?_range (by omega)]
      rfl
theorem open_grid {H : Type} {enc : TypeId × Value → H} {W : World} {base : Nat} {v : Value} {d : DataW H} {ps : List MemPlace} (k : Value.okWide Try.prog W .any base 35 v) (h : DataW.Trod enc Try.prog W 0 (fun _ => true) true 35 v d ps) : ∃ (w hh : Int) (a : Option Addr) (C : List Qd) (c : Nat), v = gridV w hh a C.length c ∧ At W a (qds C) ∧ C.length ≤ maxLen ∧ C.length ≤ c := by
  obtain ⟨cs, rfl, hsz⟩ := okWide_struct Try.underlying35 k
  obtain ⟨fuel, hf⟩ := h
  rw [show (Value.agg cs).cells.toList = cs.toList from rfl] at hf
  obtain ⟨xs, m, -, hd, hl, hxs, hel⟩ := DataW.trod_struct Try.underlying35 hf
  have hct : Try.prog.cellsOf 35 = 3 := by kernel_rfl
  have hci : Try.prog.cellsOf 3 = 1 := by kernel_rfl
  have hcs : Try.prog.cellsOf 33 = 1 := by kernel_rfl
  rw [hct] at hl
  match xs, hxs with
  | [x0, x1, x2], _ =>
    have g0 := hel 0 _ rfl
    have g1 := hel 1 _ rfl
    have g2 := hel 2 _ rfl
    rw [show ([x0, x1, x2][0]? : Option _) = some x0 from rfl] at g0
    rw [show ([x0, x1, x2][1]? : Option _) = some x1 from rfl] at g1
    rw [show ([x0, x1, x2][2]? : Option _) = some x2 from rfl] at g2
    obtain ⟨z0, e0, -, -⟩ := DataW.trod_int Try.underlying3 g0
    obtain ⟨z1, e1, -, -⟩ := DataW.trod_int Try.underlying3 g1
    obtain ⟨a, C, c, e2, hA, hm, hc⟩ := trod_cells g2
    refine ⟨z0, z1, a, C, c, ?_, hA, hm, hc⟩
    congr 1
    apply Array.toList_inj.1
    have f0 : (cs.toList.drop 0).take (Try.prog.cellsOf 3) = [.int .i64 z0] := e0
    have f1 : (cs.toList.drop 1).take (Try.prog.cellsOf 3) = [.int .i64 z1] := e1
    have f2 : (cs.toList.drop 2).take (Try.prog.cellsOf 33) = [.slice a C.length c] := e2
    rw [hci] at f0 f1
    rw [hcs] at f2
    match hcl : cs.toList, hl with
    | [c0, c1, c2], _ =>
      rw [hcl] at f0 f1 f2
      simp at f0 f1 f2
      rw [f0, f1, f2]
end Go.Proofs.Ytgcnfcgnkfkpeaa
