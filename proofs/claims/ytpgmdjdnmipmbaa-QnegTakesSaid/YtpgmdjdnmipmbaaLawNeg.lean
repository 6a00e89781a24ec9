/- A negotiation that came in; it is equal to itself. -/
import Derived.Test.YtpgmdjdnmipmbaaLawKeys
import Derived.Test.YtpgmdjdnmipmbaaNeg2
namespace Go.Proofs.Ytpgmdjdnmipmbaa
open Go Go.RowKit Go.Fw Go.Sx Go.ChangeShapes Go.WideShapes Go.ChangeAt
set_option maxRecDepth 100000
theorem neg_q {W X : List Int} (hW : W.length = 512) (a b : Nat) (h : a + b ≤ 512) : ((negC W X).drop a).take b = octs ((W.drop a).take b) := by
  unfold negC octs
  rw [List.drop_append_of_le_length (by simp [hW]; omega), List.take_append_of_le_length (by simp [hW]; omega)]
  simp [List.map_take, List.map_drop]
theorem neg_r {W X : List Int} (hW : W.length = 512) (a b : Nat) : ((negC W X).drop (512 + a)).take b = wds ((X.drop a).take b) := by
  unfold negC octs wds
  rw [List.drop_append, List.drop_eq_nil_of_le (by simp [hW]), List.nil_append]
  simp [hW, List.map_take, List.map_drop]
theorem wds_at (X : List Int) (k : Nat) (h : k < X.length) : (wds X)[k]? = some (.int .u64 (X.getD k 0)) := by
  unfold wds
  rw [List.getElem?_map, List.getElem?_eq_getElem h, List.getD_eq_getElem?_getD, List.getElem?_eq_getElem h]
  rfl
theorem negSelf (W X : List Int) (hW : W.length = 512) (hX : X.length = 8) : EqSelf Try.prog 10000 52 (negV W X) := by
  have hfs : Try.prog.fieldsOf 52 = (match Try.prog.underlying 52 with | some (.struct fs) => fs | _ => #[]) := rfl
  have harr : ∀ l : List Int, l.length = 256 → EqSelf Try.prog 9999 48 (.agg (octs l).toArray) := fun l hl =>
    eqself_arr (n := 256) (e := 5) (by kernel_rfl) fun j hj => ⟨_, octs_at l j (by omega), eqself_int _⟩
  have harw : ∀ l : List Int, l.length = 4 → EqSelf Try.prog 9999 50 (.agg (wds l).toArray) := fun l hl =>
    eqself_arr (n := 4) (e := 49) (by kernel_rfl) fun j hj => ⟨_, wds_at l j (by omega), eqself_int _⟩
  refine eqself_struct (d := 9999) (by rw [hfs, Try.underlying52]) (by kernel_rfl) ?_
  rw [hfs, Try.underlying52]
  refine List.forall_mem_cons.2 ⟨⟨by decide, .agg (octs ((W.drop 0).take 256)).toArray, part_agg (sz := 256) (neg_q hW 0 256 (by omega)), harr _ (by simp [hW])⟩, List.forall_mem_cons.2 ⟨⟨by decide, .agg (octs ((W.drop 256).take 256)).toArray, part_agg (sz := 256) (neg_q hW 256 256 (by omega)), harr _ (by simp [hW])⟩,
    List.forall_mem_cons.2 ⟨⟨by decide, .agg (wds ((X.drop 0).take 4)).toArray, part_agg (sz := 4) (neg_r hW 0 4), harw _ (by simp [hX])⟩, List.forall_mem_cons.2 ⟨⟨by decide, .agg (wds ((X.drop 4).take 4)).toArray, part_agg (sz := 4) (neg_r hW 4 4), harw _ (by simp [hX])⟩, fun f hf => by cases hf⟩⟩⟩⟩
theorem open_neg {H : Type} {enc : TypeId × Value → H} {W : World} {base : Nat} {v : Value} {d : DataW H} {ps : List MemPlace} (k : Value.okWide Try.prog W .any base 52 v) (h : DataW.Trod enc Try.prog W 0 (fun _ => true) true 52 v d ps) : ∃ L X : List Int, v = negV L X ∧ L.length = 512 ∧ X.length = 8 ∧ (∀ x ∈ L, Oct x) ∧ ∀ x ∈ X, 0 ≤ x ∧ x ≤ 18446744073709551615 := by
  obtain ⟨cs, rfl, hsz⟩ := okWide_struct Try.underlying52 k
  obtain ⟨fuel, hf⟩ := h
  rw [show (Value.agg cs).cells.toList = cs.toList from rfl] at hf
  obtain ⟨xs, m, -, hd, hl, hxs, hel⟩ := DataW.trod_struct Try.underlying52 hf
  have hct : Try.prog.cellsOf 52 = 520 := by kernel_rfl
  have hca : Try.prog.cellsOf 48 = 256 := by kernel_rfl
  have hcw : Try.prog.cellsOf 50 = 4 := by kernel_rfl
  rw [hct] at hl
  match xs, hxs with
  | [x0, x1, x2, x3], _ =>
    have g0 := hel 0 _ rfl
    have g1 := hel 1 _ rfl
    have g2 := hel 2 _ rfl
    have g3 := hel 3 _ rfl
    rw [show ([x0, x1, x2, x3][0]? : Option _) = some x0 from rfl] at g0
    rw [show ([x0, x1, x2, x3][1]? : Option _) = some x1 from rfl] at g1
    rw [show ([x0, x1, x2, x3][2]? : Option _) = some x2 from rfl] at g2
    rw [show ([x0, x1, x2, x3][3]? : Option _) = some x3 from rfl] at g3
    obtain ⟨z0, l0, e0, w0⟩ := trod_ints (k := .u8) Try.underlying48 Try.underlying5 (by kernel_rfl) hca g0
    obtain ⟨z1, l1, e1, w1⟩ := trod_ints (k := .u8) Try.underlying48 Try.underlying5 (by kernel_rfl) hca g1
    obtain ⟨z2, l2, e2, w2⟩ := trod_ints (k := .u64) Try.underlying50 Try.underlying49 (by kernel_rfl) hcw g2
    obtain ⟨z3, l3, e3, w3⟩ := trod_ints (k := .u64) Try.underlying50 Try.underlying49 (by kernel_rfl) hcw g3
    refine ⟨z0 ++ z1, z2 ++ z3, ?_, by rw [List.length_append, l0, l1], by rw [List.length_append, l2, l3], fun x hx => ?_, fun x hx => ?_⟩
    · congr 1
      apply Array.toList_inj.1
      have f0 : (cs.toList.drop 0).take (Try.prog.cellsOf 48) = z0.map (Value.int .u8) := e0
      have f1 : (cs.toList.drop 256).take (Try.prog.cellsOf 48) = z1.map (Value.int .u8) := e1
      have f2 : (cs.toList.drop 512).take (Try.prog.cellsOf 50) = z2.map (Value.int .u64) := e2
      have f3 : (cs.toList.drop 516).take (Try.prog.cellsOf 50) = z3.map (Value.int .u64) := e3
      rw [hca] at f0 f1
      rw [hcw] at f2 f3
      have s0 : cs.toList = (cs.toList.drop 0).take 256 ++ ((cs.toList.drop 256).take 256 ++ ((cs.toList.drop 512).take 4 ++ (cs.toList.drop 516).take 4)) := by
        rw [show (cs.toList.drop 516).take 4 = cs.toList.drop 516 from List.take_of_length_le (by rw [List.length_drop, hl]; omega)]
        rw [show cs.toList.drop 516 = (cs.toList.drop 512).drop 4 from by rw [List.drop_drop], List.take_append_drop]
        rw [show cs.toList.drop 512 = (cs.toList.drop 256).drop 256 from by rw [List.drop_drop], List.take_append_drop]
        rw [List.drop_zero, List.take_append_drop]
      rw [s0, f0, f1, f2, f3]
      simp [negC, octs, wds]
    · rcases List.mem_append.1 hx with h1 | h1
      · exact u8_bounds (w0 x h1)
      · exact u8_bounds (w1 x h1)
    · rcases List.mem_append.1 hx with h1 | h1
      · exact u64_bounds (w2 x h1)
      · exact u64_bounds (w3 x h1)
end Go.Proofs.Ytpgmdjdnmipmbaa
