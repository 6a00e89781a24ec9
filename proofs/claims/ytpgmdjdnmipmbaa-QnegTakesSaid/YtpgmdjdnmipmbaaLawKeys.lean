/- Keys that came in; keys are equal to themselves. -/
import Derived.Test.YtpgmdjdnmipmbaaLawAgg2
import Derived.Test.YtpgmdjdnmipmbaaLawBase2
import Derived.Test.YtpgmdjdnmipmbaaSlc6
import Derived.Test.YtpgmdjdnmipmbaaSx16
namespace Go.Proofs.Ytpgmdjdnmipmbaa
open Go Go.RowKit Go.Fw Go.Sx Go.ChangeShapes Go.WideShapes Go.ChangeAt
set_option maxRecDepth 100000
theorem keysSelf (M : List Int) (h : M.length = 38) : EqSelf Try.prog 10000 38 (keysV M) := by
  have hfs : Try.prog.fieldsOf 38 = (match Try.prog.underlying 38 with | some (.struct fs) => fs | _ => #[]) := rfl
  have harr : ∀ l : List Int, l.length = 19 → EqSelf Try.prog 9999 36 (.agg (octs l).toArray) := fun l hl =>
    eqself_arr (n := 19) (e := 5) (by kernel_rfl) fun j hj => ⟨_, octs_at l j (by omega), eqself_int _⟩
  refine eqself_struct (d := 9999) (by rw [hfs, Try.underlying38]) (by kernel_rfl) ?_
  rw [hfs, Try.underlying38]
  refine List.forall_mem_cons.2 ⟨⟨by decide, .agg (octs (M.take 19)).toArray, part_agg (sz := 19) ?_, harr _ (by rw [List.length_take]; omega)⟩, List.forall_mem_cons.2 ⟨⟨by decide, .agg (octs (M.drop 19)).toArray, part_agg (sz := 19) ?_, harr _ (by rw [List.length_drop]; omega)⟩, fun f hf => by cases hf⟩⟩
  · simp [octs, List.map_take]
  · have : (octs M).drop 19 = octs (M.drop 19) := by simp [octs, List.map_drop]
    show ((octs M).drop 19).take 19 = _
    rw [this, List.take_of_length_le (by rw [octs_len, List.length_drop]; omega)]
theorem open_keys {H : Type} {enc : TypeId × Value → H} {W : World} {base : Nat} {v : Value} {d : DataW H} {ps : List MemPlace} (k : Value.okWide Try.prog W .any base 38 v) (h : DataW.Trod enc Try.prog W 0 (fun _ => true) true 38 v d ps) : ∃ L : List Int, v = keysV L ∧ L.length = 38 ∧ ∀ x ∈ L, Oct x := by
  obtain ⟨cs, rfl, hsz⟩ := okWide_struct Try.underlying38 k
  obtain ⟨fuel, hf⟩ := h
  rw [show (Value.agg cs).cells.toList = cs.toList from rfl] at hf
  obtain ⟨xs, m, -, hd, hl, hxs, hel⟩ := DataW.trod_struct Try.underlying38 hf
  have hct : Try.prog.cellsOf 38 = 38 := by kernel_rfl
  have hca : Try.prog.cellsOf 36 = 19 := by kernel_rfl
  rw [hct] at hl
  match xs, hxs with
  | [x0, x1], _ =>
    have g0 := hel 0 _ rfl
    have g1 := hel 1 _ rfl
    rw [show ([x0, x1][0]? : Option _) = some x0 from rfl] at g0
    rw [show ([x0, x1][1]? : Option _) = some x1 from rfl] at g1
    obtain ⟨z0, l0, e0, w0⟩ := trod_ints (k := .u8) Try.underlying36 Try.underlying5 (by kernel_rfl) hca g0
    obtain ⟨z1, l1, e1, w1⟩ := trod_ints (k := .u8) Try.underlying36 Try.underlying5 (by kernel_rfl) hca g1
    refine ⟨z0 ++ z1, ?_, by rw [List.length_append, l0, l1], fun x hx => ?_⟩
    · congr 1
      apply Array.toList_inj.1
      have e2 : cs.toList = cs.toList.take 19 ++ cs.toList.drop 19 := (List.take_append_drop 19 _).symm
      have e3 : (cs.toList.drop 0).take (Try.prog.cellsOf 36) = z0.map (Value.int .u8) := e0
      have e4 : (cs.toList.drop 19).take (Try.prog.cellsOf 36) = z1.map (Value.int .u8) := e1
      rw [hca] at e3 e4
      rw [List.take_of_length_le (by rw [List.length_drop, hl]; omega)] at e4
      rw [List.drop_zero] at e3
      rw [e2, e3, e4]
      simp [octs]
    · rcases List.mem_append.1 hx with h1 | h1
      · exact u8_bounds (w0 x h1)
      · exact u8_bounds (w1 x h1)
end Go.Proofs.Ytpgmdjdnmipmbaa
