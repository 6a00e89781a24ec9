/- strings.IndexByte: the model's own entry stands at the end of its calls. -/
import Derived.Test.YtflmckoolagikaaDoorAbout
import Derived.Lib.Bytealg
namespace Go.Proofs.YtflmckoolagikaaDoor
open Go.RowKit Go.Fw

theorem indexByte_mem1 (l : List UInt8) (c : UInt8) : decide (0 ≤ Lib.indexByte l c) = l.any (fun x => x == c) := by
  induction l with
  | nil => rfl
  | cons x l ih =>
    unfold Lib.indexByte
    by_cases h : x = c
    · simp [h]
    · have h' : (x == c) = false := by simpa using h
      rw [List.any_cons, h', Bool.false_or, ← ih]
      have := Lib.indexByte_ge l c
      rw [if_neg (by decide)]
      by_cases h1 : Lib.indexByte l c = -1
      · rw [h1]; rfl
      · rw [if_neg (by simpa using h1), decide_eq_decide]; omega

set_option maxHeartbeats 1000000 in
set_option maxRecDepth 100000 in
theorem liteIndexByte_any (s : ByteArray) (c : Int) (w : World) :
    Calls Tryd.prog 80 #[.string s, .int .u8 c] w fun e w' => e = .returned (.int .i64 (Lib.indexByte s.data.toList c.toNat.toUInt8)) ∧ w = w' := by
  go_enter Tryd.func80, Tryd.ntmps80
  go_wp2
  rw [run_callFunc_extern Tryd.func129 (by kernel_rfl) (by kernel_rfl) (by kernel_rfl) (e := Extern.BytealgIndexByte.indexByte) (by kernel_rfl), Lib.run_indexByteString]
  simp only [Result.andThen]
  rw [Oper.upon_value]
  go_wp2
  go_ret
  exact ⟨rfl, rfl⟩
set_option maxRecDepth 100000 in
theorem indexByte_any (s : ByteArray) (c : Int) (w : World) :
    Calls Tryd.prog 35 #[.string s, .int .u8 c] w fun e w' => e = .returned (.int .i64 (Lib.indexByte s.data.toList c.toNat.toUInt8)) ∧ w = w' := by
  go_enter Tryd.func35, Tryd.ntmps35
  go_wp2_with (go_at_call 80; refine (liteIndexByte_any _ _ _).mono ?_; rintro e w' ⟨rfl, rfl⟩)
  go_ret
  exact ⟨rfl, rfl⟩

end Go.Proofs.YtflmckoolagikaaDoor
