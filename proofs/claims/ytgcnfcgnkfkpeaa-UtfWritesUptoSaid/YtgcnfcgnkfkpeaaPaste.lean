/- Pasted text: what is kept of it, and press.Paste. -/
import Derived.Test.YtgcnfcgnkfkpeaaEncode
namespace Go.Proofs.Ytgcnfcgnkfkpeaa
open Go.RowKit Go.Fw

def validR (c : Int) : Prop := 0 ≤ c ∧ c ≤ 1114111 ∧ (c < 55296 ∨ 57343 < c)
instance (c : Int) : Decidable (validR c) := by unfold validR; infer_instance
def pasteR (c : Int) : List Int := if c = 10 then [13] else if validR c ∧ (c = 9 ∨ c = 13 ∨ (32 ≤ c ∧ c ≤ 126) ∨ 159 < c) then [c] else []
def pasteL (xs : List Int) : List Int := xs.flatMap pasteR
theorem pasteL_step (xs : List Int) (k : Nat) (h : k < xs.length) : pasteL (xs.take (k + 1)) = pasteL (xs.take k) ++ pasteR (xs.getD k 0) := by
  have e : xs.getD k 0 = xs[k] := by rw [List.getD_eq_getElem?_getD, List.getElem?_eq_getElem h]; rfl
  unfold pasteL
  rw [List.take_succ_eq_append_getElem h, List.flatMap_append, e]
  simp
theorem pasteR_len (c : Int) : (pasteR c).length ≤ 1 := by
  unfold pasteR; split <;> (try split) <;> simp
theorem pasteL_len (xs : List Int) : (pasteL xs).length ≤ xs.length := by
  unfold pasteL
  induction xs with
  | nil => simp
  | cons x xs ih =>
    have := pasteR_len x
    rw [List.flatMap_cons, List.length_append, List.length_cons]
    omega



end Go.Proofs.Ytgcnfcgnkfkpeaa
