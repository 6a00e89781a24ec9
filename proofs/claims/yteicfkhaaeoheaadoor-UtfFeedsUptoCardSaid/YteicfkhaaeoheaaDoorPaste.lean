/- Pasted text: what is kept of it, and press.Paste. -/
import Derived.Test.YteicfkhaaeoheaaDoorEncode
namespace Go.Proofs.YteicfkhaaeoheaaDoor
open Go.RowKit Go.Fw

def validR (c : Int) : Prop := 0 ≤ c ∧ c ≤ 1114111 ∧ (c < 55296 ∨ 57343 < c)
instance (c : Int) : Decidable (validR c) := by unfold validR; infer_instance
def pasteR (c : Int) : List Int := if c = 10 then [13] else if validR c ∧ (c = 9 ∨ c = 13 ∨ (32 ≤ c ∧ c ≤ 126) ∨ 159 < c) then [c] else []
def pasteL (xs : List Int) : List Int := xs.flatMap pasteR
theorem pasteL_step (xs : List Int) (k : Nat) (h : k < xs.length) : pasteL (xs.take (k + 1)) = pasteL (xs.take k) ++ pasteR (xs.getD k 0) := by
  have e : xs.getD k 0 = xs[k] := by rw [List.getD_eq_getElem?_getD, List.getElem?_eq_getElem h]; rfl
  unfold pasteL
  rw [List.take_succ_eq_append_getElem h, List.flatMap_append, e]
  simp
theorem pasteR_len (c : Int) : (pasteR c).length ≤ 1 := by
  unfold pasteR; split <;> (try split) <;> simp
theorem pasteL_len (xs : List Int) : (pasteL xs).length ≤ xs.length := by
  unfold pasteL
  induction xs with
  | nil => simp
  | cons x xs ih =>
    have := pasteR_len x
    rw [List.flatMap_cons, List.length_append, List.length_cons]
    omega

set_option maxRecDepth 100000 in
theorem code_t (c : Int) (w : World) (h : validR c) : Calls Tryd.prog 64 #[.int .i64 c] w fun e w' => e = .returned (.bool true) ∧ w = w' := by
  obtain ⟨h1, h2, h3⟩ := h
  by_cases h4 : c < 55296
  all_goals
    first | (have h5 : 57343 < c := by omega) | skip
    clear h3
    go_enter Tryd.func64, Tryd.ntmps64
    go_wp2_with fail
    go_ret
    first | exact ⟨rfl, rfl⟩ | exact ⟨ret_bool (by change (decide (c < 55296) || decide (57343 < c)) = true; rw [decide_eq_true h4]; rfl), rfl⟩
set_option maxRecDepth 100000 in
theorem code_f (c : Int) (w : World) (h : c < 0 ∨ (0 ≤ c ∧ 1114111 < c) ∨ (0 ≤ c ∧ c ≤ 1114111 ∧ 55296 ≤ c ∧ c ≤ 57343)) : Calls Tryd.prog 64 #[.int .i64 c] w fun e w' => e = .returned (.bool false) ∧ w = w' := by
  rcases h with h | ⟨h1, h2⟩ | ⟨h1, h2, h3, h4⟩
  all_goals
    go_enter Tryd.func64, Tryd.ntmps64
    go_wp2_with fail
    go_ret
    first | exact ⟨rfl, rfl⟩ | exact ⟨ret_bool (by change (decide (c < 55296) || decide (57343 < c)) = false; rw [decide_eq_false (by omega), decide_eq_false (by omega)]; rfl), rfl⟩

set_option maxRecDepth 100000 in
theorem rune_t (c : Int) (w : World) (h : validR c) : Calls Tryd.prog 68 #[.int .i64 c] w fun e w' => e = .returned (.bool true) ∧ w = w' := by
  obtain ⟨h1, h2, h3⟩ := h
  by_cases h4 : c < 55296
  all_goals
    go_enter Tryd.func68, Tryd.ntmps68
    go_wp2_with (first
      | (go_at_call 59; refine (between_t _ _ _ _ ⟨by omega, by omega⟩).mono ?_; rintro e w' ⟨rfl, rfl⟩)
      | (go_at_call 59; refine (between_f _ _ _ _ (by omega)).mono ?_; rintro e w' ⟨rfl, rfl⟩))
    go_ret
    exact ⟨rfl, rfl⟩
set_option maxRecDepth 100000 in
theorem rune_f (c : Int) (w : World) (h : ¬ validR c) : Calls Tryd.prog 68 #[.int .i64 c] w fun e w' => e = .returned (.bool false) ∧ w = w' := by
  unfold validR at h
  go_enter Tryd.func68, Tryd.ntmps68
  go_wp2_with (go_at_call 59; refine (between_f _ _ _ _ (by omega)).mono ?_; rintro e w' ⟨rfl, rfl⟩)
  go_ret
  exact ⟨rfl, rfl⟩
set_option maxRecDepth 100000 in
theorem bit_any (n b : Int) (w : World) : Calls Tryd.prog 70 #[.int .i64 n, .int .i64 b] w fun e w' => e = .returned (.bool (bits .and .i64 n b != 0)) ∧ w = w' := by
  go_enter Tryd.func70, Tryd.ntmps70
  go_wp2_with fail
  go_ret
  exact ⟨rfl, rfl⟩

end Go.Proofs.YteicfkhaaeoheaaDoor
