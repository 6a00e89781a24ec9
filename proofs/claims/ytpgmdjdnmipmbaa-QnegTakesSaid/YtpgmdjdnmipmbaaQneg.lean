/- The tables of qneg: what is heard and asked, on both sides one function. -/
import Derived.Test.YtpgmdjdnmipmbaaAbout
import Derived.RegionTactic
import Derived.ChangeAlike
namespace Go.Proofs.Ytpgmdjdnmipmbaa
open Go.RowKit Go.Fw

def hearF (s : Int) (on agree : Bool) : Int × Int × Bool :=
  if on then
    (if s = 0 then (if agree then (1, 1, false) else (0, 2, false)) else if s = 1 then (1, 0, false) else if s = 2 then (0, 0, true) else if s = 3 then (1, 0, true)
     else if s = 4 then (1, 0, false) else if s = 5 then (2, 2, false) else (s, 0, false))
  else
    (if s = 0 then (0, 0, false) else if s = 1 then (0, 2, false) else if s = 2 then (0, 0, false) else if s = 3 then (4, 1, false)
     else if s = 4 then (0, 0, false) else if s = 5 then (0, 0, false) else (s, 0, false))
def askF (s : Int) (on : Bool) : Int × Int × Int :=
  if on then
    (if s = 0 then (4, 1, 0) else if s = 1 then (1, 0, 7) else if s = 2 then (3, 0, 0) else if s = 3 then (3, 0, 7) else if s = 4 then (4, 0, 7) else if s = 5 then (4, 0, 0) else (s, 0, 1))
  else
    (if s = 0 then (0, 0, 7) else if s = 1 then (2, 2, 0) else if s = 2 then (2, 0, 7) else if s = 3 then (2, 0, 0) else if s = 4 then (5, 0, 0) else if s = 5 then (5, 0, 7) else (s, 0, 1))
theorem hearF_out (s : Int) (on agree : Bool) (h : s < 0 ∨ 5 < s) : hearF s on agree = (s, 0, false) := by
  unfold hearF
  cases on <;> simp only [if_true, Bool.false_eq_true, if_false] <;> simp (disch := omega) only [if_neg]
theorem askF_out (s : Int) (on : Bool) (h : s < 0 ∨ 5 < s) : askF s on = (s, 0, 1) := by
  unfold askF
  cases on <;> simp only [if_true, Bool.false_eq_true, if_false] <;> simp (disch := omega) only [if_neg]
abbrev hearRes (r : Int × Int × Bool) : Ending := .returned (.tuple #[.int .i64 r.1, .int .i64 r.2.1, .bool r.2.2])
abbrev askRes (r : Int × Int × Int) : Ending := .returned (.tuple #[.int .i64 r.1, .int .i64 r.2.1, .int .i64 r.2.2])


set_option maxRecDepth 100000 in
set_option maxHeartbeats 1000000 in
theorem hear_any (s : Int) (on agree : Bool) (w : World) :
    Calls Try.prog 124 #[.int .i64 s, .bool on, .bool agree] w fun e w' => e = hearRes (hearF s on agree) ∧ w = w' := by
  rcases (show s < 0 ∨ 5 < s ∨ s = 0 ∨ s = 1 ∨ s = 2 ∨ s = 3 ∨ s = 4 ∨ s = 5 by omega) with h | h | h | h | h | h | h | h
  iterate 2
    · have H := Lib.hid (hearF_out s on agree (by omega))
      cases on
      all_goals
        go_enter Try.func124, Try.ntmps124
        go_wp2
        go_ret3
        exact ⟨by rw [H.out]; rfl, rfl⟩
  all_goals
    subst h
    cases on <;> cases agree
    all_goals
      go_enter Try.func124, Try.ntmps124
      go_wp2
      go_ret3
      exact ⟨rfl, rfl⟩

set_option maxRecDepth 100000 in
set_option maxHeartbeats 2000000 in
theorem heard_0 (on agree : Bool) (w : World) :
    Calls Try.prog 84 #[.int .i64 0, .bool on, .bool agree] w fun e w' => e = hearRes (hearF 0 on agree) ∧ Below w.heap.size w w' := by
  cases on <;> cases agree
  all_goals
    go_enter Try.func84, Try.ntmps84
    go_wp2_with (go_at_call 21; refine (between_t _ _ _ _ (by omega)).mono ?_; rintro e w' ⟨rfl, rfl⟩)
    first
      | (go_ret3; exact ⟨rfl, Below.refl _ _⟩)
      | (go_region
         all_goals
           go_wp2
           go_ret3
           exact ⟨rfl, by go_grown⟩)
set_option maxRecDepth 100000 in
set_option maxHeartbeats 2000000 in
theorem heard_1 (on agree : Bool) (w : World) :
    Calls Try.prog 84 #[.int .i64 1, .bool on, .bool agree] w fun e w' => e = hearRes (hearF 1 on agree) ∧ Below w.heap.size w w' := by
  cases on <;> cases agree
  all_goals
    go_enter Try.func84, Try.ntmps84
    go_wp2_with (go_at_call 21; refine (between_t _ _ _ _ (by omega)).mono ?_; rintro e w' ⟨rfl, rfl⟩)
    first
      | (go_ret3; exact ⟨rfl, Below.refl _ _⟩)
      | (go_region
         all_goals
           go_wp2
           go_ret3
           exact ⟨rfl, by go_grown⟩)
set_option maxRecDepth 100000 in
set_option maxHeartbeats 2000000 in
theorem heard_2 (on agree : Bool) (w : World) :
    Calls Try.prog 84 #[.int .i64 2, .bool on, .bool agree] w fun e w' => e = hearRes (hearF 2 on agree) ∧ Below w.heap.size w w' := by
  cases on <;> cases agree
  all_goals
    go_enter Try.func84, Try.ntmps84
    go_wp2_with (go_at_call 21; refine (between_t _ _ _ _ (by omega)).mono ?_; rintro e w' ⟨rfl, rfl⟩)
    first
      | (go_ret3; exact ⟨rfl, Below.refl _ _⟩)
      | (go_region
         all_goals
           go_wp2
           go_ret3
           exact ⟨rfl, by go_grown⟩)
set_option maxRecDepth 100000 in
set_option maxHeartbeats 2000000 in
theorem heard_3 (on agree : Bool) (w : World) :
    Calls Try.prog 84 #[.int .i64 3, .bool on, .bool agree] w fun e w' => e = hearRes (hearF 3 on agree) ∧ Below w.heap.size w w' := by
  cases on <;> cases agree
  all_goals
    go_enter Try.func84, Try.ntmps84
    go_wp2_with (go_at_call 21; refine (between_t _ _ _ _ (by omega)).mono ?_; rintro e w' ⟨rfl, rfl⟩)
    first
      | (go_ret3; exact ⟨rfl, Below.refl _ _⟩)
      | (go_region
         all_goals
           go_wp2
           go_ret3
           exact ⟨rfl, by go_grown⟩)
set_option maxRecDepth 100000 in
set_option maxHeartbeats 2000000 in
theorem heard_4 (on agree : Bool) (w : World) :
    Calls Try.prog 84 #[.int .i64 4, .bool on, .bool agree] w fun e w' => e = hearRes (hearF 4 on agree) ∧ Below w.heap.size w w' := by
  cases on <;> cases agree
  all_goals
    go_enter Try.func84, Try.ntmps84
    go_wp2_with (go_at_call 21; refine (between_t _ _ _ _ (by omega)).mono ?_; rintro e w' ⟨rfl, rfl⟩)
    first
      | (go_ret3; exact ⟨rfl, Below.refl _ _⟩)
      | (go_region
         all_goals
           go_wp2
           go_ret3
           exact ⟨rfl, by go_grown⟩)
set_option maxRecDepth 100000 in
set_option maxHeartbeats 2000000 in
theorem heard_5 (on agree : Bool) (w : World) :
    Calls Try.prog 84 #[.int .i64 5, .bool on, .bool agree] w fun e w' => e = hearRes (hearF 5 on agree) ∧ Below w.heap.size w w' := by
  cases on <;> cases agree
  all_goals
    go_enter Try.func84, Try.ntmps84
    go_wp2_with (go_at_call 21; refine (between_t _ _ _ _ (by omega)).mono ?_; rintro e w' ⟨rfl, rfl⟩)
    first
      | (go_ret3; exact ⟨rfl, Below.refl _ _⟩)
      | (go_region
         all_goals
           go_wp2
           go_ret3
           exact ⟨rfl, by go_grown⟩)
set_option maxRecDepth 100000 in
theorem heard_any (s : Int) (on agree : Bool) (w : World) :
    Calls Try.prog 84 #[.int .i64 s, .bool on, .bool agree] w fun e w' => e = hearRes (hearF s on agree) ∧ Below w.heap.size w w' := by
  rcases (show s < 0 ∨ 5 < s ∨ s = 0 ∨ s = 1 ∨ s = 2 ∨ s = 3 ∨ s = 4 ∨ s = 5 by omega) with h | h | h | h | h | h | h | h
  iterate 2
    · have H := Lib.hid (hearF_out s on agree (by omega))
      go_enter Try.func84, Try.ntmps84
      go_wp2_with (go_at_call 21; refine (between_f _ _ _ _ (by omega)).mono ?_; rintro e w' ⟨rfl, rfl⟩)
      go_ret3
      exact ⟨by rw [H.out]; rfl, Below.refl _ _⟩
  · subst h; exact heard_0 on agree w
  · subst h; exact heard_1 on agree w
  · subst h; exact heard_2 on agree w
  · subst h; exact heard_3 on agree w
  · subst h; exact heard_4 on agree w
  · subst h; exact heard_5 on agree w

set_option maxRecDepth 100000 in
theorem known_any (s : Int) (w : World) :
    Calls Try.prog 86 #[.int .i64 s] w fun e w' => e = .returned (.bool (decide (0 ≤ s ∧ s ≤ 5))) ∧ w = w' := by
  by_cases h1 : 0 ≤ s
  · by_cases h2 : s ≤ 5
    all_goals
      go_enter Try.func86, Try.ntmps86
      go_wp2
      go_ret
      exact ⟨ret_bool (by simp [h1, h2]), rfl⟩
  · go_enter Try.func86, Try.ntmps86
    go_wp2
    go_ret
    exact ⟨ret_bool (by simp; omega), rfl⟩
theorem known_t (s : Int) (w : World) (h : 0 ≤ s ∧ s ≤ 5) :
    Calls Try.prog 86 #[.int .i64 s] w fun e w' => e = .returned (.bool true) ∧ w = w' :=
  (known_any s w).mono fun e w' ⟨h1, h2⟩ => ⟨by rw [h1]; simp [h], h2⟩
theorem known_f (s : Int) (w : World) (h : ¬ (0 ≤ s ∧ s ≤ 5)) :
    Calls Try.prog 86 #[.int .i64 s] w fun e w' => e = .returned (.bool false) ∧ w = w' :=
  (known_any s w).mono fun e w' ⟨h1, h2⟩ => ⟨by rw [h1]; simp; omega, h2⟩

set_option maxRecDepth 100000 in
set_option maxHeartbeats 2000000 in
theorem ask_any (s : Int) (on : Bool) (w : World) :
    Calls Try.prog 78 #[.int .i64 s, .bool on] w fun e w' => e = askRes (askF s on) ∧ w = w' := by
  rcases (show s < 0 ∨ 5 < s ∨ s = 0 ∨ s = 1 ∨ s = 2 ∨ s = 3 ∨ s = 4 ∨ s = 5 by omega) with h | h | h | h | h | h | h | h
  iterate 2
    · have H := Lib.hid (askF_out s on (by omega))
      go_enter Try.func78, Try.ntmps78
      go_wp2_with (go_at_call 86; refine (known_f _ _ (by omega)).mono ?_; rintro e w' ⟨rfl, rfl⟩)
      go_ret3
      exact ⟨by rw [H.out]; rfl, rfl⟩
  all_goals
    subst h
    cases on
    all_goals
      go_enter Try.func78, Try.ntmps78
      go_wp2_with (go_at_call 86; refine (known_t _ _ (by omega)).mono ?_; rintro e w' ⟨rfl, rfl⟩)
      go_ret3
      exact ⟨rfl, rfl⟩

set_option maxRecDepth 100000 in
set_option maxHeartbeats 4000000 in
theorem asked_any (s : Int) (on : Bool) (w : World) :
    Calls Try.prog 80 #[.int .i64 s, .bool on] w fun e w' => e = askRes (askF s on) ∧ Below w.heap.size w w' := by
  rcases (show s < 0 ∨ 5 < s ∨ s = 0 ∨ s = 1 ∨ s = 2 ∨ s = 3 ∨ s = 4 ∨ s = 5 by omega) with h | h | h | h | h | h | h | h
  iterate 2
    · have H := Lib.hid (askF_out s on (by omega))
      go_enter Try.func80, Try.ntmps80
      go_wp2_with (go_at_call 21; refine (between_f _ _ _ _ (by omega)).mono ?_; rintro e w' ⟨rfl, rfl⟩)
      go_ret3
      exact ⟨by rw [H.out]; rfl, Below.refl _ _⟩
  all_goals
    subst h
    cases on
    all_goals
      go_enter Try.func80, Try.ntmps80
      go_wp2_with (go_at_call 21; refine (between_t _ _ _ _ (by omega)).mono ?_; rintro e w' ⟨rfl, rfl⟩)
      first
        | (go_ret3; exact ⟨rfl, by go_grown⟩)
        | (go_region
           all_goals
             go_wp2
             go_ret3
             exact ⟨rfl, by go_grown⟩)

end Go.Proofs.Ytpgmdjdnmipmbaa
