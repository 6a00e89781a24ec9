/- The walks of page, and of what the document's side says of pages. -/
import Derived.Test.YtpgmdjdnmipmbaaAbout
import Derived.Test.YtpgmdjdnmipmbaaBase2
namespace Go.Proofs.Ytpgmdjdnmipmbaa
open Go.RowKit Go.Fw

def linesL : List Int := [160, 9670, 9618, 9225, 9228, 9229, 9226, 176, 177, 9252, 9227, 9496, 9488, 9484, 9492, 9532, 9146, 9147, 9472, 9148, 9149, 9500, 9508, 9524, 9516, 9474, 8804, 8805, 960, 8800, 163, 183]
def linesC : Array Value := (ints linesL).toArray
def linesP : List (Nat × Value) := (ints linesL).zipIdx.map fun (x, i) => (i, x)
def pageOf (p : Int) (b : Nat) : Int :=
  if p = 2 then b else if 127 < b then 65533 else if p = 4 ∧ b = 35 then 163 else if p = 3 ∧ 95 ≤ b ∧ b ≤ 126 then linesL.getD (b - 95) 0 else b

theorem built_lines : Try.prog.built 168 linesP = some linesC := by kernel_rfl
theorem size_lines : (Try.prog.info? 168).map (·.size) = some linesC.size := by kernel_rfl
theorem one_lines : linesC.all (·.oneCell') = true := by kernel_rfl
theorem len_lines : linesC.size = 32 := rfl
theorem linesC_get (k : Nat) (hk : k < 32) : linesC[k]? = some (.int .i64 (linesL.getD k 0)) := by
  have hl : k < linesL.length := hk
  unfold linesC ints
  simp [List.getD, List.getElem?_eq_getElem hl]
set_option maxRecDepth 100000 in
set_option maxHeartbeats 1000000 in
theorem pageOf_2 (b : Nat) (w : World) (_hb : b < 256) :
    Calls Try.prog 88 #[.int .i64 2, .int .u8 b] w fun e w' => e = .returned (.int .i64 (b)) ∧ Below w.heap.size w w' := by
  have B1 := Lib.hid built_lines
  have B2 := Lib.hid size_lines
  have B3 := Lib.hid one_lines
  have B4 := Lib.hid len_lines
  generalize linesC = C at *
  have hbl : Below w.heap.size w (w.alloc (.cells C 168)) := (Below.refl _ _).alloc (Nat.le_refl _) _
  go_enter Try.func88, Try.ntmps88
  go_wp2_with (first | ((with_reducible refine fw_build rfl 168 _ rfl linesP C ?_ B1.out ?_); (focus rfl)) | ((with_reducible refine fw_store_new rfl 168 _ _ rfl _ w.heap.size _ C rfl ?_ ?_ ?_ B2.out ?_ B3.out ?_); (focus rfl); (focus rfl); (focus rfl); (focus (rw [B4.out]; rfl))))
  go_ret
  exact ⟨rfl, hbl⟩
set_option maxRecDepth 100000 in
set_option maxHeartbeats 1000000 in
theorem pageOf_hi (p : Int) (b : Nat) (w : World) (_hb : b < 256) (h2 : ¬ p = 2) (h : 127 < b) :
    Calls Try.prog 88 #[.int .i64 p, .int .u8 b] w fun e w' => e = .returned (.int .i64 (65533)) ∧ Below w.heap.size w w' := by
  have B1 := Lib.hid built_lines
  have B2 := Lib.hid size_lines
  have B3 := Lib.hid one_lines
  have B4 := Lib.hid len_lines
  generalize linesC = C at *
  have hbl : Below w.heap.size w (w.alloc (.cells C 168)) := (Below.refl _ _).alloc (Nat.le_refl _) _
  go_enter Try.func88, Try.ntmps88
  go_wp2_with (first | ((with_reducible refine fw_build rfl 168 _ rfl linesP C ?_ B1.out ?_); (focus rfl)) | ((with_reducible refine fw_store_new rfl 168 _ _ rfl _ w.heap.size _ C rfl ?_ ?_ ?_ B2.out ?_ B3.out ?_); (focus rfl); (focus rfl); (focus rfl); (focus (rw [B4.out]; rfl))))
  go_ret
  exact ⟨rfl, hbl⟩
set_option maxRecDepth 100000 in
set_option maxHeartbeats 1000000 in
theorem pageOf_435 (w : World) :
    Calls Try.prog 88 #[.int .i64 4, .int .u8 35] w fun e w' => e = .returned (.int .i64 (163)) ∧ Below w.heap.size w w' := by
  have B1 := Lib.hid built_lines
  have B2 := Lib.hid size_lines
  have B3 := Lib.hid one_lines
  have B4 := Lib.hid len_lines
  generalize linesC = C at *
  have hbl : Below w.heap.size w (w.alloc (.cells C 168)) := (Below.refl _ _).alloc (Nat.le_refl _) _
  go_enter Try.func88, Try.ntmps88
  go_wp2_with (first | ((with_reducible refine fw_build rfl 168 _ rfl linesP C ?_ B1.out ?_); (focus rfl)) | ((with_reducible refine fw_store_new rfl 168 _ _ rfl _ w.heap.size _ C rfl ?_ ?_ ?_ B2.out ?_ B3.out ?_); (focus rfl); (focus rfl); (focus rfl); (focus (rw [B4.out]; rfl))))
  go_ret
  exact ⟨rfl, hbl⟩
set_option maxRecDepth 100000 in
set_option maxHeartbeats 1000000 in
theorem pageOf_4 (b : Nat) (w : World) (_hb : b < 256) (h : ¬ 127 < b) (h35 : ¬ b = 35) :
    Calls Try.prog 88 #[.int .i64 4, .int .u8 b] w fun e w' => e = .returned (.int .i64 (b)) ∧ Below w.heap.size w w' := by
  have B1 := Lib.hid built_lines
  have B2 := Lib.hid size_lines
  have B3 := Lib.hid one_lines
  have B4 := Lib.hid len_lines
  generalize linesC = C at *
  have hbl : Below w.heap.size w (w.alloc (.cells C 168)) := (Below.refl _ _).alloc (Nat.le_refl _) _
  go_enter Try.func88, Try.ntmps88
  go_wp2_with (first | ((with_reducible refine fw_build rfl 168 _ rfl linesP C ?_ B1.out ?_); (focus rfl)) | ((with_reducible refine fw_store_new rfl 168 _ _ rfl _ w.heap.size _ C rfl ?_ ?_ ?_ B2.out ?_ B3.out ?_); (focus rfl); (focus rfl); (focus rfl); (focus (rw [B4.out]; rfl))))
  go_ret
  exact ⟨rfl, hbl⟩
set_option maxRecDepth 100000 in
set_option maxHeartbeats 1000000 in
theorem pageOf_3 (b : Nat) (w : World) (h1 : 95 ≤ b) (h2 : b ≤ 126) :
    Calls Try.prog 88 #[.int .i64 3, .int .u8 b] w fun e w' => e = .returned (.int .i64 (linesL.getD (b - 95) 0)) ∧ Below w.heap.size w w' := by
  have B1 := Lib.hid built_lines
  have B2 := Lib.hid size_lines
  have B3 := Lib.hid one_lines
  have B4 := Lib.hid len_lines
  have hx := linesC_get (b - 95) (by omega)
  generalize linesC = C at *
  have hbl : Below w.heap.size w (w.alloc (.cells C 168)) := (Below.refl _ _).alloc (Nat.le_refl _) _
  obtain ⟨x, hX⟩ : ∃ x, x = linesL.getD (b - 95) 0 := ⟨_, rfl⟩
  rw [← hX] at hx ⊢
  clear hX
  go_enter Try.func88, Try.ntmps88
  go_wp2_with (first | ((with_reducible refine fw_build rfl 168 _ rfl linesP C ?_ B1.out ?_); (focus rfl)) | ((with_reducible refine fw_store_new rfl 168 _ _ rfl _ w.heap.size _ C rfl ?_ ?_ ?_ B2.out ?_ B3.out ?_); (focus rfl); (focus rfl); (focus rfl); (focus (rw [B4.out]; rfl))))
  go_ret
  exact ⟨rfl, hbl⟩
set_option maxRecDepth 100000 in
set_option maxHeartbeats 1000000 in
theorem pageOf_3lo (b : Nat) (w : World) (h : b < 95) :
    Calls Try.prog 88 #[.int .i64 3, .int .u8 b] w fun e w' => e = .returned (.int .i64 (b)) ∧ Below w.heap.size w w' := by
  have B1 := Lib.hid built_lines
  have B2 := Lib.hid size_lines
  have B3 := Lib.hid one_lines
  have B4 := Lib.hid len_lines
  generalize linesC = C at *
  have hbl : Below w.heap.size w (w.alloc (.cells C 168)) := (Below.refl _ _).alloc (Nat.le_refl _) _
  go_enter Try.func88, Try.ntmps88
  go_wp2_with (first | ((with_reducible refine fw_build rfl 168 _ rfl linesP C ?_ B1.out ?_); (focus rfl)) | ((with_reducible refine fw_store_new rfl 168 _ _ rfl _ w.heap.size _ C rfl ?_ ?_ ?_ B2.out ?_ B3.out ?_); (focus rfl); (focus rfl); (focus rfl); (focus (rw [B4.out]; rfl))))
  go_ret
  exact ⟨rfl, hbl⟩
set_option maxRecDepth 100000 in
set_option maxHeartbeats 1000000 in
theorem pageOf_3hi (b : Nat) (w : World) (h : b = 127) :
    Calls Try.prog 88 #[.int .i64 3, .int .u8 b] w fun e w' => e = .returned (.int .i64 (b)) ∧ Below w.heap.size w w' := by
  have B1 := Lib.hid built_lines
  have B2 := Lib.hid size_lines
  have B3 := Lib.hid one_lines
  have B4 := Lib.hid len_lines
  generalize linesC = C at *
  have hbl : Below w.heap.size w (w.alloc (.cells C 168)) := (Below.refl _ _).alloc (Nat.le_refl _) _
  subst h
  go_enter Try.func88, Try.ntmps88
  go_wp2_with (first | ((with_reducible refine fw_build rfl 168 _ rfl linesP C ?_ B1.out ?_); (focus rfl)) | ((with_reducible refine fw_store_new rfl 168 _ _ rfl _ w.heap.size _ C rfl ?_ ?_ ?_ B2.out ?_ B3.out ?_); (focus rfl); (focus rfl); (focus rfl); (focus (rw [B4.out]; rfl))))
  go_ret
  exact ⟨rfl, hbl⟩
set_option maxRecDepth 100000 in
set_option maxHeartbeats 1000000 in
theorem pageOf_else (p : Int) (b : Nat) (w : World) (_hb : b < 256) (h2 : ¬ p = 2) (h3 : ¬ p = 3) (h4 : ¬ p = 4) (h : ¬ 127 < b) :
    Calls Try.prog 88 #[.int .i64 p, .int .u8 b] w fun e w' => e = .returned (.int .i64 (b)) ∧ Below w.heap.size w w' := by
  have B1 := Lib.hid built_lines
  have B2 := Lib.hid size_lines
  have B3 := Lib.hid one_lines
  have B4 := Lib.hid len_lines
  generalize linesC = C at *
  have hbl : Below w.heap.size w (w.alloc (.cells C 168)) := (Below.refl _ _).alloc (Nat.le_refl _) _
  go_enter Try.func88, Try.ntmps88
  go_wp2_with (first | ((with_reducible refine fw_build rfl 168 _ rfl linesP C ?_ B1.out ?_); (focus rfl)) | ((with_reducible refine fw_store_new rfl 168 _ _ rfl _ w.heap.size _ C rfl ?_ ?_ ?_ B2.out ?_ B3.out ?_); (focus rfl); (focus rfl); (focus rfl); (focus (rw [B4.out]; rfl))))
  go_ret
  exact ⟨rfl, hbl⟩
theorem pageOf_any (p : Int) (b : Nat) (w : World) (hb : b < 256) :
    Calls Try.prog 88 #[.int .i64 p, .int .u8 b] w fun e w' => e = .returned (.int .i64 (pageOf p b)) ∧ Below w.heap.size w w' := by
  by_cases h2 : p = 2
  · rw [show pageOf p b = b from by unfold pageOf; rw [if_pos h2]]; subst h2; exact pageOf_2 b w hb
  · by_cases h127 : 127 < b
    · rw [show pageOf p b = 65533 from by unfold pageOf; rw [if_neg h2, if_pos h127]]; exact pageOf_hi p b w hb h2 h127
    · by_cases h4 : p = 4
      · by_cases h35 : b = 35
        · rw [show pageOf p b = 163 from by unfold pageOf; rw [if_neg h2, if_neg h127, if_pos ⟨h4, h35⟩]]; subst h4; subst h35; exact pageOf_435 w
        · rw [show pageOf p b = b from by unfold pageOf; rw [if_neg h2, if_neg h127, if_neg (fun h => h35 h.2), if_neg (by omega)]]; subst h4; exact pageOf_4 b w hb h127 h35
      · by_cases h3 : p = 3
        · by_cases h95 : 95 ≤ b ∧ b ≤ 126
          · rw [show pageOf p b = linesL.getD (b - 95) 0 from by unfold pageOf; rw [if_neg h2, if_neg h127, if_neg (fun h => h4 h.1), if_pos ⟨h3, h95⟩]]
            subst h3
            exact pageOf_3 b w h95.1 h95.2
          · rw [show pageOf p b = b from by unfold pageOf; rw [if_neg h2, if_neg h127, if_neg (fun h => h4 h.1), if_neg (fun h => h95 h.2)]]
            subst h3
            rcases (show b < 95 ∨ b = 127 by omega) with h | h
            · exact pageOf_3lo b w h
            · exact pageOf_3hi b w h
        · rw [show pageOf p b = b from by unfold pageOf; rw [if_neg h2, if_neg h127, if_neg (fun h => h4 h.1), if_neg (fun h => h3 h.1)]]; exact pageOf_else p b w hb h2 h3 h4 h127

set_option maxRecDepth 100000 in
theorem pageKnown_any (p : Int) (w : World) :
    Calls Try.prog 87 #[.int .i64 p] w fun e w' => e = .returned (.bool (decide (1 ≤ p ∧ p ≤ 4))) ∧ w = w' := by
  by_cases h1 : 1 ≤ p
  · by_cases h2 : p ≤ 4
    all_goals
      go_enter Try.func87, Try.ntmps87
      go_wp2
      go_ret
      exact ⟨ret_bool (by simp [h1, h2]), rfl⟩
  · go_enter Try.func87, Try.ntmps87
    go_wp2
    go_ret
    exact ⟨ret_bool (by simp; omega), rfl⟩
theorem pageKnown_t (p : Int) (w : World) (h : 1 ≤ p ∧ p ≤ 4) :
    Calls Try.prog 87 #[.int .i64 p] w fun e w' => e = .returned (.bool true) ∧ w = w' :=
  (pageKnown_any p w).mono fun e w' ⟨h1, h2⟩ => ⟨by rw [h1]; simp [h], h2⟩
theorem pageKnown_f (p : Int) (w : World) (h : ¬ (1 ≤ p ∧ p ≤ 4)) :
    Calls Try.prog 87 #[.int .i64 p] w fun e w' => e = .returned (.bool false) ∧ w = w' :=
  (pageKnown_any p w).mono fun e w' ⟨h1, h2⟩ => ⟨by rw [h1]; simp; omega, h2⟩

end Go.Proofs.Ytpgmdjdnmipmbaa
