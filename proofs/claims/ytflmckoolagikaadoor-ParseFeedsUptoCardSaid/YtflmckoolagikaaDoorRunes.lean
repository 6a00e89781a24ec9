/- The bytes of a rune, by arithmetic (farref.RuneBytes). -/
import Derived.Test.YtflmckoolagikaaDoorAbout
import Derived.Test.YtflmckoolagikaaDoorBase2
namespace Go.Proofs.YtflmckoolagikaaDoor
open Go.RowKit Go.Fw

def runeL (c : Int) : List Int :=
  if c < 128 then [c] else if c < 2048 then [192 + c / 64, 128 + c % 64] else if c < 65536 then [224 + c / 4096, 128 + c / 64 % 64, 128 + c % 64]
  else [240 + c / 262144, 128 + c / 4096 % 64, 128 + c / 64 % 64, 128 + c % 64]
theorem runeL_byte (c : Int) (h0 : 0 ≤ c) (h1 : c ≤ 1114111) : ∀ x ∈ runeL c, 0 ≤ x ∧ x < 256 := by
  intro x hx
  unfold runeL at hx
  split at hx
  · simp at hx; omega
  · split at hx
    · simp at hx; omega
    · split at hx <;> (simp at hx; omega)
theorem bytesOf_rune (c : Int) (h0 : 0 ≤ c) (h1 : c ≤ 1114111) : bytesOf (runeL c) = strOfNums (runeL c) := by
  unfold bytesOf
  congr 1
  conv => rhs; rw [← List.map_id (runeL c)]
  exact List.map_congr_left fun x hx => Int.emod_eq_of_lt (runeL_byte c h0 h1 x hx).1 (runeL_byte c h0 h1 x hx).2
theorem runeL_len (c : Int) : (runeL c).length ≤ 4 := by
  unfold runeL; split <;> (try split) <;> (try split) <;> simp

set_option maxRecDepth 100000 in
set_option maxHeartbeats 1000000 in
theorem runeBytes_any (c : Int) (w : World) (h0 : 0 ≤ c) (h1 : c ≤ 1114111) :
    Calls Tryd.prog 127 #[.int .i64 c] w fun e w' => e = .returned (.string (strOfNums (runeL c))) ∧ Below w.heap.size w w' := by
  have hbo := bytesOf_rune c h0 h1
  have t1 : c.tmod 64 = c % 64 := Int.tmod_eq_emod_of_nonneg h0
  have t2 : (c / 64).tmod 64 = c / 64 % 64 := Int.tmod_eq_emod_of_nonneg (by omega)
  have t3 : (c / 4096).tmod 64 = c / 4096 % 64 := Int.tmod_eq_emod_of_nonneg (by omega)
  by_cases h2 : c < 128
  · have hl : runeL c = [c] := by unfold runeL; rw [if_pos h2]
    rw [hl] at hbo ⊢
    have Hbo := Lib.hid hbo
    clear hbo hl
    go_enter Tryd.func127, Tryd.ntmps127
    go_wp2_with fail
    refine (bytes_any [c] _ 1 1 _ rfl (by simp) (At.new _ _ _)).mono ?_
    rintro e w1 ⟨rfl, hb1⟩
    rw [Hbo.out]
    go_wp2_with fail
    go_ret
    exact ⟨rfl, ext_trans ((Below.refl _ _).alloc (Nat.le_refl _) _) hb1⟩
  · by_cases h3 : c < 2048
    · have hl : runeL c = [192 + c / 64, 128 + c % 64] := by unfold runeL; rw [if_neg h2, if_pos h3]
      rw [hl] at hbo ⊢
      have Hbo := Lib.hid hbo
      clear hbo hl
      go_enter Tryd.func127, Tryd.ntmps127
      go_wp2_with fail
      refine (bytes_any [192 + c / 64, 128 + c % 64] _ 2 2 _ rfl (by simp) (At.newAt rfl rfl)).mono ?_
      rintro e w1 ⟨rfl, hb1⟩
      rw [Hbo.out]
      go_wp2_with fail
      go_ret
      exact ⟨rfl, ext_trans ((Below.refl _ _).alloc (Nat.le_refl _) _) hb1⟩
    · by_cases h4 : c < 65536
      · have hl : runeL c = [224 + c / 4096, 128 + c / 64 % 64, 128 + c % 64] := by unfold runeL; rw [if_neg h2, if_neg h3, if_pos h4]
        rw [hl] at hbo ⊢
        have Hbo := Lib.hid hbo
        clear hbo hl
        go_enter Tryd.func127, Tryd.ntmps127
        go_wp2_with fail
        refine (bytes_any [224 + c / 4096, 128 + c / 64 % 64, 128 + c % 64] _ 3 3 _ rfl (by simp) (At.newAt rfl rfl)).mono ?_
        rintro e w1 ⟨rfl, hb1⟩
        rw [Hbo.out]
        go_wp2_with fail
        go_ret
        exact ⟨rfl, ext_trans ((Below.refl _ _).alloc (Nat.le_refl _) _) hb1⟩
      · have hl : runeL c = [240 + c / 262144, 128 + c / 4096 % 64, 128 + c / 64 % 64, 128 + c % 64] := by unfold runeL; rw [if_neg h2, if_neg h3, if_neg h4]
        rw [hl] at hbo ⊢
        have Hbo := Lib.hid hbo
        clear hbo hl
        go_enter Tryd.func127, Tryd.ntmps127
        go_wp2_with fail
        refine (bytes_any [240 + c / 262144, 128 + c / 4096 % 64, 128 + c / 64 % 64, 128 + c % 64] _ 4 4 _ rfl (by simp) (At.newAt rfl rfl)).mono ?_
        rintro e w1 ⟨rfl, hb1⟩
        rw [Hbo.out]
        go_wp2_with fail
        go_ret
        exact ⟨rfl, ext_trans ((Below.refl _ _).alloc (Nat.le_refl _) _) hb1⟩

end Go.Proofs.YtflmckoolagikaaDoor
