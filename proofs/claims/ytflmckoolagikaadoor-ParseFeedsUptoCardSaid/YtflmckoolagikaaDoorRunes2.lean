/- utf8.AppendRune onto a slice that the caller owns. -/
import Derived.Test.YtflmckoolagikaaDoorRunes
namespace Go.Proofs.YtflmckoolagikaaDoor
open Go.RowKit Go.Fw

theorem ones_of {k : IntKind} (l : List Int) : ∀ u ∈ l.map (Value.int k), u.oneCell' = true := by
  intro u hu
  obtain ⟨x, _, rfl⟩ := List.mem_map.1 hu
  rfl

set_option maxRecDepth 100000 in
set_option maxHeartbeats 1000000 in
theorem appendRune2 (c : Int) (w : World) (v : Value) (n B : Nat) (xs : List Int) (hn : n ≤ 100000000) (hB : B ≤ w.heap.size) (hown : w.ownsRow B 5 1 v n (octs xs)) (h0 : 128 ≤ c) (h1 : c < 2048) :
    Calls Tryd.prog 180 #[v, .int .i32 c] w fun e w' => ∃ v', e = .returned v' ∧ w'.ownsRow B 5 1 v' (n + (runeL c).length) (octs (xs ++ runeL c)) ∧ Below B w w' := by
  have hl : runeL c = [192 + c / 64, 128 + c % 64] := by unfold runeL; rw [if_neg (by omega), if_pos (by omega)]
  rw [hl]
  clear hl
  go_enter Tryd.func180, Tryd.ntmps180
  go_wp2_with (at_builtin; (refine fw_append rfl _ _ 92 rfl B 5 (.int .u8 0) 1 1 Tryd.underlying92 u8i rfl (by decide) (by decide) _ _ _ rfl hown w.heap.size 2 [.int .u8 (192 + c / 64), .int .u8 (128 + c % 64)] rfl rfl rfl rfl (ones_of [192 + c / 64, 128 + c % 64]) (by omega) hB ?_); intro v3 w3 hown3 hb3)
  go_wp2_with fail
  go_ret
  exact ⟨v3, rfl, by simpa [octs] using hown3, hb3⟩
set_option maxRecDepth 100000 in
set_option maxHeartbeats 1000000 in
theorem appendRune3 (c : Int) (w : World) (v : Value) (n B : Nat) (xs : List Int) (hn : n ≤ 100000000) (hB : B ≤ w.heap.size) (hown : w.ownsRow B 5 1 v n (octs xs)) (h0 : 2048 ≤ c) (h1 : c < 65536) (hs : c < 55296 ∨ 57343 < c) :
    Calls Tryd.prog 180 #[v, .int .i32 c] w fun e w' => ∃ v', e = .returned v' ∧ w'.ownsRow B 5 1 v' (n + (runeL c).length) (octs (xs ++ runeL c)) ∧ Below B w w' := by
  have hl : runeL c = [224 + c / 4096, 128 + c / 64 % 64, 128 + c % 64] := by unfold runeL; rw [if_neg (by omega), if_neg (by omega), if_pos (by omega)]
  rw [hl]
  clear hl
  rcases hs with hs | hs
  all_goals
    go_enter Tryd.func180, Tryd.ntmps180
    go_wp2_with (at_builtin; (refine fw_append rfl _ _ 92 rfl B 5 (.int .u8 0) 1 1 Tryd.underlying92 u8i rfl (by decide) (by decide) _ _ _ rfl hown w.heap.size 3 [.int .u8 (224 + c / 4096), .int .u8 (128 + c / 64 % 64), .int .u8 (128 + c % 64)] rfl rfl rfl rfl (ones_of [224 + c / 4096, 128 + c / 64 % 64, 128 + c % 64]) (by omega) hB ?_); intro v3 w3 hown3 hb3)
    go_wp2_with fail
    go_ret
    exact ⟨v3, rfl, by simpa [octs] using hown3, hb3⟩
set_option maxRecDepth 100000 in
set_option maxHeartbeats 1000000 in
theorem appendRune4 (c : Int) (w : World) (v : Value) (n B : Nat) (xs : List Int) (hn : n ≤ 100000000) (hB : B ≤ w.heap.size) (hown : w.ownsRow B 5 1 v n (octs xs)) (h0 : 65536 ≤ c) (h1 : c ≤ 1114111) :
    Calls Tryd.prog 180 #[v, .int .i32 c] w fun e w' => ∃ v', e = .returned v' ∧ w'.ownsRow B 5 1 v' (n + (runeL c).length) (octs (xs ++ runeL c)) ∧ Below B w w' := by
  have hl : runeL c = [240 + c / 262144, 128 + c / 4096 % 64, 128 + c / 64 % 64, 128 + c % 64] := by unfold runeL; rw [if_neg (by omega), if_neg (by omega), if_neg (by omega)]
  rw [hl]
  clear hl
  go_enter Tryd.func180, Tryd.ntmps180
  go_wp2_with (at_builtin; (refine fw_append rfl _ _ 92 rfl B 5 (.int .u8 0) 1 1 Tryd.underlying92 u8i rfl (by decide) (by decide) _ _ _ rfl hown w.heap.size 4 [.int .u8 (240 + c / 262144), .int .u8 (128 + c / 4096 % 64), .int .u8 (128 + c / 64 % 64), .int .u8 (128 + c % 64)] rfl rfl rfl rfl (ones_of [240 + c / 262144, 128 + c / 4096 % 64, 128 + c / 64 % 64, 128 + c % 64]) (by omega) hB ?_); intro v3 w3 hown3 hb3)
  go_wp2_with fail
  go_ret
  exact ⟨v3, rfl, by simpa [octs] using hown3, hb3⟩
set_option maxRecDepth 100000 in
set_option maxHeartbeats 1000000 in
theorem appendRune_any (c : Int) (w : World) (v : Value) (n B : Nat) (xs : List Int) (hn : n ≤ 100000000) (hB : B ≤ w.heap.size) (hown : w.ownsRow B 5 1 v n (octs xs)) (h0 : 0 ≤ c) (h1 : c ≤ 1114111) (hs : c < 55296 ∨ 57343 < c) :
    Calls Tryd.prog 157 #[v, .int .i32 c] w fun e w' => ∃ v', e = .returned v' ∧ w'.ownsRow B 5 1 v' (n + (runeL c).length) (octs (xs ++ runeL c)) ∧ Below B w w' := by
  by_cases h2 : c < 128
  · have hl : runeL c = [c] := by unfold runeL; rw [if_pos h2]
    rw [hl]
    clear hl
    go_enter Tryd.func157, Tryd.ntmps157
    go_wp2_with (at_builtin; (refine fw_append rfl _ _ 92 rfl B 5 (.int .u8 0) 1 1 Tryd.underlying92 u8i rfl (by decide) (by decide) _ _ _ rfl hown w.heap.size 1 [.int .u8 (c)] rfl rfl rfl rfl (ones_of [c]) (by omega) hB ?_); intro v3 w3 hown3 hb3)
    go_wp2_with fail
    go_ret
    exact ⟨v3, rfl, by simpa [octs] using hown3, hb3⟩
  · have hc : Calls Tryd.prog 180 #[v, .int .i32 c] w fun e w' => ∃ v', e = .returned v' ∧ w'.ownsRow B 5 1 v' (n + (runeL c).length) (octs (xs ++ runeL c)) ∧ Below B w w' := by
      by_cases h3 : c < 2048
      · exact appendRune2 c w v n B xs hn hB hown (by omega) h3
      · by_cases h4 : c < 65536
        · exact appendRune3 c w v n B xs hn hB hown (by omega) h4 hs
        · exact appendRune4 c w v n B xs hn hB hown (by omega) h1
    clear hown hs
    go_enter Tryd.func157, Tryd.ntmps157
    go_wp2_with fail
    refine hc.mono ?_
    rintro e w1 ⟨v', rfl, hown1, hb1⟩
    go_wp2_with fail
    go_ret
    exact ⟨v', rfl, hown1, hb1⟩

end Go.Proofs.YtflmckoolagikaaDoor
