/- utf.Encode: the bytes of runes, one after the other. -/
import Derived.Test.YtflmckoolagikaaDoorRunes2
namespace Go.Proofs.YtflmckoolagikaaDoor
open Go.RowKit Go.Fw

def fixR (c : Int) : Int := if c < 0 ∨ 1114111 < c ∨ (55296 ≤ c ∧ c ≤ 57343) then 65533 else c
def encL (xs : List Int) : List Int := xs.flatMap (fun c => runeL (fixR c))
theorem encL_step (xs : List Int) (k : Nat) (h : k < xs.length) : encL (xs.take (k + 1)) = encL (xs.take k) ++ runeL (fixR (xs.getD k 0)) := by
  have e : xs.getD k 0 = xs[k] := by rw [List.getD_eq_getElem?_getD, List.getElem?_eq_getElem h]; rfl
  unfold encL
  rw [List.take_succ_eq_append_getElem h, List.flatMap_append, e]
  simp
theorem encL_len (xs : List Int) : (encL xs).length ≤ 4 * xs.length := by
  unfold encL
  induction xs with
  | nil => simp
  | cons x xs ih =>
    have := runeL_len (fixR x)
    rw [List.flatMap_cons, List.length_append, List.length_cons]
    omega

set_option maxRecDepth 100000 in
set_option maxHeartbeats 2000000 in
theorem encode_any (xs : List Int) (a : Option Addr) (n c : Nat) (w : World) (hn : n = xs.length) (hm : xs.length ≤ 20000000) (h1 : At w a (ints xs)) :
    Calls Tryd.prog 120 #[.slice a n c] w fun e w' => e = .returned (.string (strOfNums (encL xs))) ∧ Below w.heap.size w w' := by
  have Hn := Lib.hid hn
  rw [← hn] at hm
  clear hn
  go_enter Tryd.func120, Tryd.ntmps120
  go_wp2_with fail
  go_loopw [3, 8] (fun v i wr => ∃ k : Nat, k ≤ n ∧ i = .int .i64 k ∧ wr.ownsRow w.heap.size 5 1 v (encL (xs.take k)).length (octs (encL (xs.take k))) ∧ Below w.heap.size w wr) (fun _ i _ => n - (intOf i).toNat)
  case atStart => exact ⟨0, Nat.zero_le _, rfl, World.ownsRow_nil _ _ _ _, Below.refl _ _⟩
  case round =>
    obtain ⟨k, hk, rfl, hown, hbl⟩ := hrel
    by_cases hlt : k < n
    · obtain ⟨b, o, ha, hb, hc⟩ := h1.int (i := k) (by rw [← Hn.out]; exact hlt)
      rw [ha]
      have hx := (hbl.cell (p := ⟨b, o + k, none⟩) hb).trans (hc k (by rw [← Hn.out]; exact hlt))
      have hlen : (encL (xs.take k)).length ≤ 100000000 := by
        have := encL_len (xs.take k)
        rw [List.length_take] at this
        omega
      have Hstep := Lib.hid (encL_step xs k (by rw [← Hn.out]; exact hlt))
      clear hc ha
      generalize xs.getD k 0 = x at *
      generalize encL (xs.take k) = Z at *
      have hcase : (x < 0 ∧ Hid (fixR x = 65533)) ∨ (¬ x < 0 ∧ 1114111 < x ∧ Hid (fixR x = 65533)) ∨ (¬ x < 0 ∧ ¬ 1114111 < x ∧ 55296 ≤ x ∧ x ≤ 57343 ∧ Hid (fixR x = 65533)) ∨ (¬ x < 0 ∧ ¬ 1114111 < x ∧ ¬ 55296 ≤ x ∧ Hid (fixR x = x)) ∨ (¬ x < 0 ∧ ¬ 1114111 < x ∧ 55296 ≤ x ∧ ¬ x ≤ 57343 ∧ Hid (fixR x = x)) := by
        unfold Hid fixR
        split <;> omega
      rcases hcase with ⟨p1, hf⟩ | ⟨p1, p2, hf⟩ | ⟨p1, p2, p3, p4, hf⟩ | ⟨p1, p2, p3, hf⟩ | ⟨p1, p2, p3, p4, hf⟩
      all_goals
        go_wp2_with fail
        refine (appendRune_any _ _ _ _ _ Z hlen hbl.size hown (by omega) (by omega) (by omega)).mono ?_
        rintro e w1 ⟨v', rfl, hown1, hb1⟩
        have hbl1 := hbl.trans hb1
        clear hown hbl hb1
        go_wp2_with fail
        go_roundw
        case rel => exact ⟨k + 1, by omega, by go_num, by rw [Hstep.out, hf.out, List.length_append]; exact hown1, hbl1⟩
        case measure => simp [intOf]; omega
    · obtain rfl : k = n := by omega
      obtain ⟨a', c', hv, hat⟩ := At.own hown
      have hcv := conv_octs (P := Tryd.prog) Tryd.underlying92 Tryd.underlying5 Tryd.underlying9 c' rfl hat
      rw [List.take_of_length_le (by rw [Hn.out]; exact Nat.le_refl _)] at hcv hv
      rw [hv]
      clear hown hat
      go_wp2_with fail
      go_ret
      exact ⟨rfl, hbl⟩

end Go.Proofs.YtflmckoolagikaaDoor
