/- Masks as words: plain. -/
import Derived.Test.YthllelffblpdkaaDoorMaskW
import Derived.Test.YthllelffblpdkaaDoorSxB
namespace Go.Fw
open Go Go.RowKit Go.Sx
def wdL (X : List Int) : List Value := X.map (Value.int .u64)
theorem wdL_at {V : List Int} (k : Nat) (h : k < V.length) : (wdL V)[k]? = some (.int .u64 (V.getD k 0)) := by
  unfold wdL
  rw [List.getElem?_map, List.getElem?_eq_getElem h, List.getD_eq_getElem?_getD, List.getElem?_eq_getElem h]
  rfl
theorem wdL_len (V : List Int) : (wdL V).length = V.length := by simp [wdL]
theorem wdL_one (V : List Int) : (wdL V).all (·.oneCell') = true := by
  unfold wdL
  rw [List.all_map]
  exact List.all_eq_true.2 fun _ _ => rfl
theorem wdL_set (V : List Int) (k : Nat) (v : Int) : (wdL V).set k (.int .u64 v) = wdL (V.set k v) := by simp [wdL, List.map_set]
theorem getD_b {V : List Int} {B : Int} (hB : 0 ≤ B) (h : ∀ x ∈ V, 0 ≤ x ∧ x ≤ B) (k : Nat) : 0 ≤ V.getD k 0 ∧ V.getD k 0 ≤ B := by
  rw [List.getD_eq_getElem?_getD]
  cases hq : V[k]? with
  | none => exact ⟨Int.le_refl 0, hB⟩
  | some x => exact h x (List.mem_of_getElem? hq)
/-- The bit of a byte in a mask. -/
def bitB (V : List Int) (b : Nat) : Bool := V.getD (b / 64) 0 / pw (b % 64) % 2 == 1
/-- The bytes of the text, so far. -/
def outW (V : List Int) (b : Nat) : List Int := (List.range 32).map fun j => chainB (fun k => bitB V (8 * j + k)) (min 8 (b - 8 * j))
theorem outW_len (V : List Int) (b : Nat) : (outW V b).length = 32 := by simp [outW]
theorem outW_getD (V : List Int) (b j : Nat) (hj : j < 32) : (outW V b).getD j 0 = chainB (fun k => bitB V (8 * j + k)) (min 8 (b - 8 * j)) := by
  unfold outW
  rw [List.getD_eq_getElem?_getD, List.getElem?_map, List.getElem?_range hj]
  rfl
theorem outW_oct (V : List Int) (b : Nat) : ∀ x ∈ outW V b, 0 ≤ x ∧ x ≤ 255 := fun x hx => by
  obtain ⟨j, -, rfl⟩ := List.mem_map.1 hx
  exact chain_bd _ _ (Nat.min_le_left _ _)
theorem outW_0 (V : List Int) : outW V 0 = List.replicate 32 0 := by
  unfold outW
  apply List.ext_getElem
  · simp
  · intro j h1 h2
    simp only [List.getElem_map, List.getElem_range, List.getElem_replicate]
    rw [show min 8 (0 - 8 * j) = 0 from by omega]
    rfl
theorem outW_eq {V : List Int} {b : Nat} {L : List Int} (hl : L.length = 32) (h : ∀ j, j < 32 → L.getD j 0 = chainB (fun k => bitB V (8 * j + k)) (min 8 (b - 8 * j))) : L = outW V b := by
  apply List.ext_getElem
  · rw [hl, outW_len]
  · intro j h1 h2
    have := (h j (by omega)).trans (outW_getD V b j (by omega)).symm
    rw [List.getD_eq_getElem?_getD, List.getD_eq_getElem?_getD, List.getElem?_eq_getElem h1, List.getElem?_eq_getElem h2] at this
    exact this
theorem outW_no {V : List Int} {b : Nat} (hb : b < 256) (h : bitB V b = false) : outW V b = outW V (b + 1) := by
  refine outW_eq (outW_len V b) fun j hj => ?_
  rw [outW_getD V b j hj]
  by_cases e : j = b / 8
  · subst e
    rw [show min 8 (b - 8 * (b / 8)) = b % 8 from by omega, show min 8 (b + 1 - 8 * (b / 8)) = b % 8 + 1 from by omega]
    show _ = if bitB V (8 * (b / 8) + b % 8) = true then _ else _
    rw [show 8 * (b / 8) + b % 8 = b from by omega, h]
    rfl
  · rw [show min 8 (b - 8 * j) = min 8 (b + 1 - 8 * j) from by omega]
theorem outW_yes {V : List Int} {b : Nat} (hb : b < 256) (h : bitB V b = true) : (outW V b).set (b / 8) (ibits .or .u8 ((outW V b).getD (b / 8) 0) (128 / pw (b % 8))) = outW V (b + 1) := by
  refine outW_eq (by rw [List.length_set, outW_len]) fun j hj => ?_
  by_cases e : j = b / 8
  · subst e
    rw [List.getD_eq_getElem?_getD, List.getElem?_set_self (by rw [outW_len]; omega), Option.getD_some, outW_getD V b _ hj]
    rw [show min 8 (b - 8 * (b / 8)) = b % 8 from by omega, show min 8 (b + 1 - 8 * (b / 8)) = b % 8 + 1 from by omega]
    show _ = if bitB V (8 * (b / 8) + b % 8) = true then _ else _
    rw [show 8 * (b / 8) + b % 8 = b from by omega, h]
    rfl
  · rw [List.getD_eq_getElem?_getD, List.getElem?_set_ne (fun x => e x.symm), ← List.getD_eq_getElem?_getD, outW_getD V b j hj, show min 8 (b - 8 * j) = min 8 (b + 1 - 8 * j) from by omega]
/-- The same, byte by byte. -/
def hornW (V : List Int) (i : Nat) : List Int := (List.range i).map fun j => hornB (fun k => bitB V (8 * j + k)) 8
theorem hornW_len (V : List Int) (i : Nat) : (hornW V i).length = i := by simp [hornW]
theorem hornW_succ (V : List Int) (i : Nat) : hornW V (i + 1) = hornW V i ++ [hornB (fun k => bitB V (8 * i + k)) 8] := by
  unfold hornW
  rw [List.range_succ, List.map_append]
  rfl
theorem outW_horn (V : List Int) : outW V 256 = hornW V 32 := by
  unfold outW hornW
  refine List.map_congr_left fun j hj => ?_
  have := List.mem_range.1 hj
  rw [show min 8 (256 - 8 * j) = 8 from by omega, chain_8]
/-- The words of a text of bits, so far. -/
def rdW (β : Nat → Bool) (b : Nat) : List Int := (List.range 4).map fun j => wordB (fun k => β (64 * j + k)) (min 64 (b - 64 * j))
theorem rdW_len (β : Nat → Bool) (b : Nat) : (rdW β b).length = 4 := by simp [rdW]
theorem rdW_getD (β : Nat → Bool) (b j : Nat) (hj : j < 4) : (rdW β b).getD j 0 = wordB (fun k => β (64 * j + k)) (min 64 (b - 64 * j)) := by
  unfold rdW
  rw [List.getD_eq_getElem?_getD, List.getElem?_map, List.getElem?_range hj]
  rfl
theorem rdW_0 (β : Nat → Bool) : rdW β 0 = [0, 0, 0, 0] := by
  unfold rdW
  simp only [Nat.zero_sub, Nat.min_zero]
  rfl
theorem rdW_eq {β : Nat → Bool} {b : Nat} {L : List Int} (hl : L.length = 4) (h : ∀ j, j < 4 → L.getD j 0 = wordB (fun k => β (64 * j + k)) (min 64 (b - 64 * j))) : L = rdW β b := by
  apply List.ext_getElem
  · rw [hl, rdW_len]
  · intro j h1 h2
    have := (h j (by omega)).trans (rdW_getD β b j (by omega)).symm
    rw [List.getD_eq_getElem?_getD, List.getD_eq_getElem?_getD, List.getElem?_eq_getElem h1, List.getElem?_eq_getElem h2] at this
    exact this
theorem rdW_no {β : Nat → Bool} {b : Nat} (hb : b < 256) (h : β b = false) : rdW β b = rdW β (b + 1) := by
  refine rdW_eq (rdW_len β b) fun j hj => ?_
  rw [rdW_getD β b j hj]
  by_cases e : j = b / 64
  · subst e
    rw [show min 64 (b - 64 * (b / 64)) = b % 64 from by omega, show min 64 (b + 1 - 64 * (b / 64)) = b % 64 + 1 from by omega]
    show _ = if β (64 * (b / 64) + b % 64) = true then _ else _
    rw [show 64 * (b / 64) + b % 64 = b from by omega, h]
    rfl
  · rw [show min 64 (b - 64 * j) = min 64 (b + 1 - 64 * j) from by omega]
theorem rdW_at {β : Nat → Bool} {b : Nat} (hb : b < 256) : (rdW β b).getD (b / 64) 0 = wordB (fun k => β (64 * (b / 64) + k)) (b % 64) := by
  rw [rdW_getD β b _ (by omega), show min 64 (b - 64 * (b / 64)) = b % 64 from by omega]
theorem rdW_yes {β : Nat → Bool} {b : Nat} (hb : b < 256) (h : β b = true) : (rdW β b).set (b / 64) ((rdW β b).getD (b / 64) 0 + pw (b % 64)) = rdW β (b + 1) := by
  refine rdW_eq (by rw [List.length_set, rdW_len]) fun j hj => ?_
  by_cases e : j = b / 64
  · subst e
    rw [List.getD_eq_getElem?_getD, List.getElem?_set_self (by rw [rdW_len]; omega), Option.getD_some, rdW_at hb]
    rw [show min 64 (b + 1 - 64 * (b / 64)) = b % 64 + 1 from by omega]
    show _ = if β (64 * (b / 64) + b % 64) = true then _ else _
    rw [show 64 * (b / 64) + b % 64 = b from by omega, h]
    rfl
  · rw [List.getD_eq_getElem?_getD, List.getElem?_set_ne (fun x => e x.symm), ← List.getD_eq_getElem?_getD, rdW_getD β b j hj, show min 64 (b - 64 * j) = min 64 (b + 1 - 64 * j) from by omega]
theorem rdW_or {β : Nat → Bool} {b : Nat} (hb : b < 256) : ibits .or .u64 ((rdW β b).getD (b / 64) 0) (pw (b % 64)) = (rdW β b).getD (b / 64) 0 + pw (b % 64) := by
  rw [rdW_at hb]
  exact u64_or_new _ _ (by omega)
theorem rdW_bd {β : Nat → Bool} {b : Nat} (hb : b < 256) : 0 ≤ (rdW β b).getD (b / 64) 0 ∧ (rdW β b).getD (b / 64) 0 < pw (b % 64) := by
  rw [rdW_at hb]
  exact wordB_bd _ _
/-- The bits of a text. -/
def txtB (d : ByteArray) (b : Nat) : Bool := decide ((nums d).getD (b / 8) 0 / pw (7 - b % 8) % 2 = 1)
/-- Where a text's end of noughts begins. -/
def trN (d : ByteArray) : Nat → Nat
  | 0 => 0
  | m + 1 => if (nums d).getD m 0 = 0 then trN d m else m + 1
def trS (d : ByteArray) : ByteArray := d.extract 0 (trN d d.size)
end Go.Fw
