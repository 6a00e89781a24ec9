/- slc.Check, farref.KeysRight, slc.triple, farref.KeySaid: walks. -/
import Derived.Test.YtflmckoolagikaaDoorSxp
import Derived.Test.YtflmckoolagikaaDoorSxB
import Derived.Test.YtflmckoolagikaaDoorSlc
import Derived.Test.YtflmckoolagikaaDoorPen
import Derived.Test.YtflmckoolagikaaDoorAbout
namespace Go.Proofs.YtflmckoolagikaaDoor
open Go Go.RowKit Go.Fw Go.Sx
set_option maxRecDepth 100000
set_option maxHeartbeats 1000000
attribute [local irreducible] SW SL SQ AtQ SV SC BB LD PK Yields SO SOT SOA SY
abbrev keysV (L : List Int) : Value := .agg (octs L).toArray
theorem take?_take : ∀ (l : List Value) (k : Nat), k ≤ l.length → take? l k = some (l.take k)
  | l, 0, _ => by simp [take?]
  | [], k + 1, h => by simp at h
  | x :: l, k + 1, h => by
    unfold take?
    rw [take?_take l k (by simpa using h)]
    rfl
theorem keys_part0 (L : List Int) (h : L.length = 38) : take? ((octs L).drop 0) 19 = some (octs (L.take 19)) := by
  rw [List.drop_zero, take?_take _ _ (by rw [octs_len]; omega)]
  simp [octs, List.map_take]
theorem keys_b (L : List Int) (h : L.length = 38) : Nat.beq (octs L).length 38 = true := by rw [octs_len, h]; rfl
theorem keys_lv (L : List Int) (h : L.length = 38) (f : Int) (hf : 0 ≤ f ∧ f ≤ 18) : (octs L)[0 + f.toNat * 1]? = some (.int .u8 (kLv L f.toNat)) := by
  rw [show 0 + f.toNat * 1 = f.toNat from by omega]
  exact octs_at L _ (by omega)
theorem keys_ch (L : List Int) (h : L.length = 38) (f : Int) (hf : 0 ≤ f ∧ f ≤ 18) : (octs L)[19 + f.toNat * 1]? = some (.int .u8 (kCh L f.toNat)) := by
  rw [show 19 + f.toNat * 1 = 19 + f.toNat from by omega]
  exact octs_at L _ (by omega)
end Go.Proofs.YtflmckoolagikaaDoor
