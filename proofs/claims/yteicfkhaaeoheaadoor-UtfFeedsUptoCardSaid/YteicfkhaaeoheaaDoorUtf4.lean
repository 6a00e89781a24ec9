/- farref.RunesBytes, utf.Encode: contracts. -/
import Derived.Test.YteicfkhaaeoheaaDoorUtf3
import Derived.Test.YteicfkhaaeoheaaDoorEncode
namespace Go.Proofs.YteicfkhaaeoheaaDoor
open Go Go.RowKit Go.Fw Go.Sx
set_option maxRecDepth 100000
set_option maxHeartbeats 1000000
attribute [local irreducible] SW SL SQ AtQ SV SC BB LD PK Yields SO SOT SOA SY
theorem strOf_app (a b : List Int) : strOfNums (a ++ b) = strOfNums a ++ strOfNums b := by
  apply ByteArray.ext
  simp [strOfNums]
theorem strOf_size (a : List Int) : (strOfNums a).size = a.length := by
  show (⟨(a.map fun n => UInt8.ofNat n.toNat).toArray⟩ : ByteArray).size = _
  simp [ByteArray.size]
theorem fixR_eq (c : Int) : fixR c = if isR c then c else 65533 := by
  by_cases h : isR c
  · rw [if_pos h]
    unfold isR at h
    unfold fixR
    rw [if_neg (by omega)]
  · rw [if_neg h]
    unfold isR at h
    unfold fixR
    rw [if_pos (by omega)]
theorem encode_sv (G : Ctx) (H : List Ent) (xs : List Int) (a : Option Addr) (n c : Nat) {vs : List Value} [h1 : RdC G H a vs] (hv : vs = ints xs) (hn : n = xs.length) (hm : xs.length ≤ 20000000) : SV Tryd.prog G 142 [.slice a n c] H (.string (strOfNums (encL xs))) := by
  subst hv
  exact sv_of_calls (callee_of Tryd.func142 rfl rfl) fun w hw => encode_any xs a n c w hn hm (h1.here w hw)
end Go.Proofs.YteicfkhaaeoheaaDoor
