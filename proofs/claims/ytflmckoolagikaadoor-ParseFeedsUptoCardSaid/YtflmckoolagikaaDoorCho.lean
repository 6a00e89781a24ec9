/- farref.Like, choice.upper: walks. -/
import Derived.Test.YtflmckoolagikaaDoorSxp
import Derived.Test.YtflmckoolagikaaDoorSxC
import Derived.Test.YtflmckoolagikaaDoorChoP
import Derived.Test.YtflmckoolagikaaDoorPen
namespace Go.Proofs.YtflmckoolagikaaDoor
open Go Go.RowKit Go.Fw Go.Sx
set_option maxRecDepth 100000
set_option maxHeartbeats 1000000
attribute [local irreducible] SW SL SQ AtQ SV SC BB LD PK Yields SO SOT SOA SY
theorem nums_lt (b : ByteArray) (i : Nat) : 0 ≤ (nums b).getD i 0 ∧ (nums b).getD i 0 ≤ 255 := by
  rcases Nat.lt_or_ge i (nums b).length with h | h
  · rw [List.getD_eq_getElem?_getD, List.getElem?_eq_getElem h]; exact nums_bound b _ (List.getElem_mem h)
  · rw [List.getD_eq_getElem?_getD, List.getElem?_eq_none h]; exact ⟨by decide, by decide⟩
/-- A text as choice.upper leaves it. -/
def upS (b : ByteArray) : ByteArray := strOfNums ((nums b).map upI)
theorem upS_iff (a b : ByteArray) : upS a = upS b ↔ (nums a).map upI = (nums b).map upI := by
  constructor
  · intro h
    have h2 := congrArg nums h
    unfold upS at h2
    rw [nums_strOf, nums_strOf] at h2
    · exact h2
    · intro x hx; obtain ⟨y, hy, rfl⟩ := List.mem_map.1 hx; exact upI_bd (nums_bound b y hy)
    · intro x hx; obtain ⟨y, hy, rfl⟩ := List.mem_map.1 hx; exact upI_bd (nums_bound a y hy)
  · intro h; unfold upS; rw [h]
theorem up_set (L : List Int) (i : Nat) (h : i < L.length) : ((L.take i).map upI ++ L.drop i).set ((i : Int).toNat * 1) (upI (L.getD i 0)) = (L.take (i + 1)).map upI ++ L.drop (i + 1) := by
  have hl : ((L.take i).map upI).length = i := by simp; omega
  rw [Int.toNat_natCast, Nat.mul_one, List.set_append_right _ _ (by omega), hl, Nat.sub_self, List.drop_eq_getElem_cons h, List.set_cons_zero, List.take_succ_eq_append_getElem h, List.map_append, List.append_assoc]
  simp [List.getD_eq_getElem?_getD, List.getElem?_eq_getElem h]
theorem up_same (L : List Int) (i : Nat) (h : i < L.length) (e : upI (L.getD i 0) = L.getD i 0) : ((L.take i).map upI ++ L.drop i) = (L.take (i + 1)).map upI ++ L.drop (i + 1) := by
  rw [List.drop_eq_getElem_cons h, List.take_succ_eq_append_getElem h, List.map_append, List.append_assoc]
  simp only [List.getD_eq_getElem?_getD, List.getElem?_eq_getElem h, Option.getD_some] at e
  simp [e]
theorem up_at (L : List Int) (i : Nat) (h : i < L.length) : (octs ((L.take i).map upI ++ L.drop i))[(i : Int).toNat * 1]? = some (.int .u8 (L.getD i 0)) := by
  have hl : ((L.take i).map upI).length = i := by simp; omega
  rw [Int.toNat_natCast, Nat.mul_one, octs, List.getElem?_map, List.getElem?_append_right (by omega), hl, Nat.sub_self, List.getElem?_drop, Nat.add_zero, List.getElem?_eq_getElem h, List.getD_eq_getElem?_getD, List.getElem?_eq_getElem h]
  rfl
end Go.Proofs.YtflmckoolagikaaDoor
