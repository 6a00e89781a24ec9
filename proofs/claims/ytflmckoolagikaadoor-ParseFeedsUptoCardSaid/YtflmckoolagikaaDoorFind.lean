/- find: walks. -/
import Derived.Test.YtflmckoolagikaaDoorSxp
import Derived.Test.YtflmckoolagikaaDoorKmpA
namespace Go.Proofs.YtflmckoolagikaaDoor
open Go Go.RowKit Go.Fw Go.Sx
set_option maxRecDepth 100000
set_option maxHeartbeats 1000000
attribute [local irreducible] SW SL SQ AtQ SV SC BB LD PK Yields
def natv (l : List Nat) : List Value := l.map fun x : Nat => Value.int .i64 x
theorem natv_get (l : List Nat) (k : Nat) (h : k < l.length) : (natv l)[k]? = some (.int .i64 (l.getD k 0 : Nat)) := by
  simp [natv, List.getD, List.getElem?_eq_getElem h]
theorem natv_set (l : List Nat) (k v : Nat) : (natv l).set k (.int .i64 v) = natv (l.set k v) := by simp [natv, List.map_set]
theorem natv_zero (n : Nat) : List.replicate n (Value.int .i64 0) = natv (List.replicate n 0) := by simp [natv]
theorem ints_at (xs : List Int) (k : Nat) (h : k < xs.length) : (ints xs)[(k : Int).toNat * 1]? = some (.int .i64 (xs.getD k 0)) := by
  simp [ints, List.getD, List.getElem?_eq_getElem h]
theorem setB {p : Nat → Int} {bl : List Nat} {i v : Nat} (h : ∀ j, j < i → IsB p (j + 1) (bl.getD j 0)) (hv : IsB p (i + 1) v) (hi : i < bl.length) : ∀ j, j < i + 1 → IsB p (j + 1) ((bl.set i v).getD j 0) := fun j hj => by
  rcases Nat.lt_or_ge j i with hlt | hge
  · have e : (bl.set i v).getD j 0 = bl.getD j 0 := by
      simp only [List.getD_eq_getElem?_getD, List.getElem?_set_ne (show i ≠ j by omega)]
    rw [e]; exact h j hlt
  · obtain rfl : j = i := by omega
    have e : (bl.set j v).getD j 0 = v := by simp [List.getD_eq_getElem?_getD, hi]
    rw [e]; exact hv
end Go.Proofs.YtflmckoolagikaaDoor
