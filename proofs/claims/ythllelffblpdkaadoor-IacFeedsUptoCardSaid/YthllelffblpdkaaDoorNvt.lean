/- nvt.Flush, nvt.Out: walks. -/
import Derived.Test.YthllelffblpdkaaDoorSxp
import Derived.Test.YthllelffblpdkaaDoorNvtP
namespace Go.Fw
open Go Go.RowKit Go.Sx
def u8s (l : List UInt8) : List Int := l.map fun b => (b.toNat : Int)
theorem u8s_app (a b : List UInt8) : u8s (a ++ b) = u8s a ++ u8s b := List.map_append
theorem u8s_len (l : List UInt8) : (u8s l).length = l.length := List.length_map _
theorem outB_len (l : List UInt8) : (l.flatMap outB).length ≤ 2 * l.length := by
  induction l with
  | nil => exact Nat.le_refl _
  | cons b l ih =>
    rw [List.flatMap_cons, List.length_append, List.length_cons]
    have : (outB b).length ≤ 2 := by unfold outB; split; exact Nat.le_refl _; split; exact Nat.le_refl _; exact Nat.le_succ _
    omega
theorem outB_snoc {l : List UInt8} {i : Nat} {b : UInt8} (h : l[i]? = some b) : (l.take (i + 1)).flatMap outB = (l.take i).flatMap outB ++ outB b := by
  obtain ⟨hi, rfl⟩ := List.getElem?_eq_some_iff.1 h
  rw [List.take_succ_eq_append_getElem hi, List.flatMap_append]
  simp
end Go.Fw
namespace Go.Proofs.YthllelffblpdkaaDoor
open Go Go.RowKit Go.Fw Go.Sx
set_option maxRecDepth 100000
set_option maxHeartbeats 1000000
attribute [local irreducible] SW SL SQ AtQ SV SC BB LD PK Yields SO SOT SOA SY
end Go.Proofs.YthllelffblpdkaaDoor
