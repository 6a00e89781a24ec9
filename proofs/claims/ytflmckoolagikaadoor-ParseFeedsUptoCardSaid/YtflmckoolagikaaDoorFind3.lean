/- farref.FoundIn: its walk. -/
import Derived.Test.YtflmckoolagikaaDoorFind2
import Derived.Test.YtflmckoolagikaaDoorSlices
namespace Go.Fw
/-- The places below q where the word stands. -/
def fq (p t : Nat → Int) (n q : Nat) : List Int := ((List.range q).filter fun q => decide (Oc p t n q)).map fun q : Nat => (q : Int)
theorem fnd_fq (p t : Nat → Int) (n i : Nat) : fnd p t n i = fq p t n (i + 1 - n) := rfl
theorem fq_yes (p t : Nat → Int) (n q : Nat) (h : Oc p t n q) : fq p t n (q + 1) = fq p t n q ++ [(q : Int)] := by
  unfold fq
  rw [List.range_succ, List.filter_append, List.map_append]
  simp [h]
theorem fq_no (p t : Nat → Int) (n q : Nat) (h : ¬ Oc p t n q) : fq p t n (q + 1) = fq p t n q := by
  unfold fq
  rw [List.range_succ, List.filter_append, List.map_append]
  simp [h]
theorem fq_len (p t : Nat → Int) (n q : Nat) : (fq p t n q).length ≤ q := by
  unfold fq
  rw [List.length_map]
  exact Nat.le_trans (List.length_filter_le _ _) (by simp)
theorem oc_iff (ts ps : List Int) (q : Nat) (h : q + ps.length ≤ ts.length) : (ts.drop q).take ps.length = ps ↔ Oc (fun i => ps.getD i 0) (fun i => ts.getD i 0) ps.length q := by
  constructor
  · intro e j hj
    have e1 : ((ts.drop q).take ps.length)[j]? = ps[j]? := by rw [e]
    rw [List.getElem?_take_of_lt hj, List.getElem?_drop] at e1
    simp only [List.getD_eq_getElem?_getD, e1]
  · intro ho
    refine List.ext_getElem? fun j => ?_
    rcases Nat.lt_or_ge j ps.length with hj | hj
    · have h1 := ho j hj
      have h2 : q + j < ts.length := by omega
      rw [List.getElem?_take_of_lt hj, List.getElem?_drop, List.getElem?_eq_getElem h2, List.getElem?_eq_getElem hj]
      simp only [List.getD_eq_getElem?_getD, List.getElem?_eq_getElem h2, List.getElem?_eq_getElem hj, Option.getD_some] at h1
      rw [h1]
    · rw [List.getElem?_take, if_neg (by omega), List.getElem?_eq_none hj]
theorem piece_ints (ts : List Int) (q m : Nat) (l h : Int) (hl : l = q) (hh : h = q + m) : ((ints ts).drop (l.toNat * 1)).take ((h.toNat - l.toNat) * 1) = ints ((ts.drop q).take m) := by
  rw [show l.toNat * 1 = q from by omega, show (h.toNat - l.toNat) * 1 = m from by omega]
  simp [ints, List.map_take, List.map_drop]
end Go.Fw
namespace Go.Proofs.YtflmckoolagikaaDoor
open Go Go.RowKit Go.Fw Go.Sx
set_option maxRecDepth 100000
set_option maxHeartbeats 1000000
attribute [local irreducible] SW SL SQ AtQ SV SC BB LD PK Yields
end Go.Proofs.YtflmckoolagikaaDoor
