/- The names of a terminal: when they are right. Plain, but for the lists of places that Slices names. -/
import Derived.Test.YtflmckoolagikaaDoorSxB
import Derived.Test.YtflmckoolagikaaDoorSlices
namespace Go.Proofs.YtflmckoolagikaaDoor
open Go Go.RowKit Go.Fw Go.Sx
/-- A byte that a name may have. -/
def nameByte (x : Int) : Bool := decide (33 ≤ x ∧ x ≤ 126)
/-- A text that is a name. -/
def nameB (s : ByteArray) : Bool := decide (1 ≤ s.size ∧ s.size ≤ 40) && (nums s).all nameByte
/-- Name i is one, and stands nowhere ahead. -/
def okAt (l : List ByteArray) (i : Nat) : Bool := nameB (l.getD i ByteArray.empty) && decide (idxStrsAt l (l.getD i ByteArray.empty) = i)
def okAll (l : List ByteArray) (k : Nat) : Bool := (List.range k).all (okAt l)
theorem okAll_zero (l : List ByteArray) : okAll l 0 = true := rfl
theorem okAll_succ (l : List ByteArray) (k : Nat) : okAll l (k + 1) = (okAll l k && okAt l k) := by
  unfold okAll
  rw [List.range_succ, List.all_append]
  simp
theorem okAll_le {l : List ByteArray} {k m : Nat} (h : okAll l m = true) (hk : k ≤ m) : okAll l k = true := by
  unfold okAll at h ⊢
  rw [List.all_eq_true] at h ⊢
  exact fun x hx => h x (List.mem_range.2 (Nat.lt_of_lt_of_le (List.mem_range.1 hx) hk))
theorem okAll_bad {l : List ByteArray} {k m : Nat} (h : okAt l k = false) (hk : k < m) : okAll l m = false := by
  unfold okAll
  rw [List.all_eq_false]
  exact ⟨k, List.mem_range.2 hk, by rw [h]; simp⟩
/-- What is wrong with names of which the n-th said last. -/
def sortsE (l : List ByteArray) (at_ : Int) : Int := if ¬ (1 ≤ l.length ∧ l.length ≤ 8) then 1 else if okAll l l.length = false then 4 else if ¬ (0 ≤ at_ ∧ at_ ≤ l.length) then 1 else 0
theorem sortsE_len {l : List ByteArray} {t : Int} (h : ¬ (1 ≤ l.length ∧ l.length ≤ 8)) : sortsE l t = 1 := if_pos h
theorem sortsE_bad {l : List ByteArray} {t : Int} (h : 1 ≤ l.length ∧ l.length ≤ 8) (h2 : okAll l l.length = false) : sortsE l t = 4 := by
  unfold sortsE; rw [if_neg (fun e => e h), if_pos h2]
theorem sortsE_at {l : List ByteArray} {t : Int} (h : 1 ≤ l.length ∧ l.length ≤ 8) (h2 : okAll l l.length = true) (h3 : ¬ (0 ≤ t ∧ t ≤ l.length)) : sortsE l t = 1 := by
  unfold sortsE; rw [if_neg (fun e => e h), if_neg (by rw [h2]; simp), if_pos h3]
theorem sortsE_ok {l : List ByteArray} {t : Int} (h : 1 ≤ l.length ∧ l.length ≤ 8) (h2 : okAll l l.length = true) (h3 : 0 ≤ t ∧ t ≤ l.length) : sortsE l t = 0 := by
  unfold sortsE; rw [if_neg (fun e => e h), if_neg (by rw [h2]; simp), if_neg (fun e => e h3)]
/-- A name stands first at its own place just where it stands nowhere ahead. -/
theorem idx_self (l : List ByteArray) (i : Nat) (hi : i < l.length) : idxStrsAt l (l.getD i ByteArray.empty) = i ↔ idxStrsIn (l.take i) (l.getD i ByteArray.empty) = false := by
  have hget : ∀ j, j < i → (l.take i).getD j ByteArray.empty = l.getD j ByteArray.empty := fun j hj => by
    simp only [List.getD_eq_getElem?_getD, List.getElem?_take_of_lt hj]
  have hlen : (l.take i).length = i := by rw [List.length_take]; omega
  constructor
  · intro e
    rw [Bool.eq_false_iff]
    intro hm
    obtain ⟨j, hj, ej⟩ := List.getElem_of_mem ((idxStrsIn_iff _ _).1 hm)
    have hji : j < i := by omega
    have e2 : (l.take i).getD j ByteArray.empty = (l.take i)[j] := by simp [List.getD, List.getElem?_eq_getElem hj]
    have e3 : l.getD i ByteArray.empty = l.getD j ByteArray.empty := by rw [← hget j hji, e2, ej]
    have hle : idxStrsAt l (l.getD i ByteArray.empty) ≤ j := by
      unfold idxStrsAt
      split
      · have : l.findIdx (fun x => decide (x = l.getD i ByteArray.empty)) ≤ j := by
          refine Nat.le_of_not_lt fun hlt => ?_
          have h1 := List.not_of_lt_findIdx hlt
          have h2 : l.getD j ByteArray.empty = l[j]'(by omega) := by simp [List.getD, List.getElem?_eq_getElem (show j < l.length by omega)]
          exact absurd (h2.symm.trans e3.symm) (of_decide_eq_false h1)
        omega
      · omega
    omega
  · intro hm
    refine idxStrsAt_yes l _ i (fun j hj e => ?_) rfl hi
    rw [Bool.eq_false_iff] at hm
    refine hm ((idxStrsIn_iff _ _).2 ?_)
    rw [e, ← hget j hj]
    have hj' : j < (l.take i).length := by omega
    have e2 : (l.take i).getD j ByteArray.empty = (l.take i)[j] := by simp [List.getD, List.getElem?_eq_getElem hj']
    rw [e2]
    exact List.getElem_mem hj'
theorem okAt_iff (l : List ByteArray) (i : Nat) (hi : i < l.length) : okAt l i = (nameB (l.getD i ByteArray.empty) && !idxStrsIn (l.take i) (l.getD i ByteArray.empty)) := by
  unfold okAt
  congr 1
  have := idx_self l i hi
  cases h : idxStrsIn (l.take i) (l.getD i ByteArray.empty)
  · simpa using this.2 h
  · have h2 : ¬ idxStrsAt l (l.getD i ByteArray.empty) = i := fun e => by rw [this.1 e] at h; cases h
    simpa using h2
attribute [irreducible] nameB okAt okAll sortsE
end Go.Proofs.YtflmckoolagikaaDoor
