/- Keys: when they are right, what a triple makes of them. Plain. -/
import Derived.Test.YtflmckoolagikaaDoorSxB
namespace Go.Fw
open Go Go.RowKit Go.Sx
/-- Level and key of a function, of 38 numbers. -/
def kLv (L : List Int) (f : Nat) : Int := L.getD f 0
def kCh (L : List Int) (f : Nat) : Int := L.getD (19 + f) 0
def kSet (L : List Int) (f : Nat) (x y : Int) : List Int := (L.set f x).set (19 + f) y
theorem kSet_len (L : List Int) (f : Nat) (x y : Int) : (kSet L f x y).length = L.length := by simp [kSet]
theorem kSet_other (L : List Int) (f : Nat) (x y : Int) : (L.set (19 + f) y).set f x = kSet L f x y := by
  unfold kSet
  rw [List.set_comm _ _ (by omega)]
theorem set_getD (L : List Int) (k : Nat) : L.set k (L.getD k 0) = L := by
  rcases Nat.lt_or_ge k L.length with h | h
  · have e : L.getD k 0 = L[k] := by simp [List.getD, List.getElem?_eq_getElem h]
    rw [e, List.set_getElem_self]
  · rw [List.set_eq_of_length_le h]
theorem kSet_same (L : List Int) (f : Nat) : kSet L f (kLv L f) (kCh L f) = L := by
  unfold kSet kLv kCh
  rw [set_getD, set_getD]
/-- Numbers of bytes. -/
def Oct (x : Int) : Prop := 0 ≤ x ∧ x ≤ 255
def keyOk (L : List Int) : Bool := (List.range 19).all fun j => decide (kLv L j ≤ 2)
def keysE (L : List Int) : Int := if keyOk L = true ∧ kLv L 0 = 0 ∧ kCh L 0 = 0 then 0 else 4
/-- A triple: the keys behind it, and what is said. -/
def tripS (L : List Int) (f g c : Int) : List Int × List Int :=
  if ¬ (1 ≤ f ∧ f ≤ 18) then (if 128 ≤ g then (L, []) else (L, [f, 0, 0]))
  else if g % 4 = kLv L f.toNat ∧ c = kCh L f.toNat then (L, [])
  else if 128 ≤ g then (if g % 4 = 3 then (L, []) else (kSet L f.toNat (g % 4) c, []))
  else if g % 4 = 0 then (kSet L f.toNat 0 c, [f, 128, c])
  else if g % 4 = 3 then (L, [f, kLv L f.toNat, kCh L f.toNat])
  else if kLv L f.toNat = 1 ∧ g % 4 = 1 then (kSet L f.toNat 0 0, [f, 0, 0])
  else if kLv L f.toNat = 1 then (L, [f, 1, kCh L f.toNat])
  else (kSet L f.toNat (g % 4) c, [f, 128 + g % 4, c])
theorem tripS_a {L : List Int} {f g c : Int} (h0 : ¬ (1 ≤ f ∧ f ≤ 18)) (h1 : 128 ≤ g) : tripS L f g c = (L, []) := by
  unfold tripS
  rw [if_pos h0, if_pos h1]
theorem tripS_b {L : List Int} {f g c : Int} (h0 : ¬ (1 ≤ f ∧ f ≤ 18)) (h1 : ¬ 128 ≤ g) : tripS L f g c = (L, [f, 0, 0]) := by
  unfold tripS
  rw [if_pos h0, if_neg h1]
theorem tripS_c {L : List Int} {f g c : Int} (h0 : 1 ≤ f ∧ f ≤ 18) (h1 : g % 4 = kLv L f.toNat ∧ c = kCh L f.toNat) : tripS L f g c = (L, []) := by
  unfold tripS
  rw [if_neg (not_not_intro h0), if_pos h1]
theorem tripS_d {L : List Int} {f g c : Int} (h0 : 1 ≤ f ∧ f ≤ 18) (h1 : ¬ (g % 4 = kLv L f.toNat ∧ c = kCh L f.toNat)) (h2 : 128 ≤ g) (h3 : g % 4 = 3) : tripS L f g c = (L, []) := by
  unfold tripS
  rw [if_neg (not_not_intro h0), if_neg h1, if_pos h2, if_pos h3]
theorem tripS_e {L : List Int} {f g c : Int} (h0 : 1 ≤ f ∧ f ≤ 18) (h1 : ¬ (g % 4 = kLv L f.toNat ∧ c = kCh L f.toNat)) (h2 : 128 ≤ g) (h3 : ¬ g % 4 = 3) : tripS L f g c = (kSet L f.toNat (g % 4) c, []) := by
  unfold tripS
  rw [if_neg (not_not_intro h0), if_neg h1, if_pos h2, if_neg h3]
theorem tripS_f {L : List Int} {f g c : Int} (h0 : 1 ≤ f ∧ f ≤ 18) (h1 : ¬ (g % 4 = kLv L f.toNat ∧ c = kCh L f.toNat)) (h2 : ¬ 128 ≤ g) (h3 : g % 4 = 0) : tripS L f g c = (kSet L f.toNat 0 c, [f, 128, c]) := by
  unfold tripS
  rw [if_neg (not_not_intro h0), if_neg h1, if_neg h2, if_pos h3]
theorem tripS_g {L : List Int} {f g c : Int} (h0 : 1 ≤ f ∧ f ≤ 18) (h1 : ¬ (g % 4 = kLv L f.toNat ∧ c = kCh L f.toNat)) (h2 : ¬ 128 ≤ g) (h3 : ¬ g % 4 = 0) (h4 : g % 4 = 3) : tripS L f g c = (L, [f, kLv L f.toNat, kCh L f.toNat]) := by
  unfold tripS
  rw [if_neg (not_not_intro h0), if_neg h1, if_neg h2, if_neg h3, if_pos h4]
theorem tripS_h {L : List Int} {f g c : Int} (h0 : 1 ≤ f ∧ f ≤ 18) (h1 : ¬ (g % 4 = kLv L f.toNat ∧ c = kCh L f.toNat)) (h2 : ¬ 128 ≤ g) (h3 : ¬ g % 4 = 0) (h4 : ¬ g % 4 = 3) (h5 : kLv L f.toNat = 1 ∧ g % 4 = 1) : tripS L f g c = (kSet L f.toNat 0 0, [f, 0, 0]) := by
  unfold tripS
  rw [if_neg (not_not_intro h0), if_neg h1, if_neg h2, if_neg h3, if_neg h4, if_pos h5]
theorem tripS_i {L : List Int} {f g c : Int} (h0 : 1 ≤ f ∧ f ≤ 18) (h1 : ¬ (g % 4 = kLv L f.toNat ∧ c = kCh L f.toNat)) (h2 : ¬ 128 ≤ g) (h3 : ¬ g % 4 = 0) (h4 : ¬ g % 4 = 3) (h5 : ¬ (kLv L f.toNat = 1 ∧ g % 4 = 1)) (h6 : kLv L f.toNat = 1) : tripS L f g c = (L, [f, 1, kCh L f.toNat]) := by
  unfold tripS
  rw [if_neg (not_not_intro h0), if_neg h1, if_neg h2, if_neg h3, if_neg h4, if_neg h5, if_pos h6]
theorem tripS_j {L : List Int} {f g c : Int} (h0 : 1 ≤ f ∧ f ≤ 18) (h1 : ¬ (g % 4 = kLv L f.toNat ∧ c = kCh L f.toNat)) (h2 : ¬ 128 ≤ g) (h3 : ¬ g % 4 = 0) (h4 : ¬ g % 4 = 3) (h5 : ¬ (kLv L f.toNat = 1 ∧ g % 4 = 1)) (h6 : ¬ kLv L f.toNat = 1) : tripS L f g c = (kSet L f.toNat (g % 4) c, [f, 128 + g % 4, c]) := by
  unfold tripS
  rw [if_neg (not_not_intro h0), if_neg h1, if_neg h2, if_neg h3, if_neg h4, if_neg h5, if_neg h6]
theorem tripS_len (L : List Int) (f g c : Int) : (tripS L f g c).1.length = L.length ∧ (tripS L f g c).2.length ≤ 3 := by
  unfold tripS
  repeat' split
  all_goals simp [kSet_len]
theorem oct_getD {L : List Int} (h : ∀ x ∈ L, Oct x) (k : Nat) : Oct (L.getD k 0) := by
  rcases Nat.lt_or_ge k L.length with hk | hk
  · have e : L.getD k 0 = L[k] := by simp [List.getD, List.getElem?_eq_getElem hk]
    rw [e]; exact h _ (List.getElem_mem hk)
  · have e : L.getD k 0 = 0 := by simp [List.getD, List.getElem?_eq_none hk]
    rw [e]; exact ⟨by omega, by omega⟩
theorem oct_set {L : List Int} (h : ∀ x ∈ L, Oct x) (k : Nat) {v : Int} (hv : Oct v) : ∀ x ∈ L.set k v, Oct x := fun x hx => by
  rcases List.mem_or_eq_of_mem_set hx with h1 | h1
  · exact h x h1
  · rw [h1]; exact hv
theorem oct_kSet {L : List Int} (h : ∀ x ∈ L, Oct x) (k : Nat) {u v : Int} (hu : Oct u) (hv : Oct v) : ∀ x ∈ kSet L k u v, Oct x := oct_set (oct_set h k hu) (19 + k) hv
theorem oct_cons {x : Int} {l : List Int} (hx : Oct x) (h : ∀ y ∈ l, Oct y) : ∀ y ∈ x :: l, Oct y := fun y hy => by
  rcases List.mem_cons.1 hy with rfl | hy
  · exact hx
  · exact h y hy
theorem oct_nil : ∀ y ∈ ([] : List Int), Oct y := fun y hy => by cases hy
theorem tripS_oct {L : List Int} {f g c : Int} (h : ∀ x ∈ L, Oct x) (hf : Oct f) (hg : Oct g) (hc : Oct c) : (∀ x ∈ (tripS L f g c).1, Oct x) ∧ (∀ x ∈ (tripS L f g c).2, Oct x) := by
  have h0 : Oct 0 := ⟨by omega, by omega⟩
  have h1 : Oct 1 := ⟨by omega, by omega⟩
  have h2 : Oct 128 := ⟨by omega, by omega⟩
  have h4 : Oct (g % 4) := ⟨by omega, by omega⟩
  have h5 : Oct (128 + g % 4) := ⟨by omega, by omega⟩
  have hl := oct_getD h f.toNat
  have hk := oct_getD h (19 + f.toNat)
  unfold tripS
  repeat' split
  all_goals refine ⟨?_, ?_⟩
  all_goals first | exact h | exact oct_nil | exact oct_kSet h _ h4 hc | exact oct_kSet h _ h0 hc | exact oct_kSet h _ h0 h0 | exact oct_cons hf (oct_cons h0 (oct_cons h0 oct_nil)) | exact oct_cons hf (oct_cons h2 (oct_cons hc oct_nil)) | exact oct_cons hf (oct_cons hl (oct_cons hk oct_nil)) | exact oct_cons hf (oct_cons h1 (oct_cons hk oct_nil)) | exact oct_cons hf (oct_cons h5 (oct_cons hc oct_nil))
/-- The first i triples of a message. -/
def runS (L D : List Int) : Nat → List Int × List Int
  | 0 => (L, [])
  | i + 1 => ((tripS (runS L D i).1 (D.getD (3 * i) 0) (D.getD (3 * i + 1) 0) (D.getD (3 * i + 2) 0)).1, (runS L D i).2 ++ (tripS (runS L D i).1 (D.getD (3 * i) 0) (D.getD (3 * i + 1) 0) (D.getD (3 * i + 2) 0)).2)
theorem runS_len (L D : List Int) (i : Nat) : (runS L D i).1.length = L.length ∧ (runS L D i).2.length ≤ 3 * i := by
  induction i with
  | zero => exact ⟨rfl, Nat.le_refl _⟩
  | succ i ih =>
    have := tripS_len (runS L D i).1 (D.getD (3 * i) 0) (D.getD (3 * i + 1) 0) (D.getD (3 * i + 2) 0)
    refine ⟨by rw [runS]; exact this.1.trans ih.1, ?_⟩
    rw [runS, List.length_append]
    have h1 := this.2
    have h2 := ih.2
    omega
theorem runS_oct {L D : List Int} (h : ∀ x ∈ L, Oct x) (hD : ∀ x ∈ D, Oct x) (i : Nat) : (∀ x ∈ (runS L D i).1, Oct x) ∧ (∀ x ∈ (runS L D i).2, Oct x) := by
  induction i with
  | zero => exact ⟨h, oct_nil⟩
  | succ i ih =>
    have := tripS_oct (f := D.getD (3 * i) 0) (g := D.getD (3 * i + 1) 0) (c := D.getD (3 * i + 2) 0) ih.1 (oct_getD hD _) (oct_getD hD _) (oct_getD hD _)
    refine ⟨this.1, fun x hx => ?_⟩
    rw [runS] at hx
    rcases List.mem_append.1 hx with h1 | h1
    · exact ih.2 x h1
    · exact this.2 x h1
/-- All keys but the first, one by one. -/
def allS (L : List Int) : Nat → List Int
  | 0 => []
  | i + 1 => allS L i ++ [((i + 1 : Nat) : Int), kLv L (i + 1), kCh L (i + 1)]
theorem allS_len (L : List Int) (i : Nat) : (allS L i).length = 3 * i := by
  induction i with
  | zero => rfl
  | succ i ih => rw [allS, List.length_append, ih]; rfl
theorem octs_set (L : List Int) (k : Nat) (v : Int) : (octs L).set k (.int .u8 v) = octs (L.set k v) := by simp [octs, List.map_set]
theorem octs_at (L : List Int) (k : Nat) (h : k < L.length) : (octs L)[k]? = some (.int .u8 (L.getD k 0)) := by
  simp [octs, List.getD, List.getElem?_eq_getElem h]
theorem octs_len (L : List Int) : (octs L).length = L.length := by simp [octs]
theorem keysE_bad {L : List Int} {j : Nat} (hj : j < 19) (h : ¬ kLv L j ≤ 2) : keysE L = 4 := by
  unfold keysE keyOk
  rw [if_neg]
  rintro ⟨h1, -⟩
  rw [List.all_eq_true] at h1
  exact h (by simpa using h1 j (List.mem_range.2 hj))
theorem keysE_z {L : List Int} (h : ¬ (kLv L 0 = 0 ∧ kCh L 0 = 0)) : keysE L = 4 := by
  unfold keysE
  rw [if_neg (fun e => h e.2)]
theorem keysE_end {L : List Int} (h : ∀ j, j < 19 → kLv L j ≤ 2) : keysE L = if kLv L 0 = 0 ∧ kCh L 0 = 0 then 0 else 4 := by
  unfold keysE keyOk
  have : ((List.range 19).all fun j => decide (kLv L j ≤ 2)) = true := by
    rw [List.all_eq_true]
    exact fun j hj => by simpa using h j (List.mem_range.1 hj)
  rw [this]
  simp
end Go.Fw
