/- What is asked, and what is told: plain. -/
import Derived.Test.YtflmckoolagikaaDoorCho
import Derived.Lib.Join
import Derived.Lib.IndexLaws
import Derived.Test.YtflmckoolagikaaDoorSorts2
namespace Go.Proofs.YtflmckoolagikaaDoor
open Go Go.RowKit Go.Fw Go.Sx
def hasC (s : ByteArray) (k : Nat) : Bool := decide (UInt8.ofNat k ∈ s.data.toList)
theorem indexByte_mem (l : List UInt8) (c : UInt8) : decide (0 ≤ Lib.indexByte l c) = decide (c ∈ l) := by
  rw [decide_eq_decide]
  constructor
  · intro h
    obtain ⟨o, ho⟩ : ∃ o : Nat, Lib.indexByte l c = o := ⟨(Lib.indexByte l c).toNat, by omega⟩
    exact List.mem_of_getElem? (Lib.indexByte_some ho).1
  · intro h
    have h1 := Lib.indexByte_ge l c
    refine Classical.byContradiction fun hn => ?_
    have h2 : Lib.indexByte l c = -1 := by omega
    obtain ⟨i, hi, e⟩ := List.getElem_of_mem h
    exact Lib.indexByte_none h2 i (by rw [List.getElem?_eq_getElem hi, e])
def joinS (L : List ByteArray) (sep : ByteArray) : ByteArray := ⟨(Lib.join (L.map (·.data.toList)) sep.data.toList).toArray⟩
theorem joinTail_len (sep : List UInt8) : ∀ r : List ByteArray, (Lib.joinTail sep (r.map (·.data.toList))).length = (r.map (·.size)).sum + r.length * sep.length
  | [] => by simp [Lib.joinTail]
  | x :: r => by
    have h := joinTail_len sep r
    unfold Lib.joinTail at h ⊢
    simp only [List.map_cons, List.flatten_cons, List.length_append, List.sum_cons, List.length_cons, Nat.add_mul, h]
    have : x.data.toList.length = x.size := rfl
    omega
theorem join_len (L : List ByteArray) (sep : ByteArray) : (Lib.join (L.map (·.data.toList)) sep.data.toList).length ≤ (L.map (·.size)).sum + L.length * sep.size := by
  cases L with
  | nil => simp [Lib.join_nil]
  | cons x r =>
    rw [List.map_cons, Lib.join_cons, List.length_append, joinTail_len]
    simp only [List.map_cons, List.sum_cons, List.length_cons, Nat.add_mul]
    have : x.data.toList.length = x.size := rfl
    rw [show sep.data.toList.length = sep.size from rfl]
    omega
theorem join_none (L : List ByteArray) : Lib.join (L.map (·.data.toList)) [] = (L.map (·.data.toList)).flatten := by
  cases L with
  | nil => rfl
  | cons x r => rw [List.map_cons, Lib.join_cons]; simp [Lib.joinTail, Function.comp_def]
theorem hasC_all (L : List ByteArray) (k : Nat) : hasC (joinS L ⟨#[]⟩) k = L.any fun s => hasC s k := by
  unfold hasC joinS
  rw [show (⟨#[]⟩ : ByteArray).data.toList = [] from rfl, join_none, Bool.eq_iff_iff]
  simp only [List.any_eq_true, decide_eq_true_eq, List.mem_flatten, List.mem_map]
  constructor
  · rintro ⟨l, ⟨a, ha, rfl⟩, h⟩; exact ⟨a, ha, h⟩
  · rintro ⟨a, ha, h⟩; exact ⟨_, ⟨a, ha, rfl⟩, h⟩
/-- The first sign that none of them has. -/
def sepAt (p : Nat → Bool) : Option Nat := (List.range' 33 15).find? fun k => !p k
theorem sepAt_some {p : Nat → Bool} {k : Nat} (h1 : 33 ≤ k) (h2 : k < 48) (hk : p k = false) (hb : ∀ j, 33 ≤ j → j < k → p j = true) : sepAt p = some k := by
  unfold sepAt
  rw [List.find?_range'_eq_some]
  refine ⟨by rw [hk]; rfl, ?_, fun j h3 h4 => by rw [hb j h3 h4]; rfl⟩
  rw [List.mem_range'_1]
  omega
theorem sepAt_none {p : Nat → Bool} (hb : ∀ j, 33 ≤ j → j < 48 → p j = true) : sepAt p = none := by
  unfold sepAt
  rw [List.find?_eq_none]
  intro j hj
  rw [List.mem_range'_1] at hj
  rw [hb j (by omega) (by omega)]
  decide
def askS (L : List ByteArray) : ByteArray × Int :=
  if ¬ (1 ≤ L.length ∧ L.length ≤ 8) then (⟨#[]⟩, 1)
  else if L.any (fun s => !nameB s) then (⟨#[]⟩, 4)
  else match sepAt (fun k => L.any fun s => hasC s k) with
    | some k => (strOfNums [1, (k : Int)] ++ joinS L (strOfNums [(k : Int)]), 0)
    | none => (⟨#[]⟩, 5)
theorem askS_len {L : List ByteArray} (h : ¬ (1 ≤ L.length ∧ L.length ≤ 8)) : askS L = (⟨#[]⟩, 1) := if_pos h
theorem askS_bad {L : List ByteArray} (h : 1 ≤ L.length ∧ L.length ≤ 8) (hb : L.any (fun s => !nameB s) = true) : askS L = (⟨#[]⟩, 4) := by
  unfold askS; rw [if_neg (fun x => x h), if_pos hb]
theorem askS_some {L : List ByteArray} {k : Nat} (h : 1 ≤ L.length ∧ L.length ≤ 8) (hb : L.any (fun s => !nameB s) = false) (h1 : 33 ≤ k) (h2 : k < 48) (hk : (L.any fun s => hasC s k) = false) (hp : ∀ j, 33 ≤ j → j < k → (L.any fun s => hasC s j) = true) :
    askS L = (strOfNums [1, (k : Int)] ++ joinS L (strOfNums [(k : Int)]), 0) := by
  unfold askS; rw [if_neg (fun x => x h), if_neg (by rw [hb]; decide), sepAt_some h1 h2 hk hp]
theorem askS_none {L : List ByteArray} (h : 1 ≤ L.length ∧ L.length ≤ 8) (hb : L.any (fun s => !nameB s) = false) (hp : ∀ j, 33 ≤ j → j < 48 → (L.any fun s => hasC s j) = true) : askS L = (⟨#[]⟩, 5) := by
  unfold askS; rw [if_neg (fun x => x h), if_neg (by rw [hb]; decide), sepAt_none hp]
def toldS (L : List ByteArray) (d : ByteArray) : ByteArray × Int :=
  if (nums d).getD 0 0 = 2 then match L.find? (fun s => decide (upS s = upS (d.extract 1 d.size))) with
    | some s => (s, 0)
    | none => (⟨#[]⟩, 6)
  else if d = ⟨#[3]⟩ then (⟨#[]⟩, 6) else (⟨#[]⟩, 4)
attribute [irreducible] askS toldS
end Go.Proofs.YtflmckoolagikaaDoor
