/- The words of a request, and what is chosen: plain. -/
import Derived.Test.YtflmckoolagikaaDoorChoQ
import Derived.Test.YtflmckoolagikaaDoorNvtQ
import Derived.Lib.SplitLaws
namespace Go.Proofs.YtflmckoolagikaaDoor
open Go Go.RowKit Go.Fw Go.Sx
/-- The words between marks. -/
def wordsA (c : UInt8) (acc : List UInt8) : List UInt8 → List (List UInt8)
  | [] => [acc]
  | b :: l => if b = c then acc :: wordsA c [] l else wordsA c (acc ++ [b]) l
theorem wordsA_no (c : UInt8) : ∀ (l acc : List UInt8), ¬ c ∈ l → wordsA c acc l = [acc ++ l]
  | [], acc, _ => by simp [wordsA]
  | b :: l, acc, h => by
    have hb : ¬ b = c := fun e => h (e ▸ List.mem_cons_self)
    rw [wordsA, if_neg hb, wordsA_no c l _ (fun x => h (List.mem_cons_of_mem _ x)), List.append_assoc]; rfl
theorem wordsA_split (c : UInt8) : ∀ (a b acc : List UInt8), ¬ c ∈ a → wordsA c acc (a ++ c :: b) = (acc ++ a) :: wordsA c [] b
  | [], b, acc, _ => by rw [List.nil_append, wordsA, if_pos rfl, List.append_nil]
  | x :: a, b, acc, h => by
    have hb : ¬ x = c := fun e => h (e ▸ List.mem_cons_self)
    rw [List.cons_append, wordsA, if_neg hb, wordsA_split c a b _ (fun y => h (List.mem_cons_of_mem _ y)), List.append_assoc]; rfl
theorem split_words (c : UInt8) : ∀ (k : Nat) (l : List UInt8), Lib.count l [c] = k → Lib.splitK [c] 0 k l = wordsA c [] l := by
  intro k
  induction k with
  | zero =>
    intro l h
    have hn : ¬ c ∈ l := fun hm => by
      obtain ⟨a, b, rfl, ha⟩ := List.eq_append_cons_of_mem hm
      have := Lib.count_hit (by simp) (index_split c a b ha)
      omega
    rw [Lib.splitK, wordsA_no c l [] hn]; rfl
  | succ k ih =>
    intro l h
    by_cases hm : c ∈ l
    · obtain ⟨a, b, rfl, ha⟩ := List.eq_append_cons_of_mem hm
      have hi := index_split c a b ha
      have hc := Lib.count_hit (by simp) hi
      have e1 : (a ++ c :: b).drop (a.length + 1) = b := by rw [List.drop_length_add_append]; rfl
      have hlc : [c].length = 1 := rfl
      rw [hlc, e1] at hc
      rw [Lib.splitK, hi, if_neg (by simp), hlc, Nat.add_zero, Int.toNat_natCast, e1, List.take_left, ih b (by omega), wordsA_split c a b [] ha, List.nil_append]
    · have h2 := Lib.count_miss (index_not c l hm)
      omega
theorem words_len (c : UInt8) : ∀ (l acc w : List UInt8), w ∈ wordsA c acc l → w.length ≤ acc.length + l.length
  | [], acc, w, h => by simp only [wordsA, List.mem_singleton] at h; subst h; exact Nat.le_refl _
  | b :: l, acc, w, h => by
    unfold wordsA at h
    split at h
    · rcases List.mem_cons.1 h with rfl | h
      · omega
      · have := words_len c l [] w h; simp at this ⊢; omega
    · have := words_len c l _ w h; simp at this ⊢; omega
def baL (l : List UInt8) : ByteArray := ⟨l.toArray⟩
theorem baL_data (d : ByteArray) : baL d.data.toList = d := by cases d; rfl
def wordsB (c : UInt8) (d : ByteArray) : List ByteArray := (wordsA c [] d.data.toList).map baL
theorem splitB_words (c : UInt8) (d : ByteArray) : Lib.splitB ⟨#[c]⟩ 0 (Lib.countB d ⟨#[c]⟩) d = wordsB c d := by
  have h := Lib.splitB_data ⟨#[c]⟩ 0 (Lib.countB d ⟨#[c]⟩) d
  have h2 := split_words c (Lib.countB d ⟨#[c]⟩) d.data.toList rfl
  unfold wordsB
  rw [← h2, show [c] = (⟨#[c]⟩ : ByteArray).data.toList from rfl, ← h, List.map_map]
  conv => lhs; rw [← List.map_id (Lib.splitB ⟨#[c]⟩ 0 (Lib.countB d ⟨#[c]⟩) d)]
  exact List.map_congr_left fun x _ => (baL_data x).symm
theorem countB_words (c : UInt8) (d : ByteArray) : Lib.countB d ⟨#[c]⟩ + 1 = (wordsB c d).length := by
  rw [← splitB_words, Lib.splitB_all ⟨#[c]⟩ (Nat.le_refl 1) 0 _ d rfl]
theorem wordsB_len {c : UInt8} {d w : ByteArray} (h : w ∈ wordsB c d) : w.size ≤ d.size := by
  obtain ⟨x, hx, rfl⟩ := List.mem_map.1 h
  have := words_len c d.data.toList [] x hx
  have e : (baL x).size = x.length := List.size_toArray
  have e2 : d.data.toList.length = d.size := rfl
  simp at this
  omega
def pickW (N M : List ByteArray) : Option (ByteArray × ByteArray) :=
  match N with
  | [] => none
  | n :: N => match M.find? (fun m => decide (upS n = upS m)) with
    | some m => some (n, m)
    | none => pickW N M
theorem pickW_hit {M : List ByteArray} {n m : ByteArray} {j : Nat} (hm : M[j]? = some m) (he : decide (upS n = upS m) = true) (hin : ∀ y ∈ M.take j, decide (upS n = upS y) = false) : ∀ {N : List ByteArray} {i : Nat}, N[i]? = some n → (∀ x ∈ N.take i, ∀ y ∈ M, decide (upS x = upS y) = false) → pickW N M = some (n, m)
  | [], i, hn, _ => by simp at hn
  | x :: N, 0, hn, _ => by
    simp only [List.getElem?_cons_zero, Option.some.injEq] at hn
    subst hn
    obtain ⟨hj, rfl⟩ := List.getElem?_eq_some_iff.1 hm
    have hf : M.find? (fun m => decide (upS x = upS m)) = some M[j] := by
      rw [List.find?_eq_some_iff_getElem]
      refine ⟨he, j, hj, rfl, fun k hk => ?_⟩
      rw [hin _ (List.mem_take_iff_getElem.2 ⟨k, by omega, rfl⟩)]; rfl
    rw [pickW, hf]
  | x :: N, i + 1, hn, ho => by
    have hf : M.find? (fun m => decide (upS x = upS m)) = none := by
      rw [List.find?_eq_none]
      intro y hy h
      have := ho x (by simp) y hy
      exact Bool.noConfusion (this.symm.trans h)
    rw [pickW, hf]
    exact pickW_hit hm he hin (by simpa using hn) (fun z hz => ho z (by simp [hz]))
theorem pickW_miss {M : List ByteArray} : ∀ {N : List ByteArray}, (∀ x ∈ N, ∀ y ∈ M, decide (upS x = upS y) = false) → pickW N M = none
  | [], _ => rfl
  | x :: N, ho => by
    have hf : M.find? (fun m => decide (upS x = upS m)) = none := by
      rw [List.find?_eq_none]
      intro y hy h
      have := ho x (by simp) y hy
      exact Bool.noConfusion (this.symm.trans h)
    rw [pickW, hf]
    exact pickW_miss (fun z hz => ho z (by simp [hz]))
def formD (d : ByteArray) : Prop := 2 ≤ d.size ∧ (nums d).getD 0 0 = 1 ∧ 33 ≤ (nums d).getD 1 0 ∧ (nums d).getD 1 0 ≤ 126
instance (d : ByteArray) : Decidable (formD d) := by unfold formD; infer_instance
/-- What is chosen among words. -/
def choose (N M : List ByteArray) : ByteArray × ByteArray × Int :=
  if N.any (fun s => !nameB s) then (⟨#[]⟩, ⟨#[]⟩, 4)
  else if 8 < N.length then (⟨#[]⟩, ⟨#[]⟩, 2)
  else match pickW N M with
    | some (n, m) => ((⟨#[2]⟩ : ByteArray) ++ n, m, 0)
    | none => (⟨#[3]⟩, ⟨#[]⟩, 0)
theorem choose_bad {N M : List ByteArray} (h : N.any (fun s => !nameB s) = true) : choose N M = (⟨#[]⟩, ⟨#[]⟩, 4) := if_pos h
theorem choose_long {N M : List ByteArray} (h : N.any (fun s => !nameB s) = false) (h8 : 8 < N.length) : choose N M = (⟨#[]⟩, ⟨#[]⟩, 2) := by
  unfold choose; rw [if_neg (by rw [h]; decide), if_pos h8]
theorem choose_hit {N M : List ByteArray} {n m : ByteArray} (h : N.any (fun s => !nameB s) = false) (h8 : ¬ 8 < N.length) (hp : pickW N M = some (n, m)) : choose N M = ((⟨#[2]⟩ : ByteArray) ++ n, m, 0) := by
  unfold choose; rw [if_neg (by rw [h]; decide), if_neg h8, hp]
theorem choose_miss {N M : List ByteArray} (h : N.any (fun s => !nameB s) = false) (h8 : ¬ 8 < N.length) (hp : pickW N M = none) : choose N M = (⟨#[3]⟩, ⟨#[]⟩, 0) := by
  unfold choose; rw [if_neg (by rw [h]; decide), if_neg h8, hp]
/-- The words of a request. -/
def reqW (d : ByteArray) : List ByteArray := wordsB (UInt8.ofNat ((nums d).getD 1 0).toNat) (d.extract 2 d.size)
def answerS (M : List ByteArray) (d : ByteArray) : ByteArray × ByteArray × Int := if formD d then choose (reqW d) M else (⟨#[]⟩, ⟨#[]⟩, 4)
theorem names_good {N : List ByteArray} (h : N.any (fun s => !nameB s) = false) : ∀ n ∈ N, nameB n = true := by
  intro n hn
  refine Classical.byContradiction fun hb => ?_
  rw [List.any_eq_true.2 ⟨n, hn, by rw [Bool.not_eq_true] at hb; rw [hb]; rfl⟩] at h
  cases h
theorem nameB_len {s : ByteArray} (h : nameB s = true) : s.size ≤ 40 := by
  unfold nameB at h
  rw [Bool.and_eq_true, decide_eq_true_eq] at h
  exact h.1.2
attribute [irreducible] choose
end Go.Proofs.YtflmckoolagikaaDoor
