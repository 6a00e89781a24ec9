/- Cutting at one byte: plain. -/
import Derived.Lib.Replace
import Derived.Lib.IndexMore
namespace Go.Fw
open Go Go.Lib
theorem index_split (c : UInt8) : ∀ (a b : List UInt8), ¬ c ∈ a → index (a ++ c :: b) [c] = ((a.length : Nat) : Int)
  | [], b, _ => by
    show index (c :: b) [c] = 0
    unfold index
    simp
  | x :: a, b, h => by
    have h1 : ¬ c = x := fun e => h (by rw [e]; exact List.mem_cons_self)
    have ih := index_split c a b fun e => h (List.mem_cons_of_mem _ e)
    show index (x :: (a ++ c :: b)) [c] = _
    unfold index
    have hp : ([c].isPrefixOf (x :: (a ++ c :: b))) = false := by simp only [List.isPrefixOf, Bool.and_true]; exact beq_eq_false_iff_ne.2 h1
    rw [hp, ih]
    simp
theorem index_not (c : UInt8) : ∀ (l : List UInt8), ¬ c ∈ l → index l [c] = -1
  | [], _ => rfl
  | x :: l, h => by
    have h1 : ¬ c = x := fun e => h (by rw [e]; exact List.mem_cons_self)
    have ih := index_not c l fun e => h (List.mem_cons_of_mem _ e)
    unfold index
    have hp : ([c].isPrefixOf (x :: l)) = false := by simp only [List.isPrefixOf, Bool.and_true]; exact beq_eq_false_iff_ne.2 h1
    rw [hp, ih]
    rfl
theorem cut_not (c : UInt8) (l : List UInt8) (h : ¬ c ∈ l) : cut l [c] = (l, [], false) := by
  unfold cut
  rw [index_not c l h, if_neg (by decide)]
theorem cut_split (c : UInt8) (a b : List UInt8) (h : ¬ c ∈ a) : cut (a ++ c :: b) [c] = (a, b, true) := by
  unfold cut
  rw [index_split c a b h, if_pos (Int.natCast_nonneg _), Int.toNat_natCast, List.take_left]
  congr 2
  show (a ++ c :: b).drop (a.length + 1) = b
  rw [← List.drop_drop, List.drop_left]
  rfl
/-- A string of a list of bytes. -/
abbrev ba (l : List UInt8) : ByteArray := ⟨l.toArray⟩
theorem ba_app (a b : List UInt8) : ba a ++ ba b = ba (a ++ b) := by
  apply ByteArray.ext
  simp [ba]
theorem ba_self (d : ByteArray) : ba d.data.toList = d := by
  apply ByteArray.ext
  simp [ba]
theorem ba_tail (x : UInt8) (t : List UInt8) : (ba (x :: t)).extract 1 (ba (x :: t)).size = ba t := by
  apply ByteArray.ext
  simp [ba, ByteArray.size]
end Go.Fw
