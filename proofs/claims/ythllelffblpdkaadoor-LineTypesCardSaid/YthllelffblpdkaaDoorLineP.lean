/- Typed bytes: plain. -/
import Derived.Test.YthllelffblpdkaaDoorSlc
import Derived.Test.YthllelffblpdkaaDoorMaskW3
import Derived.Test.YthllelffblpdkaaDoorShelf
import Derived.Lib.Repeat
namespace Go.Proofs.YthllelffblpdkaaDoor
open Go Go.RowKit Go.Fw Go.Sx
def keyI (L : List Int) (f : Nat) : Int := if kLv L f = 0 then -1 else kCh L f
def backS (n : Nat) : ByteArray := ⟨(Lib.repeatL [8, 32, 8] n).toArray⟩
def trimS (s : ByteArray) : ByteArray := ⟨(Lib.trimRightB s.data.toList 32).toArray⟩
def lastS (s : ByteArray) : Int := Lib.lastIndexByte s 32
def wordS (s : ByteArray) : ByteArray := (trimS s).extract 0 (lastS (trimS s) + 1).toNat
abbrev TyR := ByteArray × Bool × ByteArray × ByteArray
def eraseR (s left : ByteArray) : TyR := (left, false, ⟨#[]⟩, backS (s.size - left.size))
def typedU (L : List Int) (im : Bool) (s : ByteArray) (q : Bool) (b : Int) : TyR :=
  if q = true then (if (s ++ strOfNums [b]).size = 1024 then (⟨#[]⟩, false, s ++ strOfNums [b], strOfNums [b]) else (s ++ strOfNums [b], false, ⟨#[]⟩, strOfNums [b]))
  else if b = keyI L 14 then (s, true, ⟨#[]⟩, ⟨#[]⟩)
  else if b = keyI L 10 then (if s = ⟨#[]⟩ then eraseR s s else eraseR s (s.extract 0 (s.size - 1)))
  else if b = keyI L 12 then eraseR s (wordS s)
  else if b = keyI L 11 then eraseR s ⟨#[]⟩
  else if b = keyI L 13 then (s, false, ⟨#[]⟩, ⟨#[13, 10]⟩ ++ s)
  else if (s ++ strOfNums [b]).size = 1024 ∨ b = 13 ∨ b = 10 ∨ b = keyI L 17 ∨ b = keyI L 18 ∨ im = true then (⟨#[]⟩, false, s ++ strOfNums [b], strOfNums [b])
  else (s ++ strOfNums [b], false, ⟨#[]⟩, strOfNums [b])
theorem trimS_le (s : ByteArray) : (trimS s).size ≤ s.size := by
  show (Lib.trimRightB s.data.toList 32).toArray.size ≤ _
  rw [List.size_toArray]
  unfold Lib.trimRightB
  rw [List.length_reverse]
  have := (List.dropWhile_sublist (fun x : UInt8 => x == 32) (l := s.data.toList.reverse)).length_le
  rw [List.length_reverse] at this
  exact this
theorem lastS_bd (s : ByteArray) : -1 ≤ lastS s ∧ lastS s < s.size := by
  unfold lastS
  rcases Lib.lastIndexByte_spec s 32 with ⟨h, -⟩ | ⟨i, h1, h2, -⟩
  · rw [h]; omega
  · omega
theorem backS_size (n : Nat) : (backS n).size = n * 3 := by
  show (Lib.repeatL [8, 32, 8] n).toArray.size = _
  rw [List.size_toArray, Lib.repeatL_length]; rfl
theorem s1_size (b : Int) : (strOfNums [b]).size = 1 := by show (([b].map fun n => UInt8.ofNat n.toNat).toArray).size = 1; rfl
theorem eraseR_size (s left : ByteArray) (h : left.size ≤ s.size) (hs : s.size ≤ 1023) : (eraseR s left).1.size ≤ 1023 ∧ (eraseR s left).2.2.1.size ≤ 1024 ∧ (eraseR s left).2.2.2.size ≤ 3100 := by
  have h0 : (⟨#[]⟩ : ByteArray).size = 0 := rfl
  refine ⟨by show left.size ≤ _; omega, by show (⟨#[]⟩ : ByteArray).size ≤ _; omega, ?_⟩
  show (backS (s.size - left.size)).size ≤ _
  rw [backS_size]; omega
theorem wordS_le (s : ByteArray) : (wordS s).size ≤ s.size := by
  have h1 := trimS_le s
  have h2 := lastS_bd (trimS s)
  unfold wordS
  rw [ByteArray.size_extract]; omega
theorem typedU_size (L : List Int) (im : Bool) (s : ByteArray) (q : Bool) (b : Int) (hs : s.size ≤ 1023) : (typedU L im s q b).1.size ≤ 1023 ∧ (typedU L im s q b).2.2.1.size ≤ 1024 ∧ (typedU L im s q b).2.2.2.size ≤ 3100 := by
  have h0 : (⟨#[]⟩ : ByteArray).size = 0 := rfl
  have h1 := s1_size b
  have hu : (s ++ strOfNums [b]).size = s.size + 1 := by rw [ByteArray.size_append, h1]
  have h2 : ((⟨#[13, 10]⟩ : ByteArray) ++ s).size = 2 + s.size := by rw [ByteArray.size_append]; rfl
  unfold typedU
  generalize s ++ strOfNums [b] = u at *
  generalize (⟨#[13, 10]⟩ : ByteArray) ++ s = v at *
  split
  · split
    · dsimp only; omega
    · dsimp only; omega
  split
  · dsimp only; omega
  split
  · split
    · exact eraseR_size s s (Nat.le_refl _) hs
    · exact eraseR_size s _ (by rw [ByteArray.size_extract]; omega) hs
  split
  · exact eraseR_size s _ (wordS_le s) hs
  split
  · exact eraseR_size s _ (by omega) hs
  split
  · dsimp only; omega
  split
  · dsimp only; omega
  · rename_i h
    dsimp only
    have : ¬ u.size = 1024 := fun e => h (.inl e)
    omega
/-- The editor's line, whether the next byte is quoted, the lines sent, what is shown. -/
abbrev TyS := ByteArray × Bool × List ByteArray × ByteArray
def stepT (L V : List Int) (st : TyS) (b : Int) : TyS :=
  let r := typedU L (bitB V b.toNat) st.1 st.2.1 b
  (r.1, r.2.1, (if r.2.2.1 = ⟨#[]⟩ then st.2.2.1 else st.2.2.1 ++ [r.2.2.1]), st.2.2.2 ++ r.2.2.2)
def typeU (L V : List Int) (st : TyS) (l : List Int) : TyS := l.foldl (stepT L V) st
theorem typeU_snoc (L V : List Int) (st : TyS) (s : ByteArray) (i : Nat) (h : i < s.size) : typeU L V st ((nums s).take (i + 1)) = stepT L V (typeU L V st ((nums s).take i)) ((nums s).getD i 0) := by
  unfold typeU
  rw [List.take_succ_eq_append_getElem (by rw [nums_length]; exact h), List.foldl_append, List.getD_eq_getElem?_getD, List.getElem?_eq_getElem (by rw [nums_length]; exact h)]
  rfl
theorem typeU_ok (L V : List Int) (s0 : ByteArray) (q : Bool) (s : ByteArray) (h0 : s0.size ≤ 1023) : ∀ i, i ≤ s.size → (typeU L V (s0, q, [], ⟨#[]⟩) ((nums s).take i)).1.size ≤ 1023 ∧ (typeU L V (s0, q, [], ⟨#[]⟩) ((nums s).take i)).2.2.1.length ≤ i ∧ (typeU L V (s0, q, [], ⟨#[]⟩) ((nums s).take i)).2.2.2.size ≤ i * 3100
  | 0, _ => ⟨h0, Nat.le_refl _, Nat.le_refl _⟩
  | i + 1, h => by
    have ih := typeU_ok L V s0 q s h0 i (by omega)
    rw [typeU_snoc _ _ _ _ _ (by omega)]
    generalize typeU L V (s0, q, [], ⟨#[]⟩) ((nums s).take i) = st at *
    obtain ⟨i1, i2, i3⟩ := ih
    have hz := typedU_size L (bitB V ((nums s).getD i 0).toNat) st.1 st.2.1 ((nums s).getD i 0) i1
    unfold stepT
    dsimp only
    generalize typedU L (bitB V ((nums s).getD i 0).toNat) st.1 st.2.1 ((nums s).getD i 0) = r at *
    refine ⟨hz.1, ?_, ?_⟩
    · split
      · omega
      · rw [List.length_append]; simp; omega
    · rw [ByteArray.size_append]; omega
end Go.Proofs.YthllelffblpdkaaDoor
