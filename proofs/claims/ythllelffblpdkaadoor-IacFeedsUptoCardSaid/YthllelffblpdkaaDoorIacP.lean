/- Tokens: escaped, joined. Plain. -/
import Derived.Test.YthllelffblpdkaaDoorSxB
import Derived.Test.YthllelffblpdkaaDoorChoP
namespace Go.Fw
open Go Go.RowKit Go.Sx
abbrev Tk := Int × Int × Int × ByteArray
def tokC (t : Tk) : List Value := [.int .i64 t.1, .int .i64 t.2.1, .int .i64 t.2.2.1, .string t.2.2.2]
instance : En tokC 4 := ⟨fun _ => rfl⟩
def toks (L : List Tk) : List Value := L.flatMap tokC
theorem toks_len (L : List Tk) : (toks L).length = L.length * 4 := fm_len L
theorem toks_snoc (L : List Tk) (x : Tk) : toks (L ++ [x]) = toks L ++ tokC x := fm_snoc L x
theorem toks_one (L : List Tk) : (toks L).all (·.oneCell') = true := fm_one L fun _ => rfl
/-- Tokens with the data joined; a token of data is open. -/
def mgs (p : Option Tk) (t : Tk) : List Tk × Option Tk :=
  if t.1 ≠ 1 then (p.toList ++ [t], none) else if t.2.2.2 = ⟨#[]⟩ then ([], p) else match p with
    | none => ([], some t)
    | some a => ([], some (a.1, a.2.1, a.2.2.1, a.2.2.2 ++ t.2.2.2))
def mg : Option Tk → List Tk → List Tk
  | p, [] => p.toList
  | p, t :: l => (mgs p t).1 ++ mg (mgs p t).2 l
theorem mg_end (p : Option Tk) : mg p [] = p.toList := rfl
theorem mg_other {p : Option Tk} {t : Tk} {l : List Tk} (h : ¬ t.1 = 1) : mg p (t :: l) = p.toList ++ t :: mg none l := by
  rw [mg]; unfold mgs; rw [if_pos h]; simp
theorem mg_none {p : Option Tk} {t : Tk} {l : List Tk} (h : t.1 = 1) (h2 : t.2.2.2 = ⟨#[]⟩) : mg p (t :: l) = mg p l := by
  rw [mg]; unfold mgs; rw [if_neg (fun x => x h), if_pos h2]; rfl
theorem mg_new {t : Tk} {l : List Tk} (h : t.1 = 1) (h2 : ¬ t.2.2.2 = ⟨#[]⟩) : mg none (t :: l) = mg (some t) l := by
  rw [mg]; unfold mgs; rw [if_neg (fun x => x h), if_neg h2]; rfl
theorem mg_more {a t : Tk} {l : List Tk} (h : t.1 = 1) (h2 : ¬ t.2.2.2 = ⟨#[]⟩) : mg (some a) (t :: l) = mg (some (a.1, a.2.1, a.2.2.1, a.2.2.2 ++ t.2.2.2)) l := by
  rw [mg]; unfold mgs; rw [if_neg (fun x => x h), if_neg h2]; rfl
theorem mg_stop {p : Option Tk} {l : List Tk} (h : ∀ t, l[0]? = some t → ¬ t.1 = 1) : mg p l = p.toList ++ mg none l := by
  cases l with
  | nil => rw [mg_end, mg_end]; simp
  | cons t l =>
    have h1 := h t rfl
    rw [mg_other h1, mg_other h1]; simp
def dsz (L : List Tk) : Nat := (L.map fun t => t.2.2.2.size).sum
theorem dsz_snoc (L : List Tk) (x : Tk) : dsz (L ++ [x]) = dsz L + x.2.2.2.size := by simp [dsz]
theorem dsz_take (L : List Tk) (i : Nat) : dsz (L.take i) ≤ dsz L := by
  unfold dsz
  induction L generalizing i with
  | nil => simp
  | cons x L ih =>
    cases i with
    | zero => simp
    | succ i => simp only [List.take_succ_cons, List.map_cons, List.sum_cons]; have := ih i; omega
/-- The data of a row's last token, with more behind it. -/
theorem last_at (D : List Tk) (t : Tk) (n : Int) (h : n = D.length) : (toks (D ++ [t]))[n.toNat * 4 + 3]? = some (.string t.2.2.2) := by
  rw [toks_snoc, List.getElem?_append_right (by rw [toks_len]; omega), toks_len, show n.toNat * 4 + 3 - D.length * 4 = 3 from by omega]
  rfl
theorem last_set (D : List Tk) (t : Tk) (n : Int) (h : n = D.length) (d : ByteArray) : (toks (D ++ [t])).set (n.toNat * 4 + 3) (.string d) = toks (D ++ [(t.1, t.2.1, t.2.2.1, d)]) := by
  rw [toks_snoc, List.set_append_right _ _ (by rw [toks_len]; omega), toks_len, show n.toNat * 4 + 3 - D.length * 4 = 3 from by omega, toks_snoc]
  rfl
/-- Each 255 twice. -/
def esc2 (l : List UInt8) : List UInt8 := l.flatMap fun b => if b = 255 then [255, 255] else [b]
def escS (d : ByteArray) : ByteArray := ⟨(esc2 d.data.toList).toArray⟩
theorem esc2_len (l : List UInt8) : (esc2 l).length ≤ 2 * l.length := by
  unfold esc2
  induction l with
  | nil => exact Nat.le_refl _
  | cons b l ih =>
    rw [List.flatMap_cons, List.length_append, List.length_cons]
    have : (if b = 255 then [(255 : UInt8), 255] else [b]).length ≤ 2 := by split <;> simp
    omega
theorem escS_size (d : ByteArray) : (escS d).size ≤ 2 * d.size := by
  have h : (escS d).size = (esc2 d.data.toList).length := List.size_toArray
  rw [h]; exact esc2_len _
/-- What a token is written as. -/
def tokS (k c o : Int) (d : ByteArray) : ByteArray × Int :=
  if k = 1 ∧ c = 0 ∧ o = 0 then (escS d, 0)
  else if k = 2 ∧ (240 ≤ c ∧ c ≤ 249) ∧ o = 0 ∧ d = ⟨#[]⟩ then (strOfNums [255, c], 0)
  else if k = 3 ∧ (251 ≤ c ∧ c ≤ 254) ∧ (0 ≤ o ∧ o ≤ 255) ∧ d = ⟨#[]⟩ then (strOfNums [255, c, o], 0)
  else if k = 4 ∧ c = 0 ∧ (0 ≤ o ∧ o ≤ 255) then (if d.size > 4096 then (⟨#[]⟩, 2) else (strOfNums [255, 250, o] ++ escS d ++ ⟨#[255, 240]⟩, 0))
  else (⟨#[]⟩, 1)
end Go.Fw
