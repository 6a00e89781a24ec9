/- The numbers of a text: plain. -/
import Derived.Test.YtflmckoolagikaaDoorAnsP
import Derived.Test.YtflmckoolagikaaDoorTrm
namespace Go.Fw
open Go Go.RowKit Go.Sx
def okA (x : Int) : Bool := decide ((48 ≤ x ∧ x ≤ 57) ∨ x = 59)
def stepA (n d : Int) : Int := min (max n 0 * 10 + (d - 48)) 16383
def numA (l : List Int) : Int := l.foldl stepA (-1)
def numL (l : List Int) : Int := l.foldl (fun n d => 10 * n + d - 48) 0
/-- The same, as the document has it. -/
def numR (l : List Int) : Int := if l = [] then -1 else if 5 < (l.dropWhile (fun x => x == 48)).length then 16383 else min (numL (l.dropWhile (fun x => x == 48))) 16383
theorem numA_snoc (l : List Int) (d : Int) : numA (l ++ [d]) = stepA (numA l) d := by unfold numA; rw [List.foldl_append]; rfl
theorem numA_bd (l : List Int) (h : ∀ x ∈ l, 48 ≤ x ∧ x ≤ 57) : -1 ≤ numA l ∧ numA l ≤ 16383 := by
  unfold numA
  have : ∀ (l : List Int) (n : Int), (∀ x ∈ l, 48 ≤ x ∧ x ≤ 57) → -1 ≤ n ∧ n ≤ 16383 → -1 ≤ l.foldl stepA n ∧ l.foldl stepA n ≤ 16383 := by
    intro l
    induction l with
    | nil => exact fun n _ h => h
    | cons d l ih =>
      intro n hl hn
      have hd := hl d List.mem_cons_self
      rw [List.foldl_cons]
      exact ih _ (fun x hx => hl x (List.mem_cons_of_mem _ hx)) (by unfold stepA; omega)
  exact this l (-1) h (by omega)
/-- What is read from n on: the number, or the most. -/
theorem fold_sat : ∀ (l : List Int) (n m : Int), (∀ x ∈ l, 48 ≤ x ∧ x ≤ 57) → 0 ≤ n → n = min m 16383 → l.foldl stepA n = min (l.foldl (fun n d => 10 * n + d - 48) m) 16383
  | [], n, m, _, _, hm => hm
  | d :: l, n, m, hl, h0, hm => by
    have hd := hl d List.mem_cons_self
    rw [List.foldl_cons, List.foldl_cons]
    exact fold_sat l _ _ (fun x hx => hl x (List.mem_cons_of_mem _ hx)) (by unfold stepA; omega) (by unfold stepA; omega)
theorem numL_ge : ∀ (l : List Int) (m : Int), (∀ x ∈ l, 48 ≤ x ∧ x ≤ 57) → 1 ≤ m → m * 10 ^ l.length ≤ l.foldl (fun n d => 10 * n + d - 48) m
  | [], m, _, _ => by simp
  | d :: l, m, hl, hm => by
    have hd := hl d List.mem_cons_self
    rw [List.foldl_cons, List.length_cons]
    have h1 := numL_ge l (10 * m + d - 48) (fun x hx => hl x (List.mem_cons_of_mem _ hx)) (by omega)
    refine Int.le_trans ?_ h1
    rw [Int.pow_succ, ← Int.mul_assoc, Int.mul_right_comm]
    refine Int.mul_le_mul_of_nonneg_right (by omega) ?_
    exact Int.pow_nonneg (by decide)
theorem numA_r (l : List Int) (h : ∀ x ∈ l, 48 ≤ x ∧ x ≤ 57) : numA l = numR l := by
  unfold numR
  by_cases h0 : l = []
  · rw [if_pos h0, h0]; rfl
  rw [if_neg h0]
  have h1 : numA l = min (numL l) 16383 := by
    cases l with
    | nil => exact absurd rfl h0
    | cons d l =>
      have hd := h d List.mem_cons_self
      unfold numA numL
      rw [List.foldl_cons, List.foldl_cons]
      exact fold_sat l _ _ (fun x hx => h x (List.mem_cons_of_mem _ hx)) (by unfold stepA; omega) (by unfold stepA; omega)
  have h2 : numL l = numL (l.dropWhile (fun x => x == 48)) := by
    clear h h0 h1
    induction l with
    | nil => rfl
    | cons d l ih =>
      rw [List.dropWhile_cons]
      split
      · rename_i hd
        obtain rfl : d = 48 := by simpa using hd
        rw [← ih]
        rfl
      · rfl
  rw [h1, h2]
  split
  · rename_i h5
    have hs := (List.dropWhile_sublist (fun x : Int => x == 48) (l := l)).subset
    cases hd : l.dropWhile (fun x => x == 48) with
    | nil => rw [hd] at h5; simp at h5
    | cons d r =>
      rw [hd] at h5 hs
      have hdr : ∀ x ∈ d :: r, 48 ≤ x ∧ x ≤ 57 := fun x hx => h x (hs hx)
      have hd48 : ¬ d = 48 := fun e => by
        have h9 := List.head?_dropWhile_not (fun x : Int => x == 48) l
        rw [hd] at h9
        simp at h9
        exact h9 e
      have h6 := hdr d List.mem_cons_self
      have h7 := numL_ge r (10 * 0 + d - 48) (fun x hx => hdr x (List.mem_cons_of_mem _ hx)) (by omega)
      have h8 : numL (d :: r) = r.foldl (fun n d => 10 * n + d - 48) (10 * 0 + d - 48) := rfl
      rw [h8]
      rw [List.length_cons] at h5
      have h10 : (100000 : Int) ≤ (10 * 0 + d - 48) * 10 ^ r.length := by
        have h11 : (10 : Int) ^ 5 ≤ 10 ^ r.length := by
          have : ((10 ^ 5 : Nat) : Int) ≤ ((10 ^ r.length : Nat) : Int) := Int.ofNat_le.2 (Nat.pow_le_pow_right (by decide) (by omega))
          simpa using this
        have h12 : (1 : Int) * 10 ^ r.length ≤ (10 * 0 + d - 48) * 10 ^ r.length := Int.mul_le_mul_of_nonneg_right (by omega) (Int.pow_nonneg (by decide))
        have h13 : (10 : Int) ^ 5 = 100000 := by decide
        omega
      omega
  · rfl
/-- What is trimmed away whole. -/
theorem trim_nil (p : Int → Bool) (l : List Int) : tlN p (trN p l) = [] ↔ l.all p = true := by
  have hall : ∀ l : List Int, l.dropWhile p = [] ↔ l.all p = true := fun l => by
    induction l with
    | nil => simp
    | cons x l ih => rw [List.dropWhile_cons]; split <;> simp_all
  unfold tlN trN
  rw [hall, List.all_reverse]
  constructor
  · intro h
    rw [← List.all_reverse, ← hall]
    cases hd : l.reverse.dropWhile p with
    | nil => rfl
    | cons x r =>
      exfalso
      have h9 := List.head?_dropWhile_not p l.reverse
      rw [hd] at h h9
      simp at h h9
      rw [h9] at h
      exact absurd h.1 (by decide)
  · intro h
    rw [(hall _).2 (by rw [List.all_reverse]; exact h)]
    rfl
end Go.Fw
namespace Go.Proofs.YtflmckoolagikaaDoor
open Go Go.RowKit Go.Fw Go.Sx
def cutA : ByteArray := ⟨#[48, 49, 50, 51, 52, 53, 54, 55, 56, 57, 59]⟩
theorem cutA_in (x : Int) (h : 0 ≤ x ∧ x ≤ 255) : inS cutA x = okA x := by
  have key : ∀ n : Fin 256, inS cutA (n.val : Int) = okA (n.val : Int) := by decide +kernel
  have := key ⟨x.toNat, by omega⟩
  rw [show ((x.toNat : Nat) : Int) = x from by omega] at this
  exact this
def readA (s : ByteArray) : List Int × Int := if (nums s).all okA = true then (((wordsB 59 s).take 32).map fun w => numA (nums w), 0) else ([], 4)
/-- The pieces of a good text are digits. -/
theorem wordsA_mem (c : UInt8) : ∀ (l acc w : List UInt8), w ∈ wordsA c acc l → (∀ x ∈ acc, x ≠ c) → ∀ x ∈ w, x ≠ c ∧ (x ∈ acc ∨ x ∈ l)
  | [], acc, w, h, ha, x, hx => by simp only [wordsA, List.mem_singleton] at h; subst h; exact ⟨ha x hx, .inl hx⟩
  | b :: l, acc, w, h, ha, x, hx => by
    unfold wordsA at h
    split at h
    · rcases List.mem_cons.1 h with rfl | h
      · exact ⟨ha x hx, .inl hx⟩
      · obtain ⟨h1, h2⟩ := wordsA_mem c l [] w h (fun y hy => nomatch hy) x hx
        exact ⟨h1, .inr (List.mem_cons_of_mem _ (h2.resolve_left (fun h => nomatch h)))⟩
    · rename_i hb
      obtain ⟨h1, h2⟩ := wordsA_mem c l _ w h (fun y hy => by
        rcases List.mem_append.1 hy with hy | hy
        · exact ha y hy
        · rw [List.mem_singleton] at hy; rw [hy]; exact hb) x hx
      refine ⟨h1, ?_⟩
      rcases h2 with h2 | h2
      · rcases List.mem_append.1 h2 with h2 | h2
        · exact .inl h2
        · rw [List.mem_singleton] at h2; rw [h2]; exact .inr List.mem_cons_self
      · exact .inr (List.mem_cons_of_mem _ h2)
theorem words_digits (s : ByteArray) (h : (nums s).all okA = true) (w : ByteArray) (hw : w ∈ wordsB 59 s) : (∀ x ∈ nums w, 48 ≤ x ∧ x ≤ 57) ∧ w.size ≤ s.size := by
  unfold wordsB at hw
  rw [List.mem_map] at hw
  obtain ⟨v, hv, rfl⟩ := hw
  have hn : nums (baL v) = v.map fun x => (x.toNat : Int) := by unfold nums baL; rw [List.toList_toArray]
  refine ⟨fun x hx => ?_, ?_⟩
  · rw [hn, List.mem_map] at hx
    obtain ⟨u, hu, rfl⟩ := hx
    obtain ⟨h1, h2⟩ := wordsA_mem 59 _ _ v hv (fun y hy => nomatch hy) u hu
    have h3 := h2.resolve_left (fun h => nomatch h)
    rw [List.all_eq_true] at h
    have h4 := h (u.toNat : Int) (by unfold nums; exact List.mem_map.2 ⟨u, h3, rfl⟩)
    unfold okA at h4
    rw [decide_eq_true_eq] at h4
    have h5 : ¬ u.toNat = 59 := fun e => h1 (UInt8.toNat_inj.1 e)
    omega
  · have := words_len 59 _ _ v hv
    simp at this
    exact this
end Go.Proofs.YtflmckoolagikaaDoor
