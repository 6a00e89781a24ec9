/- Variables as a text, and read: plain. -/
import Derived.Test.YtflmckoolagikaaDoorSxB
import Derived.Test.YtflmckoolagikaaDoorChoP
namespace Go.Fw
open Go Go.RowKit Go.Sx
/-- A name, a value, is it a user's, has it a value. -/
abbrev Vr := ByteArray × ByteArray × Bool × Bool
def vrC (v : Vr) : List Value := [.string v.1, .string v.2.1, .bool v.2.2.1, .bool v.2.2.2]
instance : En vrC 4 := ⟨fun _ => rfl⟩
abbrev vrV (v : Vr) : Value := .agg (vrC v).toArray
def vrs (L : List Vr) : List Value := L.flatMap vrC
@[simp] theorem vrs_len (L : List Vr) : (vrs L).length = L.length * 4 := fm_len L
theorem vrs_snoc (L : List Vr) (x : Vr) : vrs (L ++ [x]) = vrs L ++ vrC x := fm_snoc L x
theorem vrs_one (L : List Vr) : (vrs L).all (·.oneCell') = true := fm_one L fun _ => rfl
/-- A 2 ahead of each byte from 0 to 3. -/
def escI (l : List Int) : List Int := l.flatMap fun x => if x ≤ 3 then [2, x] else [x]
theorem escI_cons (x : Int) (l : List Int) : escI (x :: l) = (if x ≤ 3 then [2, x] else [x]) ++ escI l := rfl
theorem escI_app (l m : List Int) : escI (l ++ m) = escI l ++ escI m := by simp [escI]
theorem escI_len (l : List Int) : (escI l).length ≤ 2 * l.length := by
  unfold escI
  induction l with
  | nil => exact Nat.le_refl _
  | cons b l ih =>
    rw [List.flatMap_cons, List.length_append, List.length_cons]
    have : (if b ≤ 3 then [2, b] else [b]).length ≤ 2 := by split <;> simp
    omega
def vI (v : Vr) : List Int := (if v.2.2.1 then 3 else 0) :: (escI (nums v.1) ++ (if v.2.2.2 then 1 :: escI (nums v.2.1) else []))
def varsI (L : List Vr) : List Int := L.flatMap vI
theorem varsI_snoc (L : List Vr) (v : Vr) : varsI (L ++ [v]) = varsI L ++ vI v := by simp [varsI]
def largeV (L : List Vr) : Prop := 20 < L.length ∨ (L.any fun v => decide (200 < v.1.size) || decide (200 < v.2.1.size)) = true
instance (L : List Vr) : Decidable (largeV L) := by unfold largeV; infer_instance
def formV (v : Vr) : Bool := !v.2.2.2 && decide (v.2.1 ≠ ⟨#[]⟩)
def writeV (L : List Vr) : ByteArray × Int :=
  if largeV L then (⟨#[]⟩, 2) else if L.any formV then (⟨#[]⟩, 4) else (strOfNums (varsI L), 0)
theorem writeV_large {L : List Vr} (h : largeV L) : writeV L = (⟨#[]⟩, 2) := if_pos h
theorem writeV_form {L : List Vr} (h : ¬ largeV L) (h2 : L.any formV = true) : writeV L = (⟨#[]⟩, 4) := by unfold writeV; rw [if_neg h, if_pos h2]
theorem writeV_ok {L : List Vr} (h : ¬ largeV L) (h2 : L.any formV = false) : writeV L = (strOfNums (varsI L), 0) := by unfold writeV; rw [if_neg h, if_neg (by rw [h2]; decide)]
theorem writeV_zero {L : List Vr} (h : (writeV L).2 = 0) : (writeV L).1 = strOfNums (varsI L) ∧ ∀ v ∈ L, formV v = false := by
  unfold writeV at *
  split at h
  · cases h
  · split at h
    · cases h
    · rename_i h1 h2
      rw [if_neg h1, if_neg h2]
      refine ⟨rfl, fun v hv => ?_⟩
      rw [← Bool.not_eq_true]
      intro h3
      exact h2 (List.any_eq_true.2 ⟨v, hv, h3⟩)
/-- A piece, as environ reads it. -/
def wordI : List Int → List Int × List Int
  | [] => ([], [])
  | [x] => if x ≤ 3 then ([], [x]) else ([x], [])
  | x :: y :: l => if x = 2 then (y :: (wordI l).1, (wordI l).2) else if x ≤ 3 then ([], x :: y :: l) else (x :: (wordI (y :: l)).1, (wordI (y :: l)).2)
/-- A piece, as the document has it. -/
def pieceI : List Int → Option (List Int × List Int)
  | [] => some ([], [])
  | [x] => if x = 2 then none else if x ≤ 3 then some ([], [x]) else some ([x], [])
  | x :: y :: l => if x = 2 then (if y > 3 then none else (pieceI l).map fun p => (y :: p.1, p.2)) else if x ≤ 3 then some ([], x :: y :: l) else (pieceI (y :: l)).map fun p => (x :: p.1, p.2)
def markI (r : List Int) : Prop := ∀ x, r[0]? = some x → x ≤ 3 ∧ x ≠ 2
theorem piece_ok : ∀ (l w r : List Int), pieceI l = some (w, r) → wordI l = (w, r) ∧ l = escI w ++ r ∧ markI r
  | [], w, r, h => by
    simp only [pieceI, Option.some.injEq, Prod.mk.injEq] at h
    obtain ⟨rfl, rfl⟩ := h
    exact ⟨rfl, rfl, fun x hx => by simp at hx⟩
  | [x], w, r, h => by
    simp only [pieceI] at h
    split at h
    · cases h
    · rename_i h2
      split at h
      · rename_i h3
        simp only [Option.some.injEq, Prod.mk.injEq] at h
        obtain ⟨rfl, rfl⟩ := h
        exact ⟨by simp [wordI, h3], rfl, fun y hy => by simp at hy; subst hy; exact ⟨h3, h2⟩⟩
      · rename_i h3
        simp only [Option.some.injEq, Prod.mk.injEq] at h
        obtain ⟨rfl, rfl⟩ := h
        exact ⟨by simp [wordI, h3], by simp [escI, h3], fun y hy => by simp at hy⟩
  | x :: y :: l, w, r, h => by
    rw [pieceI] at h
    split at h
    · rename_i h2
      subst h2
      split at h
      · cases h
      · rename_i h3
        cases hp : pieceI l with
        | none => rw [hp] at h; cases h
        | some p =>
          rw [hp] at h
          simp only [Option.map_some, Option.some.injEq, Prod.mk.injEq] at h
          obtain ⟨rfl, rfl⟩ := h
          obtain ⟨h4, h5, h6⟩ := piece_ok l p.1 p.2 hp
          refine ⟨?_, ?_, h6⟩
          · rw [wordI, if_pos rfl, h4]
          · rw [escI_cons, if_pos (by omega)]
            rw [List.append_assoc, ← h5]; rfl
    · rename_i h2
      split at h
      · rename_i h3
        simp only [Option.some.injEq, Prod.mk.injEq] at h
        obtain ⟨rfl, rfl⟩ := h
        refine ⟨?_, rfl, fun z hz => ?_⟩
        · rw [wordI, if_neg h2, if_pos h3]
        · simp at hz; subst hz; exact ⟨h3, h2⟩
      · rename_i h3
        cases hp : pieceI (y :: l) with
        | none => rw [hp] at h; cases h
        | some p =>
          rw [hp] at h
          simp only [Option.map_some, Option.some.injEq, Prod.mk.injEq] at h
          obtain ⟨rfl, rfl⟩ := h
          obtain ⟨h4, h5, h6⟩ := piece_ok (y :: l) p.1 p.2 hp
          refine ⟨?_, ?_, h6⟩
          · rw [wordI, if_neg h2, if_neg h3, h4]
          · rw [escI_cons, if_neg h3, List.append_assoc, ← h5]; rfl
theorem piece_esc : ∀ (w r : List Int), markI r → pieceI (escI w ++ r) = some (w, r)
  | [], [], _ => rfl
  | [], [x], h => by
    obtain ⟨h1, h2⟩ := h x rfl
    show pieceI [x] = _
    rw [pieceI, if_neg h2, if_pos h1]
  | [], x :: y :: r, h => by
    obtain ⟨h1, h2⟩ := h x rfl
    show pieceI (x :: y :: r) = _
    rw [pieceI, if_neg h2, if_pos h1]
  | x :: w, r, h => by
    have ih := piece_esc w r h
    rw [escI_cons]
    by_cases hx : x ≤ 3
    · rw [if_pos hx]
      show pieceI (2 :: x :: (escI w ++ r)) = _
      rw [pieceI, if_pos rfl, if_neg (by omega), ih]; rfl
    · rw [if_neg hx]
      show pieceI (x :: (escI w ++ r)) = _
      cases hq : escI w ++ r with
      | nil =>
        have h1 : w = [] := by
          cases w with
          | nil => rfl
          | cons a w => rw [escI_cons] at hq; split at hq <;> simp at hq
        subst h1
        have h2 : r = [] := by simpa [escI] using hq
        subst h2
        rw [pieceI, if_neg (by omega), if_neg hx]
      | cons a t =>
        rw [hq] at ih
        rw [pieceI, if_neg (by omega), if_neg hx, ih]; rfl
theorem word_len : ∀ (l : List Int), (wordI l).2.length ≤ l.length
  | [] => Nat.le_refl _
  | [x] => by unfold wordI; split <;> simp
  | x :: y :: l => by
    have h1 := word_len l
    have h2 := word_len (y :: l)
    rw [wordI]
    split
    · simp at *; omega
    · split
      · exact Nat.le_refl _
      · simp at *; omega
theorem piece_len (l w r : List Int) (h : pieceI l = some (w, r)) : r.length ≤ l.length := by
  have h1 := (piece_ok l w r h).1
  have h2 := word_len l
  rw [h1] at h2
  exact h2
/-- One variable at the front. -/
def stepW (l : List Int) : Option (Vr × List Int) :=
  match l with
  | [] => none
  | x :: l => if x ≠ 0 ∧ x ≠ 3 then none else
    let p := wordI l
    if p.2[0]? = some 1 then let q := wordI (p.2.drop 1); some ((strOfNums p.1, strOfNums q.1, decide (x = 3), true), q.2)
    else some ((strOfNums p.1, ⟨#[]⟩, decide (x = 3), false), p.2)
def stepP (l : List Int) : Option (Vr × List Int) :=
  match l with
  | [] => none
  | x :: l => if x ≠ 0 ∧ x ≠ 3 then none else
    match pieceI l with
    | none => none
    | some p => if p.2[0]? = some 1 then match pieceI (p.2.drop 1) with
        | none => none
        | some q => some ((strOfNums p.1, strOfNums q.1, decide (x = 3), true), q.2)
      else some ((strOfNums p.1, ⟨#[]⟩, decide (x = 3), false), p.2)
def many (st : List Int → Option (Vr × List Int)) : Nat → List Int → Option (List Vr)
  | _, [] => some []
  | 0, _ :: _ => none
  | m + 1, x :: l => match st (x :: l) with
    | none => none
    | some (v, r) => (many st m r).map (v :: ·)
theorem escI_mem {w : List Int} {x : Int} (h : x ∈ w) : x ∈ escI w := by
  unfold escI
  rw [List.mem_flatMap]
  refine ⟨x, h, ?_⟩
  split <;> simp
theorem escI_oct {w : List Int} (h : ∀ x ∈ w, 0 ≤ x ∧ x ≤ 255) : ∀ x ∈ escI w, 0 ≤ x ∧ x ≤ 255 := by
  intro x hx
  unfold escI at hx
  obtain ⟨y, hy, hx⟩ := List.mem_flatMap.1 hx
  have := h y hy
  split at hx
  · simp at hx; omega
  · simp at hx; omega
theorem vI_oct (v : Vr) : ∀ x ∈ vI v, 0 ≤ x ∧ x ≤ 255 := by
  intro x hx
  unfold vI at hx
  rcases List.mem_cons.1 hx with rfl | hx
  · split <;> omega
  · rcases List.mem_append.1 hx with hx | hx
    · exact escI_oct (nums_bound _) x hx
    · split at hx
      · rcases List.mem_cons.1 hx with rfl | hx
        · omega
        · exact escI_oct (nums_bound _) x hx
      · simp at hx
theorem varsI_oct (L : List Vr) : ∀ x ∈ varsI L, 0 ≤ x ∧ x ≤ 255 := by
  intro x hx
  obtain ⟨v, -, hx⟩ := List.mem_flatMap.1 hx
  exact vI_oct v x hx
theorem stepP_ok {l : List Int} {v : Vr} {r : List Int} (h : stepP l = some (v, r)) (hb : ∀ x ∈ l, 0 ≤ x ∧ x ≤ 255) : stepW l = some (v, r) ∧ l = vI v ++ r ∧ formV v = false ∧ r.length < l.length := by
  cases l with
  | nil => cases h
  | cons x l =>
    unfold stepP at h
    unfold stepW
    simp only at h ⊢
    split at h
    · cases h
    · rename_i h0
      have hb2 : ∀ y ∈ l, 0 ≤ y ∧ y ≤ 255 := fun y hy => hb y (List.mem_cons_of_mem _ hy)
      rw [if_neg h0]
      cases hp : pieceI l with
      | none => rw [hp] at h; cases h
      | some p =>
        rw [hp] at h
        simp only at h
        obtain ⟨e1, e2, e3⟩ := piece_ok l p.1 p.2 hp
        have hl := piece_len l p.1 p.2 hp
        have hw1 : ∀ y ∈ p.1, 0 ≤ y ∧ y ≤ 255 := fun y hy => hb2 y (by rw [e2]; exact List.mem_append_left _ (escI_mem hy))
        rw [e1]
        have hx3 : (if decide (x = 3) = true then (3 : Int) else 0) = x := by
          by_cases h3 : x = 3
          · simp [h3]
          · have : x = 0 := by omega
            simp [this]
        split at h
        · rename_i h1
          cases hq : pieceI (p.2.drop 1) with
          | none => rw [hq] at h; cases h
          | some q =>
            rw [hq] at h
            simp only [Option.some.injEq, Prod.mk.injEq] at h
            obtain ⟨rfl, rfl⟩ := h
            obtain ⟨f1, f2, f3⟩ := piece_ok _ q.1 q.2 hq
            have hl2 := piece_len _ q.1 q.2 hq
            have hp2 : p.2 = 1 :: p.2.drop 1 := by
              cases hc : p.2 with
              | nil => rw [hc] at h1; simp at h1
              | cons a t => rw [hc] at h1; simp at h1; rw [h1]; rfl
            have hb3 : ∀ y ∈ p.2, 0 ≤ y ∧ y ≤ 255 := fun y hy => hb2 y (by rw [e2]; exact List.mem_append_right _ hy)
            have hw2 : ∀ y ∈ q.1, 0 ≤ y ∧ y ≤ 255 := fun y hy => hb3 y (by rw [hp2, f2]; exact List.mem_cons_of_mem _ (List.mem_append_left _ (escI_mem hy)))
            refine ⟨?_, ?_, rfl, ?_⟩
            · rw [if_pos h1, f1]
            · unfold vI
              simp only [if_true, nums_strOf hw1, nums_strOf hw2]
              rw [hx3, List.cons_append, List.append_assoc, List.cons_append, ← f2, ← hp2, ← e2]
            · have : (p.2.drop 1).length ≤ p.2.length := by simp
              simp only [List.length_cons]; omega
        · rename_i h1
          simp only [Option.some.injEq, Prod.mk.injEq] at h
          obtain ⟨rfl, rfl⟩ := h
          refine ⟨?_, ?_, rfl, by simp only [List.length_cons]; omega⟩
          · rw [if_neg h1]
          · unfold vI
            simp only [Bool.false_eq_true, if_false, List.append_nil, nums_strOf hw1]
            rw [hx3, List.cons_append, ← e2]
theorem stepP_inv (v : Vr) (r : List Int) (hf : formV v = false) (hr : ∀ x, r[0]? = some x → x = 0 ∨ x = 3) : stepP (vI v ++ r) = some (v, r) := by
  obtain ⟨n, w, u, st⟩ := v
  have hm : markI r := fun x hx => by have := hr x hx; omega
  have hne : ¬ r[0]? = some 1 := fun h => by have := hr 1 h; omega
  have hu : (if u = true then (3 : Int) else 0) = 0 ∨ (if u = true then (3 : Int) else 0) = 3 := by cases u <;> simp
  have hd : decide ((if u = true then (3 : Int) else 0) = 3) = u := by cases u <;> rfl
  unfold vI stepP
  dsimp only
  rw [List.cons_append]
  simp only
  rw [if_neg (by omega), hd]
  cases st with
  | false =>
    have hw : w = ⟨#[]⟩ := by simpa [formV] using hf
    subst hw
    rw [if_neg (by decide), List.append_nil, piece_esc _ _ hm]
    simp only
    rw [if_neg hne, strOf_nums]
  | true =>
    rw [if_pos rfl, List.append_assoc, List.cons_append, piece_esc (nums n) _ (fun x hx => by simp at hx; omega)]
    simp only [List.getElem?_cons_zero, if_true, List.drop_succ_cons, List.drop_zero]
    rw [piece_esc _ _ hm]
    simp only [strOf_nums]
theorem many_ok : ∀ (m : Nat) (l : List Int) (L : List Vr), many stepP m l = some L → (∀ x ∈ l, 0 ≤ x ∧ x ≤ 255) → many stepW m l = some L ∧ varsI L = l ∧ ∀ v ∈ L, formV v = false
  | m, [], L, h, _ => by
    have hL : L = [] := by cases m <;> simpa [many] using h.symm
    subst hL
    exact ⟨by cases m <;> rfl, rfl, fun v hv => by simp at hv⟩
  | 0, x :: l, L, h, _ => by cases h
  | m + 1, x :: l, L, h, hb => by
    unfold many at h ⊢
    cases hs : stepP (x :: l) with
    | none => rw [hs] at h; cases h
    | some p =>
      obtain ⟨v, r⟩ := p
      rw [hs] at h
      simp only at h
      obtain ⟨e1, e2, e3, -⟩ := stepP_ok hs hb
      cases hm : many stepP m r with
      | none => rw [hm] at h; cases h
      | some M =>
        rw [hm] at h
        simp only [Option.map_some, Option.some.injEq] at h
        subst h
        obtain ⟨f1, f2, f3⟩ := many_ok m r M hm (fun y hy => hb y (by rw [e2]; exact List.mem_append_right _ hy))
        rw [e1]
        simp only
        rw [f1]
        refine ⟨rfl, ?_, fun w hw => ?_⟩
        · show vI v ++ varsI M = _
          rw [f2, ← e2]
        · rcases List.mem_cons.1 hw with rfl | hw
          · exact e3
          · exact f3 w hw
theorem varsI_head (L : List Vr) : ∀ x, (varsI L)[0]? = some x → x = 0 ∨ x = 3 := by
  intro x hx
  cases L with
  | nil => simp [varsI] at hx
  | cons v L =>
    have : (varsI (v :: L))[0]? = some (if v.2.2.1 then 3 else 0) := rfl
    rw [this] at hx
    simp only [Option.some.injEq] at hx
    subst hx
    split <;> simp
theorem varsI_len (L : List Vr) : L.length ≤ (varsI L).length := by
  unfold varsI
  induction L with
  | nil => exact Nat.le_refl _
  | cons v L ih =>
    rw [List.flatMap_cons, List.length_append, List.length_cons]
    have : 1 ≤ (vI v).length := by unfold vI; simp
    omega
theorem many_inv : ∀ (L : List Vr) (m : Nat), L.length ≤ m → (∀ v ∈ L, formV v = false) → many stepP m (varsI L) = some L
  | [], m, _, _ => by cases m <;> rfl
  | v :: L, 0, h, _ => by simp at h
  | v :: L, m + 1, h, hf => by
    have e : varsI (v :: L) = vI v ++ varsI L := rfl
    have hs := stepP_inv v (varsI L) (hf v List.mem_cons_self) (varsI_head L)
    rw [← e] at hs
    have hi := many_inv L m (by simpa using h) (fun w hw => hf w (List.mem_cons_of_mem _ hw))
    cases hc : varsI (v :: L) with
    | nil => have := varsI_len (v :: L); rw [hc] at this; simp at this
    | cons a t =>
      rw [hc] at hs
      rw [many, hs]
      simp only
      rw [hi]; rfl
def readW (s : ByteArray) : List Vr × Int :=
  if 4096 < s.size then ([], 2) else match many stepW s.size (nums s) with
    | none => ([], 4)
    | some out => if (writeV out).2 ≠ 0 ∨ (writeV out).1 ≠ s then ([], 4) else (out, 0)
def readP (s : ByteArray) : List Vr × Int :=
  if 4096 < s.size then ([], 2) else match many stepP s.size (nums s) with
    | none => ([], 4)
    | some out => if (writeV out).2 ≠ 0 then ([], 4) else (out, 0)
theorem read_same (s : ByteArray) : readW s = readP s := by
  unfold readW readP
  split
  · rfl
  · cases hP : many stepP s.size (nums s) with
    | some L =>
      obtain ⟨h1, h2, h3⟩ := many_ok _ _ L hP (nums_bound s)
      rw [h1]
      simp only
      by_cases hz : (writeV L).2 = 0
      · have h4 := (writeV_zero hz).1
        rw [h2, strOf_nums] at h4
        rw [if_neg (by simp [hz, h4]), if_neg (by simp [hz])]
      · rw [if_pos (.inl hz), if_pos hz]
    | none =>
      cases hW : many stepW s.size (nums s) with
      | none => rfl
      | some out =>
        simp only
        by_cases hz : (writeV out).2 ≠ 0 ∨ (writeV out).1 ≠ s
        · rw [if_pos hz]
        · exfalso
          have hz1 : (writeV out).2 = 0 := Classical.byContradiction fun h => hz (.inl h)
          have hz2 : (writeV out).1 = s := Classical.byContradiction fun h => hz (.inr h)
          obtain ⟨h1, h2⟩ := writeV_zero hz1
          rw [hz2] at h1
          have h3 : nums s = varsI out := by rw [h1, nums_strOf (varsI_oct out)]
          have h4 := many_inv out s.size (by rw [← nums_length, h3]; exact varsI_len out) h2
          rw [h3, h4] at hP
          cases hP
end Go.Fw
