/- Commands in a stream of bytes: plain. -/
import Derived.Test.YthllelffblpdkaaDoorIacP
import Derived.Test.YthllelffblpdkaaDoorSxC
import Derived.Test.YthllelffblpdkaaDoorNvtP
namespace Go.Fw
open Go Go.RowKit Go.Sx
/-- A receiver: mode, command, option, whether the words are too many, the words; the data, the tokens. -/
structure Rc where
  mode : Int
  cmd : Int
  opt : Int
  over : Bool
  buf : List Int
  data : List Int
  out : List Tk
abbrev noB : ByteArray := ⟨#[]⟩
def dtok (l : List Int) : Tk := (1, 0, 0, strOfNums l)
namespace Rc
def flush (r : Rc) : Rc := if r.data = [] then r else { r with data := [], out := r.out ++ [dtok r.data] }
def tok (r : Rc) (t : Tk) : Rc := { r.flush with out := r.flush.out ++ [t] }
def sub (r : Rc) (c : Int) : Rc := if r.buf.length = 4096 then { r with buf := [], over := true } else if r.over = true then r else { r with buf := r.buf ++ [c] }
def finT (r : Rc) (c : Int) : Tk := if c = 240 then (if r.over = true then (5, 250, r.opt, noB) else (4, 0, r.opt, strOfNums r.buf)) else (5, c, r.opt, noB)
def fin (r : Rc) (c : Int) : Rc := { r.tok (r.finT c) with mode := 0, cmd := 0, opt := 0, over := false, buf := [] }
def com (r : Rc) (c : Int) : Rc :=
  if c = 255 then { r with mode := 0, data := r.data ++ [c] } else if 251 ≤ c then { r with mode := 2, cmd := c } else if c = 250 then { r with mode := 3 }
  else if 240 ≤ c then { r.tok (2, c, 0, noB) with mode := 0 } else { r.tok (5, c, 0, noB) with mode := 0 }
def take (r : Rc) (c : Int) : Rc :=
  if r.mode = 0 then (if c = 255 then { r with mode := 1 } else { r with data := r.data ++ [c] })
  else if r.mode = 1 then r.com c
  else if r.mode = 2 then { r.tok (3, r.cmd, c, noB) with mode := 0, cmd := 0 }
  else if r.mode = 3 then { r with mode := 4, opt := c }
  else if r.mode = 4 then (if c = 255 then { r with mode := 5 } else r.sub c)
  else if c = 255 then ({ r with mode := 4 } : Rc).sub c else r.fin c
def clean (r : Rc) : Prop := r.mode = 0 ∧ r.cmd = 0 ∧ r.opt = 0 ∧ r.over = false ∧ r.buf = []
/-- Within words: those so far. -/
def words (r : Rc) (m o : Int) (acc : List Int) : Rc := { r with mode := m, opt := o, over := decide (4096 < acc.length), buf := if 4096 < acc.length then [] else acc }
theorem sub_words (r : Rc) (o : Int) (acc : List Int) (c : Int) : (r.words 4 o acc).sub c = r.words 4 o (acc ++ [c]) := by
  unfold sub words
  have hl : (acc ++ [c]).length = acc.length + 1 := by simp
  by_cases h : 4096 < acc.length
  · have h2 : 4096 < (acc ++ [c]).length := by omega
    simp [h]
    omega
  · by_cases h3 : acc.length = 4096
    · have h2 : 4096 < (acc ++ [c]).length := by omega
      simp [h3]
    · have h2 : ¬ 4096 < (acc ++ [c]).length := by omega
      simp [h, h3]
      omega
theorem t0 {r : Rc} (h : r.mode = 0) (c : Int) : r.take c = if c = 255 then { r with mode := 1 } else { r with data := r.data ++ [c] } := by unfold take; rw [if_pos h]
theorem t1 {r : Rc} (h : r.mode = 1) (c : Int) : r.take c = r.com c := by unfold take; rw [if_neg (by rw [h]; decide), if_pos h]
theorem t2 {r : Rc} (h : r.mode = 2) (c : Int) : r.take c = { r.tok (3, r.cmd, c, noB) with mode := 0, cmd := 0 } := by unfold take; rw [if_neg (by rw [h]; decide), if_neg (by rw [h]; decide), if_pos h]
theorem t3 {r : Rc} (h : r.mode = 3) (c : Int) : r.take c = { r with mode := 4, opt := c } := by unfold take; rw [if_neg (by rw [h]; decide), if_neg (by rw [h]; decide), if_neg (by rw [h]; decide), if_pos h]
theorem t4 {r : Rc} (h : r.mode = 4) (c : Int) : r.take c = if c = 255 then { r with mode := 5 } else r.sub c := by unfold take; rw [if_neg (by rw [h]; decide), if_neg (by rw [h]; decide), if_neg (by rw [h]; decide), if_neg (by rw [h]; decide), if_pos h]
theorem t5 {r : Rc} (h : r.mode = 5) (c : Int) : r.take c = if c = 255 then ({ r with mode := 4 } : Rc).sub c else r.fin c := by unfold take; rw [if_neg (by rw [h]; decide), if_neg (by rw [h]; decide), if_neg (by rw [h]; decide), if_neg (by rw [h]; decide), if_neg (by rw [h]; decide)]
end Rc
def iacE (l : List Int) : List Int := l.flatMap fun b => if b = 255 then [255, 255] else [b]
theorem iacE_cons (x : Int) (l : List Int) : iacE (x :: l) = (if x = 255 then [255, 255] else [x]) ++ iacE l := rfl
theorem iacE_len (l : List Int) : (iacE l).length ≤ 2 * l.length := by
  induction l with
  | nil => exact Nat.le_refl _
  | cons b l ih =>
    rw [iacE_cons, List.length_append, List.length_cons]
    have : (if b = 255 then [(255 : Int), 255] else [b]).length ≤ 2 := by split <;> simp
    omega
theorem words_esc (r : Rc) (hr : r.cmd = 0) (o : Int) : ∀ (e acc : List Int), (iacE e).foldl Rc.take (r.words 4 o acc) = r.words 4 o (acc ++ e)
  | [], acc => by simp [iacE]
  | x :: e, acc => by
    rw [iacE_cons]
    by_cases h : x = 255
    · subst h
      rw [if_pos rfl, List.foldl_append]
      have h1 : List.foldl Rc.take (r.words 4 o acc) [255, 255] = r.words 4 o (acc ++ [255]) := by
        rw [← Rc.sub_words]; rfl
      rw [h1, words_esc r hr o e, List.append_assoc]; rfl
    · rw [if_neg h, List.foldl_append]
      have h1 : List.foldl Rc.take (r.words 4 o acc) [x] = r.words 4 o (acc ++ [x]) := by
        rw [← Rc.sub_words]
        show Rc.take (r.words 4 o acc) x = _
        rw [Rc.t4 rfl, if_neg h]
      rw [h1, words_esc r hr o e, List.append_assoc]; rfl
/-- The words of a token, to their end: the closing byte, the words, how many bytes. -/
def unT (acc : List Int) (n : Nat) : List Int → Option (Int × List Int × Nat)
  | [] => none
  | [_] => none
  | x :: y :: l => if x = 255 then (if y = 255 then unT (acc ++ [255]) (n + 2) l else some (y, acc, n + 2)) else unT (acc ++ [x]) (n + 1) (y :: l)
/-- The token at the front, and how many bytes. -/
def tokL (l : List Int) : Option (Tk × Nat) :=
  match l with
  | [] => none
  | x :: r => if x ≠ 255 then some (dtok [x], 1) else match r with
    | [] => none
    | c :: r => if c = 255 then some (dtok [255], 2) else if c < 240 then some ((5, c, 0, noB), 2) else if c < 250 then some ((2, c, 0, noB), 2) else match r with
      | [] => none
      | o :: r => if 250 < c then some ((3, c, o, noB), 3) else match unT [] 3 r with
        | none => none
        | some (y, acc, n) => if y = 240 then (if acc.length ≤ 4096 then some ((4, 0, o, strOfNums acc), n) else some ((5, 250, o, noB), n)) else some ((5, y, o, noB), n)
/-- Words that end. -/
theorem unT_some : ∀ (l acc : List Int) (n : Nat) (y : Int) (a : List Int) (m : Nat), unT acc n l = some (y, a, m) → ∃ e, a = acc ++ e ∧ y ≠ 255 ∧ l.take (m - n) = iacE e ++ [255, y] ∧ m - n ≤ l.length ∧ n + 2 ≤ m
  | [], acc, n, y, a, m, h => by simp [unT] at h
  | [_], acc, n, y, a, m, h => by simp [unT] at h
  | x :: z :: l, acc, n, y, a, m, h => by
    rw [unT] at h
    by_cases hx : x = 255
    · rw [if_pos hx] at h
      by_cases hz : z = 255
      · rw [if_pos hz] at h
        obtain ⟨e, h1, h2, h3, h4, h5⟩ := unT_some l _ _ _ _ _ h
        refine ⟨255 :: e, by rw [h1]; simp, h2, ?_, by simp only [List.length_cons]; omega, by omega⟩
        rw [show m - n = (m - (n + 2)) + 1 + 1 from by omega, List.take_succ_cons, List.take_succ_cons, h3, iacE_cons, if_pos rfl, hx, hz]
        rfl
      · rw [if_neg hz] at h
        simp only [Option.some.injEq, Prod.mk.injEq] at h
        obtain ⟨rfl, rfl, rfl⟩ := h
        refine ⟨[], by simp, hz, ?_, by simp only [List.length_cons]; omega, by omega⟩
        rw [show n + 2 - n = 0 + 1 + 1 from by omega, List.take_succ_cons, List.take_succ_cons, hx]
        rfl
    · rw [if_neg hx] at h
      obtain ⟨e, h1, h2, h3, h4, h5⟩ := unT_some (z :: l) _ _ _ _ _ h
      refine ⟨x :: e, by rw [h1]; simp, h2, ?_, by simp only [List.length_cons] at *; omega, by omega⟩
      rw [show m - n = (m - (n + 1)) + 1 from by omega, List.take_succ_cons, h3, iacE_cons, if_neg hx]
      rfl
/-- Words that don't. -/
theorem unT_none : ∀ (l acc : List Int) (n : Nat), unT acc n l = none → ∃ (e : List Int) (p : Bool), l = iacE e ++ (if p = true then [255] else [])
  | [], acc, n, h => ⟨[], false, rfl⟩
  | [x], acc, n, h => by
    by_cases hx : x = 255
    · exact ⟨[], true, by rw [hx]; rfl⟩
    · exact ⟨[x], false, by simp [iacE, hx]⟩
  | x :: z :: l, acc, n, h => by
    rw [unT] at h
    by_cases hx : x = 255
    · rw [if_pos hx] at h
      by_cases hz : z = 255
      · rw [if_pos hz] at h
        obtain ⟨e, p, h1⟩ := unT_none l _ _ h
        exact ⟨255 :: e, p, by rw [iacE_cons, if_pos rfl, hx, hz, List.append_assoc, ← h1]; rfl⟩
      · rw [if_neg hz] at h; cases h
    · rw [if_neg hx] at h
      obtain ⟨e, p, h1⟩ := unT_none (z :: l) _ _ h
      exact ⟨x :: e, p, by rw [iacE_cons, if_neg hx, List.append_assoc, ← h1]; rfl⟩
/-- A token is pushed. -/
def Rc.push (r : Rc) (t : Tk) : Rc := if t.1 = 1 then { r with data := r.data ++ nums t.2.2.2 } else r.tok t
theorem tok_wire (r : Rc) (t : Tk) : (r.tok t).mode = r.mode ∧ (r.tok t).cmd = r.cmd ∧ (r.tok t).opt = r.opt ∧ (r.tok t).over = r.over ∧ (r.tok t).buf = r.buf := by
  unfold Rc.tok Rc.flush
  split <;> exact ⟨rfl, rfl, rfl, rfl, rfl⟩
theorem push_clean {r : Rc} (h : r.clean) (t : Tk) : (r.push t).clean := by
  unfold Rc.push
  split
  · exact h
  · obtain ⟨h1, h2, h3, h4, h5⟩ := h
    obtain ⟨e1, e2, e3, e4, e5⟩ := tok_wire r t
    exact ⟨e1.trans h1, e2.trans h2, e3.trans h3, e4.trans h4, e5.trans h5⟩
theorem rc_ext {r q : Rc} (h1 : r.mode = q.mode) (h2 : r.cmd = q.cmd) (h3 : r.opt = q.opt) (h4 : r.over = q.over) (h5 : r.buf = q.buf) (h6 : r.data = q.data) (h7 : r.out = q.out) : r = q := by
  cases r; cases q; simp_all
/-- A wire set back. -/
theorem set_clean {r q : Rc} (h : r.clean) (e1 : q.data = r.data) (e2 : q.out = r.out) : ({ q with mode := 0, cmd := 0, opt := 0, over := false, buf := [] } : Rc) = r := by
  obtain ⟨h1, h2, h3, h4, h5⟩ := h
  exact rc_ext h1.symm h2.symm h3.symm h4.symm h5.symm e1 e2
theorem tok_same {r q : Rc} (t : Tk) (e1 : q.data = r.data) (e2 : q.out = r.out) : (q.tok t).data = (r.tok t).data ∧ (q.tok t).out = (r.tok t).out := by
  unfold Rc.tok Rc.flush
  rw [e1]
  split
  · exact ⟨e1, by dsimp only; rw [e2]⟩
  · exact ⟨rfl, by dsimp only; rw [e2]⟩
theorem nums_one (x : Int) (h : 0 ≤ x ∧ x ≤ 255) : nums (strOfNums [x]) = [x] := nums_strOf (fun y hy => by rw [List.mem_singleton] at hy; subst hy; exact ⟨h.1, h.2⟩)
/-- A whole token, read byte by byte. -/
theorem tokL_some {l : List Int} (ho : ∀ x ∈ l, 0 ≤ x ∧ x ≤ 255) {t : Tk} {n : Nat} (h : tokL l = some (t, n)) {r : Rc} (hr : r.clean) : 0 < n ∧ n ≤ l.length ∧ (l.take n).foldl Rc.take r = r.push t := by
  have hr' := hr
  obtain ⟨h1, h2, h3, h4, h5⟩ := hr
  have base : ∀ (q : Rc) (t : Tk), t.1 ≠ 1 → q.data = r.data → q.out = r.out → ({ q.tok t with mode := 0, cmd := 0, opt := 0, over := false, buf := [] } : Rc) = r.push t := fun q t ht e1 e2 => by
    obtain ⟨e3, e4⟩ := tok_same t e1 e2
    unfold Rc.push
    rw [if_neg ht]
    obtain ⟨f1, f2, f3, f4, f5⟩ := tok_wire r t
    exact rc_ext (f1.trans h1).symm (f2.trans h2).symm (f3.trans h3).symm (f4.trans h4).symm (f5.trans h5).symm e3 e4
  have base2 : ∀ (q : Rc) (t : Tk), t.1 ≠ 1 → q.cmd = 0 → q.opt = 0 → q.over = false → q.buf = [] → q.data = r.data → q.out = r.out → ({ q.tok t with mode := 0 } : Rc) = r.push t := fun q t ht g2 g3 g4 g5 e1 e2 => by
    rw [← base q t ht e1 e2]
    obtain ⟨f1, f2, f3, f4, f5⟩ := tok_wire q t
    exact rc_ext rfl (f2.trans g2) (f3.trans g3) (f4.trans g4) (f5.trans g5) rfl rfl
  cases l with
  | nil => cases h
  | cons x l =>
    unfold tokL at h
    dsimp only at h
    by_cases hx : x = 255
    · rw [if_neg (by simpa using hx)] at h
      subst hx
      have s1 : Rc.take r 255 = { r with mode := 1 } := by rw [Rc.t0 h1, if_pos rfl]
      cases l with
      | nil => cases h
      | cons c l =>
        dsimp only at h
        by_cases hc : c = 255
        · rw [if_pos hc] at h
          cases h
          subst hc
          refine ⟨by omega, by simp, ?_⟩
          show Rc.take (Rc.take r 255) 255 = _
          rw [s1]
          unfold Rc.push dtok
          rw [if_pos rfl, nums_one 255 (by decide)]
          exact rc_ext h1.symm rfl rfl rfl rfl rfl rfl
        rw [if_neg hc] at h
        by_cases hc2 : c < 240
        · rw [if_pos hc2] at h
          cases h
          refine ⟨by omega, by simp, ?_⟩
          show Rc.take (Rc.take r 255) c = _
          rw [s1, ← base2 { r with mode := 1 } (5, c, 0, noB) (show (5 : Int) ≠ 1 by decide) h2 h3 h4 h5 rfl rfl]
          rw [Rc.t1 rfl]
          unfold Rc.com
          rw [if_neg hc, if_neg (by omega), if_neg (by omega), if_neg (by omega)]
        rw [if_neg hc2] at h
        by_cases hc3 : c < 250
        · rw [if_pos hc3] at h
          cases h
          refine ⟨by omega, by simp, ?_⟩
          show Rc.take (Rc.take r 255) c = _
          rw [s1, ← base2 { r with mode := 1 } (2, c, 0, noB) (show (2 : Int) ≠ 1 by decide) h2 h3 h4 h5 rfl rfl]
          rw [Rc.t1 rfl]
          unfold Rc.com
          rw [if_neg hc, if_neg (by omega), if_neg (by omega), if_pos (by omega)]
        rw [if_neg hc3] at h
        cases l with
        | nil => cases h
        | cons o l =>
          dsimp only at h
          by_cases hc4 : 250 < c
          · rw [if_pos hc4] at h
            cases h
            refine ⟨by omega, by simp, ?_⟩
            show Rc.take (Rc.take (Rc.take r 255) c) o = _
            have s2 : Rc.take { r with mode := 1 } c = { r with mode := 2, cmd := c } := by
              rw [Rc.t1 rfl]
              unfold Rc.com
              rw [if_neg hc, if_pos (by omega)]
            rw [s1, s2, ← base { r with mode := 2, cmd := c } (3, c, o, noB) (show (3 : Int) ≠ 1 by decide) rfl rfl]
            rw [Rc.t2 rfl]
            obtain ⟨f1, f2, f3, f4, f5⟩ := tok_wire { r with mode := 2, cmd := c } (3, c, o, noB)
            exact rc_ext rfl rfl (f3.trans h3) (f4.trans h4) (f5.trans h5) rfl rfl
          rw [if_neg hc4] at h
          obtain rfl : c = 250 := by omega
          have s2 : Rc.take { r with mode := 1 } 250 = { r with mode := 3 } := rfl
          have s3 : Rc.take { r with mode := 3 } o = r.words 4 o [] := by
            unfold Rc.words
            exact rc_ext rfl rfl rfl (h4.trans (by rfl)) (h5.trans (by rfl)) rfl rfl
          cases hu : unT [] 3 l with
          | none => rw [hu] at h; cases h
          | some z =>
            obtain ⟨y, acc, m⟩ := z
            rw [hu] at h
            dsimp only at h
            obtain ⟨e, ha, hy, hl, hm, hm2⟩ := unT_some l _ _ _ _ _ hu
            rw [List.nil_append] at ha
            subst ha
            have hn : ((255 : Int) :: 250 :: o :: l).take m = 255 :: 250 :: o :: (iacE acc ++ [255, y]) := by
              rw [show m = (m - 3) + 1 + 1 + 1 from by omega, List.take_succ_cons, List.take_succ_cons, List.take_succ_cons, ← hl]
            have s4 : (((255 : Int) :: 250 :: o :: l).take m).foldl Rc.take r = (r.words 5 o acc).fin y := by
              rw [hn, List.foldl_cons, s1, List.foldl_cons, s2, List.foldl_cons, s3, List.foldl_append, words_esc r h2]
              have h9 : Rc.take (r.words 4 o acc) 255 = r.words 5 o acc := rfl
              show Rc.take (Rc.take (r.words 4 o acc) 255) y = _
              rw [h9]
              rw [Rc.t5 rfl, if_neg hy]
            have hmn : 0 < m ∧ m ≤ ((255 : Int) :: 250 :: o :: l).length := ⟨by omega, by simp only [List.length_cons]; omega⟩
            have key : ∀ t, (r.words 5 o acc).finT y = t → t.1 ≠ 1 → (((255 : Int) :: 250 :: o :: l).take m).foldl Rc.take r = r.push t := fun t ht h0 => by
              rw [s4]
              unfold Rc.fin
              rw [ht]
              exact base (r.words 5 o acc) t h0 rfl rfl
            by_cases hy2 : y = 240
            · rw [if_pos hy2] at h
              by_cases hz : acc.length ≤ 4096
              · rw [if_pos hz] at h
                cases h
                have hz' : ¬ 4096 < acc.length := by omega
                refine ⟨hmn.1, hmn.2, key _ ?_ (show (4 : Int) ≠ 1 by decide)⟩
                unfold Rc.finT Rc.words
                simp [hy2, hz']
              · rw [if_neg hz] at h
                cases h
                have hz' : 4096 < acc.length := by omega
                refine ⟨hmn.1, hmn.2, key _ ?_ (show (5 : Int) ≠ 1 by decide)⟩
                unfold Rc.finT Rc.words
                simp [hy2, hz']
            · rw [if_neg hy2] at h
              cases h
              refine ⟨hmn.1, hmn.2, key _ ?_ (show (5 : Int) ≠ 1 by decide)⟩
              unfold Rc.finT Rc.words
              simp [hy2]
    · rw [if_pos (by simpa using hx)] at h
      cases h
      refine ⟨by omega, by simp, ?_⟩
      show Rc.take r x = _
      unfold Rc.push dtok
      rw [if_pos rfl, nums_one x (ho x List.mem_cons_self)]
      rw [Rc.t0 h1, if_neg hx]
/-- A token that isn't whole: what the bytes are. -/
inductive Part : List Int → Prop where
  | nil : Part []
  | iac : Part [255]
  | neg (c : Int) (h : 251 ≤ c ∧ c ≤ 254) : Part [255, c]
  | sb : Part [255, 250]
  | words (o : Int) (e : List Int) (p : Bool) : Part (255 :: 250 :: o :: (iacE e ++ (if p = true then [255] else [])))
theorem tokL_none {l : List Int} (ho : ∀ x ∈ l, 0 ≤ x ∧ x ≤ 255) (h : tokL l = none) : Part l := by
  cases l with
  | nil => exact .nil
  | cons x l =>
    unfold tokL at h
    dsimp only at h
    by_cases hx : x = 255
    · rw [if_neg (by simpa using hx)] at h
      subst hx
      cases l with
      | nil => exact .iac
      | cons c l =>
        dsimp only at h
        have hcb := ho c (by simp)
        by_cases hc : c = 255
        · rw [if_pos hc] at h; cases h
        rw [if_neg hc] at h
        by_cases hc2 : c < 240
        · rw [if_pos hc2] at h; cases h
        rw [if_neg hc2] at h
        by_cases hc3 : c < 250
        · rw [if_pos hc3] at h; cases h
        rw [if_neg hc3] at h
        cases l with
        | nil =>
          by_cases h9 : c = 250
          · subst h9; exact .sb
          · exact .neg c ⟨by omega, by omega⟩
        | cons o l =>
          dsimp only at h
          by_cases hc4 : 250 < c
          · rw [if_pos hc4] at h; cases h
          rw [if_neg hc4] at h
          obtain rfl : c = 250 := by omega
          cases hu : unT [] 3 l with
          | none =>
            obtain ⟨e, p, rfl⟩ := unT_none l _ _ hu
            exact .words o e p
          | some z =>
            obtain ⟨y, acc, m⟩ := z
            rw [hu] at h
            dsimp only at h
            split at h
            · split at h <;> cases h
            · cases h
    · rw [if_pos (by simpa using hx)] at h; cases h
/-- The wire that it leaves. -/
def wireP (r : Rc) : List Int → Rc
  | [] => r
  | [_] => { r with mode := 1 }
  | [_, c] => if c = 250 then { r with mode := 3 } else { r with mode := 2, cmd := c }
  | _ :: _ :: o :: d => d.foldl Rc.take (r.words 4 o [])
theorem part_fold {l : List Int} (h : Part l) {r : Rc} (hr : r.clean) : l.foldl Rc.take r = wireP r l := by
  obtain ⟨h1, h2, h3, h4, h5⟩ := hr
  have s1 : Rc.take r 255 = { r with mode := 1 } := by rw [Rc.t0 h1, if_pos rfl]
  cases h with
  | nil => rfl
  | iac => exact s1
  | sb => show Rc.take (Rc.take r 255) 250 = _; rw [s1]; rfl
  | neg c h =>
    show Rc.take (Rc.take r 255) c = _
    rw [s1]
    show _ = if c = 250 then { r with mode := 3 } else { r with mode := 2, cmd := c }
    rw [if_neg (by omega)]
    rw [Rc.t1 rfl]
    unfold Rc.com
    rw [if_neg (by omega), if_pos (by omega)]
  | words o e p =>
    rw [List.foldl_cons, s1, List.foldl_cons, List.foldl_cons]
    have s2 : Rc.take { r with mode := 1 } 250 = { r with mode := 3 } := rfl
    have s3 : Rc.take { r with mode := 3 } o = r.words 4 o [] := by
      unfold Rc.words
      exact rc_ext rfl rfl rfl (h4.trans (by rfl)) (h5.trans (by rfl)) rfl rfl
    rw [s2, s3]
    rfl
theorem words_part (r : Rc) (hr : r.cmd = 0) (o : Int) (e : List Int) (p : Bool) : (iacE e ++ (if p = true then [255] else [])).foldl Rc.take (r.words 4 o []) = r.words (if p = true then 5 else 4) o e := by
  rw [List.foldl_append, words_esc r hr, List.nil_append]
  cases p
  · rfl
  · rfl
/-- The tokens read so far, and how far. -/
inductive Pre (l : List Int) : List Tk → Nat → Prop where
  | nil : Pre l [] 0
  | snoc {ts : List Tk} {i n : Nat} {t : Tk} (h : Pre l ts i) (ht : tokL (l.drop i) = some (t, n)) : Pre l (ts ++ [t]) (i + n)
theorem pre_fold {l : List Int} (ho : ∀ x ∈ l, 0 ≤ x ∧ x ≤ 255) {ts : List Tk} {i : Nat} (h : Pre l ts i) {r : Rc} (hr : r.clean) : i ≤ l.length ∧ (l.take i).foldl Rc.take r = ts.foldl Rc.push r ∧ (ts.foldl Rc.push r).clean ∧ ts.length ≤ i := by
  induction h with
  | nil => exact ⟨Nat.zero_le _, rfl, hr, Nat.le_refl _⟩
  | @snoc ts i n t h ht ih =>
    obtain ⟨i1, i2, i3, i4⟩ := ih
    obtain ⟨j1, j2, j3⟩ := tokL_some (fun x hx => ho x (List.mem_of_mem_drop hx)) ht i3
    rw [List.length_drop] at j2
    refine ⟨by omega, ?_, ?_, by rw [List.length_append, List.length_singleton]; omega⟩
    · rw [List.take_add, List.foldl_append, i2, j3, List.foldl_append]; rfl
    · rw [List.foldl_append]; exact push_clean i3 t
theorem tokL_data {l : List Int} (ho : ∀ x ∈ l, 0 ≤ x ∧ x ≤ 255) {t : Tk} {n : Nat} (h : tokL l = some (t, n)) (h1 : t.1 = 1) : ∃ x, t = dtok [x] ∧ 0 ≤ x ∧ x ≤ 255 := by
  cases l with
  | nil => cases h
  | cons x l =>
    unfold tokL at h
    dsimp only at h
    split at h
    · cases h; exact ⟨x, rfl, ho x List.mem_cons_self⟩
    · split at h
      · cases h
      · split at h
        · cases h; exact ⟨255, rfl, by omega, by omega⟩
        · split at h
          · cases h; cases h1
          · split at h
            · cases h; cases h1
            · split at h
              · cases h
              · split at h
                · cases h; cases h1
                · split at h
                  · cases h
                  · split at h
                    · split at h <;> (cases h; cases h1)
                    · cases h; cases h1
theorem pre_data {l : List Int} (ho : ∀ x ∈ l, 0 ≤ x ∧ x ≤ 255) {ts : List Tk} {i : Nat} (h : Pre l ts i) : ∀ t ∈ ts, t.1 = 1 → ∃ x, t = dtok [x] ∧ 0 ≤ x ∧ x ≤ 255 := by
  induction h with
  | nil => intro t ht; cases ht
  | snoc h ht ih =>
    intro t htm
    rcases List.mem_append.1 htm with h1 | h1
    · exact ih t h1
    · rw [List.mem_singleton] at h1
      subst h1
      exact tokL_data (fun x hx => ho x (List.mem_of_mem_drop hx)) ht
def Rc.opn (r : Rc) : Option Tk := if r.data = [] then none else some (dtok r.data)
theorem flush_out (r : Rc) : r.flush.out = r.out ++ r.opn.toList := by
  unfold Rc.flush Rc.opn
  split <;> simp
theorem dtok_ne (x : Int) : ¬ (dtok [x]).2.2.2 = ⟨#[]⟩ := fun h => by
  have := congrArg ByteArray.size h
  change (strOfNums [x]).size = 0 at this
  rw [strOfNums_size] at this
  simp at this
theorem push_mg : ∀ (ts : List Tk) (r : Rc), (∀ t ∈ ts, t.1 = 1 → ∃ x, t = dtok [x] ∧ 0 ≤ x ∧ x ≤ 255) → (ts.foldl Rc.push r).flush.out = r.out ++ mg r.opn ts
  | [], r, _ => by rw [mg_end]; exact flush_out r
  | t :: ts, r, h => by
    rw [List.foldl_cons, push_mg ts _ (fun u hu => h u (List.mem_cons_of_mem _ hu))]
    by_cases h1 : t.1 = 1
    · obtain ⟨x, rfl, hx⟩ := h t List.mem_cons_self h1
      have e1 : r.push (dtok [x]) = { r with data := r.data ++ [x] } := by
        unfold Rc.push
        rw [if_pos h1]
        unfold dtok
        rw [nums_one x hx]
      have e2 : ({ r with data := r.data ++ [x] } : Rc).opn = some (dtok (r.data ++ [x])) := by
        unfold Rc.opn
        rw [if_neg (by simp)]
      rw [e1, e2]
      by_cases hd : r.data = []
      · have e3 : r.opn = none := by unfold Rc.opn; rw [if_pos hd]
        rw [e3, mg_new rfl (dtok_ne x), hd]
        rfl
      · have e3 : r.opn = some (dtok r.data) := by unfold Rc.opn; rw [if_neg hd]
        rw [e3, mg_more rfl (dtok_ne x)]
        have e4 : dtok (r.data ++ [x]) = ((dtok r.data).1, (dtok r.data).2.1, (dtok r.data).2.2.1, (dtok r.data).2.2.2 ++ (dtok [x]).2.2.2) := by
          unfold dtok
          rw [strOfNums_append]
        rw [e4]
    · rw [mg_other h1]
      have e1 : r.push t = r.tok t := by unfold Rc.push; rw [if_neg h1]
      have e2 : (r.tok t).opn = none := by
        unfold Rc.tok Rc.opn Rc.flush
        split
        · dsimp only
        · rw [if_pos rfl]
      have e3 : (r.tok t).out = r.flush.out ++ [t] := rfl
      rw [e1, e2, e3, flush_out, List.append_assoc, List.append_assoc]
      rfl
end Go.Fw
/- A wire of bytes: what is escaped, and the run of 255 at the end. Plain. -/
namespace Go.Fw
open Go Go.RowKit Go.Sx Go.Lib
theorem esc2_back : ∀ e : List UInt8, count (esc2 e) [255, 255] = e.count 255 ∧ replaceK [255, 255] [255] (e.count 255) (esc2 e) = e
  | [] => ⟨by rw [count_miss (by simp [esc2, index])]; rfl, rfl⟩
  | b :: l => by
    obtain ⟨i1, i2⟩ := esc2_back l
    by_cases h : b = 255
    · subst h
      have he : esc2 ((255 : UInt8) :: l) = 255 :: 255 :: esc2 l := rfl
      have hi : index (esc2 ((255 : UInt8) :: l)) [255, 255] = ((0 : Nat) : Int) := by rw [he]; unfold index; simp
      refine ⟨?_, ?_⟩
      · rw [count_hit (by simp) hi, he, List.count_cons_self]
        show 1 + count (esc2 l) [255, 255] = _
        rw [i1]; omega
      · rw [List.count_cons_self, replaceK_hit _ _ _ _ _ hi, he]
        show [] ++ [255] ++ replaceK [255, 255] [255] (List.count 255 l) (esc2 l) = _
        rw [i2]; rfl
    · have he : esc2 (b :: l) = b :: esc2 l := by unfold esc2; rw [List.flatMap_cons, if_neg h]; rfl
      have hp : ([255, 255] : List UInt8).isPrefixOf (b :: esc2 l) = false := by
        have : ((255 : UInt8) == b) = false := beq_eq_false_iff_ne.2 fun e => h e.symm
        simp [List.isPrefixOf, this]
      have hix : index (esc2 (b :: l)) [255, 255] = if index (esc2 l) [255, 255] == -1 then -1 else index (esc2 l) [255, 255] + 1 := by rw [he, index, hp]; simp
      rw [List.count_cons_of_ne h]
      by_cases hm : index (esc2 l) [255, 255] = -1
      · have hc : count (esc2 l) [255, 255] = 0 := count_miss hm
        rw [hm] at hix
        rw [i1] at hc
        rw [hc] at i2 ⊢
        refine ⟨count_miss (by rw [hix]; first | done | rfl), ?_⟩
        have i3 : esc2 l = l := i2
        show esc2 (b :: l) = _
        rw [he, i3]
      · obtain ⟨i, hi⟩ : ∃ i : Nat, index (esc2 l) [255, 255] = i := ⟨(index (esc2 l) [255, 255]).toNat, by have := index_ge (esc2 l) [255, 255]; omega⟩
        have hi2 : index (esc2 (b :: l)) [255, 255] = ((i + 1 : Nat) : Int) := by
          rw [hix, hi]
          have : (((i : Int)) == -1) = false := by simp
          rw [this]; simp
        have c1 := count_hit (sub := [255, 255]) (by simp) hi
        have c2 := count_hit (sub := [255, 255]) (by simp) hi2
        have hd : (esc2 (b :: l)).drop (i + 1 + [(255 : UInt8), 255].length) = (esc2 l).drop (i + [(255 : UInt8), 255].length) := by
          rw [he]; show List.drop (i + 1 + 2) _ = List.drop (i + 2) _
          rw [show i + 1 + 2 = (i + 2) + 1 from by omega, List.drop_succ_cons]
        refine ⟨by rw [c2, hd, ← c1, i1], ?_⟩
        cases hk : List.count 255 l with
        | zero => rw [hk] at i1; omega
        | succ k =>
          rw [hk] at i2
          rw [replaceK_hit _ _ _ _ _ hi2, hd, he, List.take_succ_cons]
          rw [replaceK_hit _ _ _ _ _ hi] at i2
          show b :: _ ++ _ ++ _ = _
          rw [List.cons_append, List.cons_append, i2]
theorem esc2_all (e : List UInt8) : replaceAll (esc2 e) [255, 255] [255] = e := by
  obtain ⟨i1, i2⟩ := esc2_back e
  unfold replaceAll replace replaceNum
  rw [if_neg (by decide), if_pos (Or.inl (by decide)), i1, i2]
/-- The run of 255 at a list's head. -/
def run255 : List Int → Nat
  | [] => 0
  | x :: l => if x = 255 then run255 l + 1 else 0
theorem run_le : ∀ l, run255 l ≤ l.length
  | [] => Nat.le_refl _
  | x :: l => by unfold run255; have := run_le l; rw [List.length_cons]; split <;> omega
theorem run_in : ∀ (l : List Int) (k : Nat), k < run255 l → l[k]? = some 255
  | [], k, h => by simp [run255] at h
  | x :: l, k, h => by
    unfold run255 at h
    split at h
    · rename_i hx
      cases k with
      | zero => rw [hx]; rfl
      | succ k => rw [List.getElem?_cons_succ]; exact run_in l k (by omega)
    · omega
theorem run_out : ∀ (l : List Int), ¬ l[run255 l]? = some 255
  | [] => by simp
  | x :: l => by
    unfold run255
    split
    · rw [List.getElem?_cons_succ]; exact run_out l
    · rename_i hx
      intro e
      exact hx (by simpa using e)
theorem iacE_app (a b : List Int) : iacE (a ++ b) = iacE a ++ iacE b := List.flatMap_append
theorem run_esc (e : List Int) : run255 (iacE e).reverse % 2 = 0 := by
  rw [← List.reverse_reverse e]
  generalize e.reverse = f
  induction f with
  | nil => rfl
  | cons x f ih =>
    rw [List.reverse_cons, iacE_app, List.reverse_append]
    by_cases hx : x = 255
    · subst hx
      show run255 (255 :: 255 :: (iacE f.reverse).reverse) % 2 = 0
      rw [run255, if_pos rfl, run255, if_pos rfl]
      omega
    · have : iacE [x] = [x] := by unfold iacE; simp [hx]
      rw [this]
      show run255 (x :: (iacE f.reverse).reverse) % 2 = 0
      rw [run255, if_neg hx]
theorem run_part (e : List Int) (p : Bool) : run255 (iacE e ++ (if p = true then [255] else [])).reverse % 2 = if p = true then 1 else 0 := by
  have h := run_esc e
  cases p with
  | false => simpa using h
  | true =>
    rw [if_pos rfl, List.reverse_append]
    show run255 (255 :: (iacE e).reverse) % 2 = _
    rw [run255, if_pos rfl, if_pos rfl]
    omega
theorem iacE_nums (d : ByteArray) : nums (escS d) = iacE (nums d) := by
  have : (escS d).data.toList = esc2 d.data.toList := List.toList_toArray
  unfold nums
  rw [this]
  generalize d.data.toList = l
  induction l with
  | nil => rfl
  | cons b l ih =>
    have h1 : esc2 (b :: l) = (if b = 255 then [255, 255] else [b]) ++ esc2 l := rfl
    have h2 : iacE ((b.toNat : Int) :: l.map fun x => (x.toNat : Int)) = (if (b.toNat : Int) = 255 then [255, 255] else [(b.toNat : Int)]) ++ iacE (l.map fun x => (x.toNat : Int)) := rfl
    rw [h1, List.map_append, ih, List.map_cons, h2]
    congr 1
    by_cases hb : b = 255
    · subst hb; rfl
    · rw [if_neg hb, if_neg (fun e => hb (UInt8.toNat_inj.1 (show b.toNat = 255 by omega)))]
      rfl
/-- Unescaped. -/
theorem unesc (e : List Int) (he : ∀ x ∈ e, 0 ≤ x ∧ x ≤ 255) : (⟨(Lib.replaceAll (strOfNums (iacE e)).data.toList [255, 255] [255]).toArray⟩ : ByteArray) = strOfNums e := by
  have h1 : strOfNums (iacE e) = escS (strOfNums e) := nums_inj (by
    rw [iacE_nums, nums_strOf he, nums_strOf]
    intro x hx
    unfold iacE at hx
    rw [List.mem_flatMap] at hx
    obtain ⟨y, hy, hxy⟩ := hx
    have := he y hy
    split at hxy
    · simp at hxy; omega
    · simp at hxy; omega)
  have h2 : (escS (strOfNums e)).data.toList = esc2 (strOfNums e).data.toList := List.toList_toArray
  rw [h1, h2, esc2_all]
end Go.Fw
