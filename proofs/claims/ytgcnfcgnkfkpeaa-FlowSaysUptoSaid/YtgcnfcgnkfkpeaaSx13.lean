/- Regions that draw their order and make or change memory: what only reads is taken first, the rest goes in whatever order. -/
import Derived.Test.YtgcnfcgnkfkpeaaSx12
import Derived.OrdersHeld
namespace Go.Sx
open Go Go.RowKit Go.Fw
/-- Out the plain way alone. -/
def np (Q : Exit → Act → World → Prop) : Exit → Act → World → Prop
  | .normal, a, w => Q .normal a w
  | _, _, _ => False
theorem np_imp {Q : Exit → Act → World → Prop} : ∀ e a w, np Q e a w → Q e a w := fun e a w h => by
  cases e <;> first | exact h | exact (h : False).elim
def mkL (m : Nat) (done : List Nat) : Array Bool := ((List.range m).map fun j => done.contains j).toArray
theorem mkL_nil (m : Nat) : mkL m [] = Array.replicate m false := by
  apply Array.toList_inj.1
  simp [mkL, List.map_const']
theorem mkL_set (m i : Nat) (done : List Nat) : (mkL m done).setIfInBounds i true = mkL m (i :: done) := by
  apply Array.ext
  · simp [mkL]
  · intro j h1 h2
    simp only [mkL, List.size_toArray, List.length_map, List.length_range] at h2
    have e2 : (mkL m (i :: done))[j] = (decide (j = i) || done.contains j) := by simp [mkL]
    rw [e2, Array.getElem_setIfInBounds (by simpa [mkL] using h2)]
    by_cases h : i = j
    · subst h; simp
    · rw [if_neg h]
      have : decide (j = i) = false := by simpa using fun e => h e.symm
      rw [this, Bool.false_or]
      simp [mkL]
class NSucc (k : Nat) (m : outParam Nat) : Prop where
  here : m = k + 1
instance : NSucc 0 1 := ⟨rfl⟩
instance : NSucc 1 2 := ⟨rfl⟩
instance : NSucc 2 3 := ⟨rfl⟩
instance : NSucc 3 4 := ⟨rfl⟩
instance : NSucc 4 5 := ⟨rfl⟩
instance : NSucc 5 6 := ⟨rfl⟩
instance : NSucc 6 7 := ⟨rfl⟩
instance : NSucc 7 8 := ⟨rfl⟩
instance : NSucc 8 9 := ⟨rfl⟩
instance : NSucc 9 10 := ⟨rfl⟩
instance : NSucc 10 11 := ⟨rfl⟩
instance : NSucc 11 12 := ⟨rfl⟩
instance : NSucc 12 13 := ⟨rfl⟩
instance : NSucc 13 14 := ⟨rfl⟩
instance : NSucc 14 15 := ⟨rfl⟩
instance : NSucc 15 16 := ⟨rfl⟩
instance : NSucc 16 17 := ⟨rfl⟩
instance : NSucc 17 18 := ⟨rfl⟩
instance : NSucc 18 19 := ⟨rfl⟩
instance : NSucc 19 20 := ⟨rfl⟩
instance : NSucc 20 21 := ⟨rfl⟩
instance : NSucc 21 22 := ⟨rfl⟩
instance : NSucc 22 23 := ⟨rfl⟩
instance : NSucc 23 24 := ⟨rfl⟩
instance : NSucc 24 25 := ⟨rfl⟩
instance : NSucc 25 26 := ⟨rfl⟩
instance : NSucc 26 27 := ⟨rfl⟩
instance : NSucc 27 28 := ⟨rfl⟩
instance : NSucc 28 29 := ⟨rfl⟩
instance : NSucc 29 30 := ⟨rfl⟩
instance : NSucc 30 31 := ⟨rfl⟩
instance : NSucc 31 32 := ⟨rfl⟩
instance : NSucc 32 33 := ⟨rfl⟩
instance : NSucc 33 34 := ⟨rfl⟩
instance : NSucc 34 35 := ⟨rfl⟩
instance : NSucc 35 36 := ⟨rfl⟩
instance : NSucc 36 37 := ⟨rfl⟩
instance : NSucc 37 38 := ⟨rfl⟩
instance : NSucc 38 39 := ⟨rfl⟩
instance : NSucc 39 40 := ⟨rfl⟩
instance : NSucc 40 41 := ⟨rfl⟩
instance : NSucc 41 42 := ⟨rfl⟩
instance : NSucc 42 43 := ⟨rfl⟩
instance : NSucc 43 44 := ⟨rfl⟩
instance : NSucc 44 45 := ⟨rfl⟩
instance : NSucc 45 46 := ⟨rfl⟩
instance : NSucc 46 47 := ⟨rfl⟩
instance : NSucc 47 48 := ⟨rfl⟩
instance : NSucc 48 49 := ⟨rfl⟩
instance : NSucc 49 50 := ⟨rfl⟩
instance : NSucc 50 51 := ⟨rfl⟩
instance : NSucc 51 52 := ⟨rfl⟩
instance : NSucc 52 53 := ⟨rfl⟩
instance : NSucc 53 54 := ⟨rfl⟩
instance : NSucc 54 55 := ⟨rfl⟩
instance : NSucc 55 56 := ⟨rfl⟩
instance : NSucc 56 57 := ⟨rfl⟩
instance : NSucc 57 58 := ⟨rfl⟩
instance : NSucc 58 59 := ⟨rfl⟩
instance : NSucc 59 60 := ⟨rfl⟩
instance : NSucc 60 61 := ⟨rfl⟩
instance : NSucc 61 62 := ⟨rfl⟩
instance : NSucc 62 63 := ⟨rfl⟩
instance : NSucc 63 64 := ⟨rfl⟩
instance : NSucc 64 65 := ⟨rfl⟩
instance : NSucc 65 66 := ⟨rfl⟩
instance : NSucc 66 67 := ⟨rfl⟩
instance : NSucc 67 68 := ⟨rfl⟩
instance : NSucc 68 69 := ⟨rfl⟩
instance : NSucc 69 70 := ⟨rfl⟩
instance : NSucc 70 71 := ⟨rfl⟩
instance : NSucc 71 72 := ⟨rfl⟩
instance : NSucc 72 73 := ⟨rfl⟩
instance : NSucc 73 74 := ⟨rfl⟩
instance : NSucc 74 75 := ⟨rfl⟩
instance : NSucc 75 76 := ⟨rfl⟩
instance : NSucc 76 77 := ⟨rfl⟩
instance : NSucc 77 78 := ⟨rfl⟩
instance : NSucc 78 79 := ⟨rfl⟩
instance : NSucc 79 80 := ⟨rfl⟩
section
variable {P : Program} {G : Ctx} {n : Nat} {ops : Array Oper} {Q : Post} {s : Fm} {H Hs : List Ent} {o : Oper} {fuel : Nat} {done : List Nat}
def SO (P : Program) (G : Ctx) (n : Nat) (ops : Array Oper) (Q : Post) (Hs : List Ent) (fuel : Nat) (done : List Nat) (s : Fm) (H : List Ent) : Prop :=
  (∀ w, Holds G H w → Holds G Hs w) → ∀ a w, Fr n s a → Holds G H w → wpAnyH P .any ops (np (lift G n Q)) (Holds G Hs) fuel (mkL ops.size done) a w
/-- The same, at place k. -/
def SOT (P : Program) (G : Ctx) (n : Nat) (ops : Array Oper) (Q : Post) (Hs : List Ent) (fuel : Nat) (done : List Nat) (s : Fm) (H : List Ent) (_k : Nat) : Prop := SO P G n ops Q Hs fuel done s H
def soQ (P : Program) (G : Ctx) (n : Nat) (ops : Array Oper) (Q : Post) (Hs : List Ent) (fuel : Nat) (done : List Nat) : Post
  | .normal, s, H => (∀ w, Holds G H w → Holds G Hs w) ∧ SO P G n ops Q Hs fuel done s H
  | _, _, _ => False
theorem c_drawno {id : Nat} {l : List Oper} [h : Wide P] (Hs : List Ent) (hs : ∀ w, Holds G H w → Holds G Hs w) (hk : SOT P G n l.toArray Q Hs l.length [] s H 0) : SW P G n (.region id l.toArray true) Q s H := fun a w ha hw => by
  refine Code.wp_mono np_imp (wp_region_held (S := Holds G Hs) h.here ?_)
  have := hk hs a _ ha hw.drew
  rw [mkL_nil] at this
  simpa using this
theorem so_back {k : Nat} (hs : ∀ w, Holds G H w → Holds G Hs w) (h : SOT P G n ops Q Hs fuel done s H k) : AtQ (soQ P G n ops Q Hs fuel done) .normal s H := ⟨hs, h⟩
theorem so_done {k : Nat} (hr : (Region.ready .any ops (mkL ops.size done)).isEmpty = true) (h : AtQ Q .normal s H) : SOT P G n ops Q Hs fuel done s H k := fun _ a w ha hw =>
  wpAnyH_done (List.isEmpty_iff.1 hr) ⟨s, H, ha, hw, h⟩ _
theorem sot_skip {k m : Nat} [hm : NSucc k m] (_hk : done.contains k = true) (h : SOT P G n ops Q Hs fuel done s H m) : SOT P G n ops Q Hs fuel done s H k := h
theorem sot_next {k m : Nat} [hm : NSucc k m] (_hk : Nat.blt k ops.size = true) (h : SOT P G n ops Q Hs fuel done s H m) : SOT P G n ops Q Hs fuel done s H k := h
/-- What an operation yields by reading alone. -/
def SY (P : Program) (G : Ctx) (n : Nat) (Hs : List Ent) (o : Oper) (s : Fm) (K : Value → Prop) : Prop := ∃ v, Yields P G n s Hs o v ∧ K v
theorem sot_take {k m d : Nat} [hm : NSucc k m] (ho : ops[k]? = some o) (hg : o.guard = none) (hd : o.dst = some d) (h2 : Nat.blt d n = true) (hns : Region.noSelect ops = true) (hr : (Region.ready .any ops (mkL ops.size done)).contains k = true) (hf : Region.free .any ops (mkL ops.size done) k = true)
    (h : SY P G n Hs o s fun v => SOT P G n ops Q Hs fuel (k :: done) ((d, v) :: s) H m) : SOT P G n ops Q Hs (fuel + 1) done s H k := fun hs a w ha hw => by
  obtain ⟨v, hy, hk⟩ := h
  refine wpAnyH_take (v := v) ho hns hf hr (fun _ _ _ e => e) (.inl ⟨Want.wanted (.inl hg) ha, fun w' hw' => hy a w' ha hw'⟩) (hs w hw) ?_
  rw [mkL_set]
  refine hk hs _ w ?_ hw
  rw [← updd hd v]
  exact ha.put _ _ (okd hd h2)
/-- An operation under a guard whose value is known. -/
theorem sot_takeg {k m i j d : Nat} {b c : Bool} {op : Op} {o' : Oper} {ty : TypeId} {pos : String} {af : Array Edge} [hm : NSucc k m] (ho : ops[k]? = some ⟨some d, op, ty, pos, af, some (i, b)⟩) (ho' : ops[i]? = some o') (hd' : o'.dst = some j) (hl : look s j = some (.bool c)) (h2 : Nat.blt d n = true) (hns : Region.noSelect ops = true) (hr : (Region.ready .any ops (mkL ops.size done)).contains k = true) (hf : Region.free .any ops (mkL ops.size done) k = true)
    (hq : (c = b → SY P G n Hs ⟨some d, op, ty, pos, af, none⟩ ((j, .bool b) :: s) fun v => SOT P G n ops Q Hs fuel (k :: done) ((d, v) :: (j, .bool b) :: s) H m) ∧ (c = !b → SOT P G n ops Q Hs fuel (k :: done) ((d, undef) :: (j, .bool (!b)) :: s) H m)) : SOT P G n ops Q Hs (fuel + 1) done s H k := fun hs a w ha hw => by
  have key : Fr n ((j, .bool c) :: s) a := ⟨ha.defers, ha.size, fun i u hi => by
    simp only [look] at hi
    cases hb : Nat.beq i j with
    | true => rw [hb, cond_true, Option.some.injEq] at hi; subst hi; rw [Nat.eq_of_beq_eq_true hb]; exact ha.has j _ hl
    | false => rw [hb, cond_false] at hi; exact ha.has i u hi⟩
  have hl' : look ((j, Value.bool c) :: s) j = some (.bool c) := by simp only [look, Nat.beq_refl, cond_true]
  by_cases hc : c = b
  · subst hc
    obtain ⟨v, hy, hk⟩ := hq.1 rfl
    refine wpAnyH_take (v := v) ho hns hf hr (fun _ _ _ e => e) (.inl ⟨Want.wanted (.inr ⟨i, c, o', j, rfl, ho', hd', hl'⟩) key, fun w' hw' => ?_⟩) (hs w hw) ?_
    · have := hy a w' key hw'
      unfold execOp at this ⊢
      exact this
    · rw [mkL_set]
      refine hk hs _ w ?_ hw
      have := key.put (some d) v (show okDst n (some d) = true from h2)
      exact this
  · have hc' : c = !b := by cases c <;> cases b <;> simp_all
    have hk := hq.2 hc'
    refine wpAnyH_take (v := undef) ho hns hf hr (fun _ _ _ e => e) (.inr ⟨Skips.wanted ⟨i, c, o', j, by rw [hc']; simp, ho', hd', hl'⟩ key, rfl⟩) (hs w hw) ?_
    rw [mkL_set]
    refine hk hs _ w ?_ hw
    rw [← hc']
    exact key.put (some d) undef (show okDst n (some d) = true from h2)
theorem Oper.wp_imp {o : Oper} {a : Act} {w : World} {K K' : Act → World → Prop} {Q Q' : Exit → Act → World → Prop} (h : ∀ a w, K a w → K' a w) (hQ : ∀ c a w, ¬ Q (.panic c) a w) (hQ2 : ∀ a w, ¬ Q .outgrown a w) (hh : o.wp P a w K Q) : o.wp P a w K' Q' := by
  unfold Oper.wp at *
  generalize (execOp a.eval o).run P w = r at *
  cases r with
  | ok n w' =>
    cases n <;> simp only [Oper.upon] at hh ⊢
    case value => exact h _ _ hh
    case skip => exact h _ _ hh
    case defer => exact h _ _ hh
    case enter =>
      refine Calls.mono hh fun e w'' he => ?_
      cases e with
      | returned u => exact h _ _ he
      | panicked c => exact absurd he (hQ _ _ _)
      | outgrown => obtain ⟨a, w, he⟩ := he; exact absurd he (hQ2 _ _)
    case row => exact Rows.mono hh fun _ _ he => h _ _ he
  | halt x w' =>
    cases x <;> simp only [Oper.upon] at hh ⊢
    case panic => exact absurd hh (hQ _ _ _)
/-- One of the operations from place k on that may come up comes up. -/
def SOA (P : Program) (G : Ctx) (n : Nat) (ops : Array Oper) (Q : Post) (Hs : List Ent) (fuel : Nat) (done : List Nat) (s : Fm) (H : List Ent) (k : Nat) : Prop :=
  ∀ i, k ≤ i → i ∈ Region.ready .any ops (mkL ops.size done) → ∃ o, ops[i]? = some o ∧ SL P G n ops (soQ P G n ops Q Hs fuel (i :: done)) [o] s H
theorem soa_end {k : Nat} (hk : Nat.ble ops.size k = true) : SOA P G n ops Q Hs fuel done s H k := fun i hi hr => by
  have := (mem_ready.1 hr).2
  obtain ⟨o, ho, -⟩ := this
  have h1 := Nat.le_of_ble_eq_true hk
  rw [Array.getElem?_eq_none (by omega)] at ho
  cases ho
theorem soa_no {k m : Nat} [hm : NSucc k m] (hr : (Region.ready .any ops (mkL ops.size done)).contains k = false) (h : SOA P G n ops Q Hs fuel done s H m) : SOA P G n ops Q Hs fuel done s H k := fun i hi hi2 => by
  rcases Nat.eq_or_lt_of_le hi with rfl | hlt
  · rw [List.contains_eq_mem, decide_eq_false_iff_not] at hr
    exact absurd hi2 hr
  · exact h i (by rw [hm.here]; omega) hi2
theorem soa_yes {k m : Nat} [hm : NSucc k m] (ho : ops[k]? = some o) (h1 : SL P G n ops (soQ P G n ops Q Hs fuel (k :: done)) [o] s H) (h : SOA P G n ops Q Hs fuel done s H m) : SOA P G n ops Q Hs fuel done s H k := fun i hi hi2 => by
  rcases Nat.eq_or_lt_of_le hi with rfl | hlt
  · exact ⟨o, ho, h1⟩
  · exact h i (by rw [hm.here]; omega) hi2
theorem sot_all {k : Nat} (hr : (Region.ready .any ops (mkL ops.size done)).isEmpty = false) (h : SOA P G n ops Q Hs fuel done s H 0) : SOT P G n ops Q Hs (fuel + 1) done s H k := fun hs a w ha hw => by
  refine wpAnyH_all rfl (fun e => by rw [e] at hr; cases hr) fun i hi => ?_
  obtain ⟨o, ho, hsl⟩ := h i (Nat.zero_le _) hi
  have h1 := hsl a w ha hw
  rw [mkL_set]
  unfold wpList at h1
  unfold wpOp
  simp only [ho]
  have hK : ∀ a w, wpList P ops (lift G n (soQ P G n ops Q Hs fuel (i :: done))) [] a w → Holds G Hs w ∧ wpAnyH P .any ops (np (lift G n Q)) (Holds G Hs) fuel (mkL ops.size (i :: done)) a w := fun a w hq => by
    obtain ⟨s', H', ha', hw', h2, h3⟩ := hq
    exact ⟨h2 w hw', h3 h2 a w ha' hw'⟩
  split
  · rename_i hwn
    rw [if_pos hwn] at h1
    rcases h1 with h1 | ⟨-, a1, w1, s1, H1, -, -, hf⟩
    · exact .inl (Oper.wp_imp hK (fun c a w ⟨_, _, _, _, hq⟩ => hq) (fun a w ⟨_, _, _, _, hq⟩ => hq) h1)
    · exact (hf : False).elim
  · rename_i hwn
    rw [if_neg hwn] at h1
    exact hK _ _ h1
/- What reads alone, kind by kind. -/
variable {K : Value → Prop} {x y : Operand} {t t' ty : TypeId} {d : Option Nat} {pos : String} {af : Array Edge} {i : Nat}
theorem sy_val {v : Value} (hy : Yields P G n s Hs o v) (hk : K v) : SY P G n Hs o s K := ⟨v, hy, hk⟩
theorem sy_bin {op : BinOp} {vx vy : Value} (hx : ev s x = some vx) (hy : ev s y = some vy) (h : BB P op t x y vx vy K) : SY P G n Hs ⟨d, Op.binOp op t x y t', ty, pos, af, none⟩ s K := by
  obtain ⟨v, h1, h2⟩ := h
  exact ⟨v, yb rfl hx hy h1, h2⟩
theorem sy_load {vx : Value} (hx : ev s x = some vx) (h : LD P G Hs t vx K) : SY P G n Hs ⟨d, Op.load t x, ty, pos, af, none⟩ s K := by
  obtain ⟨v, h1, h2⟩ := h
  refine ⟨v, fun a w ha hw => ?_, h2⟩
  unfold execOp; simp only [ha.ev hx]; exact run_value (h1 w hw)
theorem sy_pick {c : Operand} {b : Bool} (hc : ev s c = some (.bool b)) (h : PK s b x y K) : SY P G n Hs ⟨d, Op.pick c x y, ty, pos, af, none⟩ s K := by
  obtain ⟨v, h1, h2⟩ := h
  refine ⟨v, fun a w ha hw => ?_, h2⟩
  have := h1 n a ha
  unfold execOp; simp only [ha.ev hc, asBool, Sem.run_bind, Sem.run_pure, Result.andThen_ok, this]
theorem ky_move (h : SY P G n Hs ⟨d, Op.move x, ty, pos, af, none⟩ s K) : SY P G n Hs ⟨d, Op.move x, ty, pos, af, none⟩ s K := h
theorem ky_bin {op : BinOp} (h : SY P G n Hs ⟨d, Op.binOp op t x y t', ty, pos, af, none⟩ s K) : SY P G n Hs ⟨d, Op.binOp op t x y t', ty, pos, af, none⟩ s K := h
theorem ky_load (h : SY P G n Hs ⟨d, Op.load t x, ty, pos, af, none⟩ s K) : SY P G n Hs ⟨d, Op.load t x, ty, pos, af, none⟩ s K := h
theorem ky_asgn (h : SY P G n Hs ⟨d, Op.assign x, ty, pos, af, none⟩ s K) : SY P G n Hs ⟨d, Op.assign x, ty, pos, af, none⟩ s K := h
theorem ky_pick {c : Operand} (h : SY P G n Hs ⟨d, Op.pick c x y, ty, pos, af, none⟩ s K) : SY P G n Hs ⟨d, Op.pick c x y, ty, pos, af, none⟩ s K := h
theorem ky_field (h : SY P G n Hs ⟨d, Op.fieldAddr t x i, ty, pos, af, none⟩ s K) : SY P G n Hs ⟨d, Op.fieldAddr t x i, ty, pos, af, none⟩ s K := h
theorem ky_un {u : UnOp} (h : SY P G n Hs ⟨d, Op.unOp u t x, ty, pos, af, none⟩ s K) : SY P G n Hs ⟨d, Op.unOp u t x, ty, pos, af, none⟩ s K := h
theorem ky_extr (h : SY P G n Hs ⟨d, Op.extract x i, ty, pos, af, none⟩ s K) : SY P G n Hs ⟨d, Op.extract x i, ty, pos, af, none⟩ s K := h
theorem ky_build {parts : Array (Nat × Operand)} (h : SY P G n Hs ⟨d, Op.build t parts, ty, pos, af, none⟩ s K) : SY P G n Hs ⟨d, Op.build t parts, ty, pos, af, none⟩ s K := h
theorem ky_conv (h : SY P G n Hs ⟨d, Op.convert t t' x, ty, pos, af, none⟩ s K) : SY P G n Hs ⟨d, Op.convert t t' x, ty, pos, af, none⟩ s K := h
theorem ky_index (h : SY P G n Hs ⟨d, Op.index t x y, ty, pos, af, none⟩ s K) : SY P G n Hs ⟨d, Op.index t x y, ty, pos, af, none⟩ s K := h
theorem ky_indexA (h : SY P G n Hs ⟨d, Op.indexAddr t x y, ty, pos, af, none⟩ s K) : SY P G n Hs ⟨d, Op.indexAddr t x y, ty, pos, af, none⟩ s K := h
theorem ky_nilc (h : SY P G n Hs ⟨d, Op.nilCheck x, ty, pos, af, none⟩ s K) : SY P G n Hs ⟨d, Op.nilCheck x, ty, pos, af, none⟩ s K := h
theorem ky_bi {b : Builtin} {xs : Array Operand} {ats : Array TypeId} (h : SY P G n Hs ⟨d, Op.call { callee := .builtin b, args := xs, argTypes := ats }, ty, pos, af, none⟩ s K) : SY P G n Hs ⟨d, Op.call { callee := .builtin b, args := xs, argTypes := ats }, ty, pos, af, none⟩ s K := h
theorem ky_slice {lo hi mx : Option Operand} (h : SY P G n Hs ⟨d, Op.slice t x lo hi mx, ty, pos, af, none⟩ s K) : SY P G n Hs ⟨d, Op.slice t x lo hi mx, ty, pos, af, none⟩ s K := h
theorem ky_fieldV (h : SY P G n Hs ⟨d, Op.field t x i, ty, pos, af, none⟩ s K) : SY P G n Hs ⟨d, Op.field t x i, ty, pos, af, none⟩ s K := h
theorem sy_sliceSl {t e sz bytes : Nat} {x : Operand} {lo hi : Option Operand} {a : Option Addr} {len c : Nat} {l h : Int} {Hr : List Ent} {xs : List Value} (ho : o.op = .slice t x lo hi none) [hT : SliceT P t e sz bytes] (hx : ev s x = some (.slice a len c)) (hl : bnd s 0 lo = some l) (hh : bnd s len hi = some h)
    (hr : Rd G Hr a xs) (hlen : xs.length = len * sz) (h0 : 0 ≤ l) (h1 : l ≤ h) (h2 : h ≤ len) (h3 : len ≤ c)
    (hk : ∀ a', RdC G Hr a' ((xs.drop (l.toNat * sz)).take ((h.toNat - l.toNat) * sz)) → K (.slice a' (h.toNat - l.toNat) (c - l.toNat))) : SY P G n Hs o s K := by
  obtain ⟨hu, hsz, -, -⟩ := hT.here
  have hS := hT.size
  refine ⟨.slice (if c = l.toNat then a else a.map (·.add (l.toNat * sz))) (h.toNat - l.toNat) (c - l.toNat), fun act w ha _ => ?_, hk _ ⟨?_⟩⟩
  · unfold execOp; rw [ho]; simp only [ha.ev hx]
    refine run_value ?_
    have hb := run_bounds (P := P) (isSl := true) (w := w) (cap := c) ha hl hh h0 h1 (by omega)
    cases hq : P.info? e with
    | none => simp [hq] at hS
    | some inf =>
      have hs : inf.size = sz := by simpa [hq] using hS
      have hz : (sizeOf e).run P w = .ok sz w := by simp [sizeOf, typeInfo, program, Sem.run, hq, hs]
      simp only [Instr.sliceAt, Sem.run_bind, run_underlying hu, Result.andThen_ok, Instr.slice, Option.map_none]
      simp [hb, hz, Sem.run]
  · split
    · rename_i hc
      have e0 : (h.toNat - l.toNat) * sz = 0 := by rw [show h.toNat - l.toNat = 0 from by omega, Nat.zero_mul]
      rw [e0, List.take_zero]
      exact fun w _ => At.nil w a
    · refine hr.piece ?_
      rw [hlen, ← Nat.add_mul]
      exact Nat.mul_le_mul_right sz (by omega)
theorem g_sot {k : Nat} (h : SOT P G n ops Q Hs fuel done s H k) : SOT P G n ops Q Hs fuel done s H k := h
theorem g_soa {k : Nat} (h : SOA P G n ops Q Hs fuel done s H k) : SOA P G n ops Q Hs fuel done s H k := h
theorem g_sy (h : SY P G n Hs o s K) : SY P G n Hs o s K := h
end
end Go.Sx
