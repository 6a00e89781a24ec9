/- A walk over what is known: the slots that matter, and the blocks of memory that the call itself holds. Nothing here speaks of the program. -/
import Derived.Test.YtgcnfcgnkfkpeaaBase2
namespace Go.Sx
open Go Go.RowKit Go.Fw

/-- A piece of the semantics that looks at no memory, run. -/
def still {α : Type} (P : Program) : Sem α → Option α
  | .pure a => some a
  | .program k => still P (k P)
  | .mark _ k => still P k
  | _ => none
theorem still_run {P : Program} {α : Type} (s : Sem α) (v : α) (h : still P s = some v) (w : World) : s.run P w = .ok v w := by
  induction s with
  | pure a => simp only [still, Option.some.injEq] at h; subst h; rfl
  | program k ih => exact ih P h
  | mark m k ih => exact ih h
  | _ => simp [still] at h

/-- What is known of the slots. -/
abbrev Fm := List (Nat × Value)
def look : Fm → Nat → Option Value
  | [], _ => none
  | (j, v) :: r, i => bif Nat.beq i j then some v else look r i
def ev (s : Fm) : Operand → Option Value
  | .tmp t => look s t
  | .const v => some v
  | .global g => some (.pointer (some ⟨g, 0, none⟩))
  | .func f => some (.func (.func f) #[] #[])
def upd (s : Fm) : Option Nat → Value → Fm
  | some d, v => (d, v) :: s
  | none, _ => s
def okDst (n : Nat) : Option Nat → Bool
  | some d => Nat.blt d n
  | none => true
structure Fr (n : Nat) (s : Fm) (a : Act) : Prop where
  defers : a.defers = []
  size : a.tmps.size = n
  has : ∀ i v, look s i = some v → a.tmps.getD i undef = v
theorem Fr.ev {n : Nat} {s : Fm} {a : Act} (h : Fr n s a) {x : Operand} {v : Value} (hx : ev s x = some v) : a.eval x = v := by
  cases x with
  | tmp t => exact h.has t v hx
  | const u => simp only [Sx.ev, Option.some.injEq] at hx; subst hx; rfl
  | global g => simp only [Sx.ev, Option.some.injEq] at hx; subst hx; rfl
  | func f => simp only [Sx.ev, Option.some.injEq] at hx; subst hx; rfl
theorem Fr.put {n : Nat} {s : Fm} {a : Act} (h : Fr n s a) (d : Option Nat) (v : Value) (hd : okDst n d = true) : Fr n (upd s d v) (a.put d v) := by
  cases d with
  | none => exact h
  | some d =>
    have hd' : d < n := by simpa [okDst, Nat.blt_eq] using hd
    refine ⟨h.defers, by simpa [Act.put] using h.size, fun i u hi => ?_⟩
    simp only [upd, look] at hi
    by_cases e : i = d
    · subst e
      have e1 : Nat.beq i i = true := Nat.beq_eq ▸ rfl
      rw [e1, cond_true, Option.some.injEq] at hi
      subst hi
      simp only [Act.put, Array.getD_eq_getD_getElem?, Array.getElem?_setIfInBounds]
      simp only [if_true]
      rw [if_pos (by rw [h.size]; exact hd')]
      rfl
    · have e2 : Nat.beq i d = false := by
        cases hb : Nat.beq i d with
        | false => rfl
        | true => exact absurd (Nat.eq_of_beq_eq_true hb) e
      rw [e2, cond_false] at hi
      have := h.has i u hi
      simp only [Act.put, Array.getD_eq_getD_getElem?, Array.getElem?_setIfInBounds] at this ⊢
      rw [if_neg (fun x => e x.symm)]
      exact this
/-- Less is known. -/
def Le (s s' : Fm) : Prop := ∀ i v, look s i = some v → look s' i = some v
theorem Le.nil (s : Fm) : Le [] s := fun _ _ h => by simp [look] at h
theorem Le.cons {s s' : Fm} {j : Nat} {v : Value} (hj : look s' j = some v) (h : Le s s') : Le ((j, v) :: s) s' := by
  intro i u hi
  simp only [look] at hi
  cases hb : Nat.beq i j with
  | true => rw [hb, cond_true, Option.some.injEq] at hi; subst hi; rw [Nat.eq_of_beq_eq_true hb]; exact hj
  | false => rw [hb, cond_false] at hi; exact h i u hi
theorem Fr.le {n : Nat} {s s' : Fm} {a : Act} (h : Fr n s' a) (hl : Le s s') : Fr n s a := ⟨h.defers, h.size, fun i v hi => h.has i v (hl i v hi)⟩

/-- A block that the call holds: known whole, or a row that it may append to. -/
inductive Ent where
  | blk (b : Nat) (t : TypeId) (cs : List Value)
  | own (e : TypeId) (size : Nat) (a : Option Addr) (n c : Nat) (xs : List Value)
  | obj (b : Nat) (o : Obj)
def Ent.key : Ent → Option Nat
  | .blk b _ _ => some b
  | .own _ _ a n c _ => (Value.slice a n c).ownBlock
  | .obj b _ => some b
structure Ctx where
  B : Nat
  w0 : World
def Ent.ok (G : Ctx) (w : World) : Ent → Prop
  | .blk b t cs => G.B ≤ b ∧ w.heap[b]? = some (.cells cs.toArray t (0, 0))
  | .own e size a n c xs => w.ownsRow G.B e size (.slice a n c) n xs
  | .obj b o => G.B ≤ b ∧ w.heap[b]? = some o
def Ent.apart (x y : Ent) : Prop := ∀ k, x.key = some k → y.key ≠ some k
theorem Ent.apart_symm {x y : Ent} (h : x.apart y) : y.apart x := fun k hk hx => h k hx hk
structure Holds (G : Ctx) (H : List Ent) (w : World) : Prop where
  below : Below G.B G.w0 w
  base : G.B ≤ w.heap.size
  ok : ∀ x ∈ H, x.ok G w
  apart : H.Pairwise Ent.apart
theorem Ent.ok_lt {G : Ctx} {w : World} {x : Ent} (h : x.ok G w) {k : Nat} (hk : x.key = some k) : G.B ≤ k ∧ k < w.heap.size := by
  cases x with
  | blk b t cs =>
    simp only [Ent.key, Option.some.injEq] at hk
    subst hk
    exact ⟨h.1, row_lt h.2⟩
  | own e size a n c xs => exact World.ownsRow.lt h k hk
  | obj b o =>
    simp only [Ent.key, Option.some.injEq] at hk
    subst hk
    exact ⟨h.1, row_lt h.2⟩
theorem own_block {w w' : World} {B : Nat} {e : TypeId} {size : Nat} {v : Value} {n : Nat} {xs : List Value} (h : w.ownsRow B e size v n xs) (hb : ∀ k, v.ownBlock = some k → w'.heap[k]? = w.heap[k]?) : w'.ownsRow B e size v n xs := by
  refine ⟨h.1, ?_⟩
  rcases h.2 with hn | ⟨g, cap, cur, rfl, hg, hh, rest⟩
  · exact .inl hn
  · exact .inr ⟨g, cap, cur, rfl, hg, (hb g rfl).trans hh, rest⟩
theorem Ent.ok_of {G : Ctx} {w w' : World} {x : Ent} (h : x.ok G w) (hb : ∀ k, x.key = some k → w'.heap[k]? = w.heap[k]?) : x.ok G w' := by
  cases x with
  | blk b t cs => exact ⟨h.1, (hb b rfl).trans h.2⟩
  | own e size a n c xs => exact own_block h hb
  | obj b o => exact ⟨h.1, (hb b rfl).trans h.2⟩
theorem Holds.drop {G : Ctx} {x : Ent} {H : List Ent} {w : World} (h : Holds G (x :: H) w) : Holds G H w :=
  ⟨h.below, h.base, fun y hy => h.ok y (List.mem_cons_of_mem _ hy), (List.pairwise_cons.1 h.apart).2⟩
theorem Holds.sub {G : Ctx} {H H' : List Ent} {w : World} (h : Holds G H w) (hs : H'.Sublist H) : Holds G H' w :=
  ⟨h.below, h.base, fun y hy => h.ok y (hs.subset hy), h.apart.sublist hs⟩
theorem Holds.perm {G : Ctx} {H H' : List Ent} {w : World} (h : Holds G H w) (hp : H.Perm H') : Holds G H' w :=
  ⟨h.below, h.base, fun y hy => h.ok y (hp.mem_iff.2 hy), (hp.pairwise_iff (fun {_ _} h => Ent.apart_symm h)).1 h.apart⟩

/-- One entry is picked out of what is held. -/
inductive Pick (x : Ent) : List Ent → List Ent → Prop where
  | here (H : List Ent) : Pick x (x :: H) H
  | there {y : Ent} {H H' : List Ent} (h : Pick x H H') : Pick x (y :: H) (y :: H')
theorem Pick.perm {x : Ent} {H H' : List Ent} (h : Pick x H H') : H.Perm (x :: H') := by
  induction h with
  | here H => exact List.Perm.refl _
  | there h ih => exact (List.Perm.cons _ ih).trans (List.Perm.swap _ _ _)
theorem Holds.pick {G : Ctx} {x : Ent} {H H' : List Ent} {w : World} (h : Holds G H w) (hp : Pick x H H') : Holds G (x :: H') w := h.perm hp.perm

/-- The world behind a step that touched one block at most, and made some. -/
theorem Holds.stepped {G : Ctx} {H : List Ent} {w w' : World} (h : Holds G H w) (r : Option Nat) (hg : w.grownBy w' r) (hr : ∀ k, r = some k → G.B ≤ k) (hH : ∀ x ∈ H, ∀ k, x.key = some k → r ≠ some k) : Holds G H w' :=
  ⟨h.below.grown hg h.base hr, Nat.le_trans h.base hg.size,
    fun x hx => Ent.ok_of (h.ok x hx) fun k hk => hg.block k (Ent.ok_lt (h.ok x hx) hk).2 (fun e => hH x hx k hk e.symm), h.apart⟩
theorem Holds.alloc {G : Ctx} {H : List Ent} {w : World} (h : Holds G H w) (t : TypeId) (cs : List Value) : Holds G (.blk w.heap.size t cs :: H) (w.alloc (.cells cs.toArray t)) := by
  have hb : ∀ k, k < w.heap.size → (w.alloc (.cells cs.toArray t)).heap[k]? = w.heap[k]? := fun k hk => Below.heap_alloc w _ k hk
  refine ⟨h.below.alloc h.base _, Nat.le_trans h.base (by simp), fun x hx => ?_, List.pairwise_cons.2 ⟨fun y hy k hk => ?_, h.apart⟩⟩
  · rcases List.mem_cons.1 hx with rfl | hx
    · exact ⟨h.base, heap_alloc_new _ _⟩
    · exact Ent.ok_of (h.ok x hx) fun k hk => hb k (Ent.ok_lt (h.ok x hx) hk).2
  · simp only [Ent.key, Option.some.injEq] at hk
    subst hk
    intro e
    exact absurd (Ent.ok_lt (h.ok y hy) e).2 (Nat.lt_irrefl _)
theorem Holds.drew {G : Ctx} {H : List Ent} {w : World} (h : Holds G H w) : Holds G H { w with drawn := w.drawn + 1 } :=
  ⟨⟨h.below.os, h.below.tape, h.below.output, h.below.size, h.below.block⟩, h.base, fun x hx => Ent.ok_of (h.ok x hx) fun _ _ => rfl, h.apart⟩
theorem Holds.set {G : Ctx} {H : List Ent} {w w' : World} {b : Nat} {t : TypeId} {cs cs' : List Value} (h : Holds G (.blk b t cs :: H) w) (hw : w'.heap[b]? = some (.cells cs'.toArray t (0, 0))) (ho : ∀ k, k ≠ b → w'.heap[k]? = w.heap[k]?)
    (hs : w'.heap.size = w.heap.size) (e1 : w'.os = w.os) (e2 : w'.tape = w.tape) (e3 : w'.output = w.output) : Holds G (.blk b t cs' :: H) w' := by
  have hB : G.B ≤ b := (h.ok _ List.mem_cons_self).1
  obtain ⟨hap, hapH⟩ := List.pairwise_cons.1 h.apart
  refine ⟨h.below.trans ⟨e1, e2, e3, Nat.le_of_eq hs.symm, fun k hk => ho k (by omega)⟩, by rw [hs]; exact h.base, fun x hx => ?_, List.pairwise_cons.2 ⟨fun y hy k hk => hap y hy k hk, hapH⟩⟩
  rcases List.mem_cons.1 hx with rfl | hx
  · exact ⟨hB, hw⟩
  · exact Ent.ok_of (h.ok x (List.mem_cons_of_mem _ hx)) fun k hk => ho k (fun e => hap x hx b rfl (e ▸ hk))

/-- Whoever holds this reads these cells there. -/
def Rd (G : Ctx) (H : List Ent) (a : Option Addr) (xs : List Value) : Prop := ∀ w, Holds G H w → At w a xs
theorem Rd.cons {G : Ctx} {H : List Ent} {a : Option Addr} {xs : List Value} {x : Ent} (h : Rd G H a xs) : Rd G (x :: H) a xs := fun w hw => h w hw.drop
theorem Rd.mem {G : Ctx} {H : List Ent} {e : TypeId} {size n c : Nat} {a : Option Addr} {xs : List Value} (h : Ent.own e size a n c xs ∈ H) : Rd G H a xs := fun w hw => by
  have ho : w.ownsRow G.B e size (.slice a n c) n xs := hw.ok _ h
  obtain ⟨hl, ⟨hv, h0⟩ | ⟨g, cap, cur, hv, hg, hh, hn, hm, hs, ht⟩⟩ := ho
  · left; subst h0; exact List.eq_nil_of_length_eq_zero (by simpa using hl)
  · have e1 : a = some ⟨g, 0, none⟩ := by injection hv
    subst e1
    right
    refine ⟨g, 0, rfl, row_lt hh, fun i hi => ?_⟩
    rw [Nat.zero_add]
    show (match w.heap[g]? with | some (.cells c _ _) => if (none : Option Nat).isSome then none else c[i]? | _ => none) = _
    rw [hh, ← ht, List.getElem?_take]
    rw [← ht, List.length_take] at hi
    rw [if_pos (by omega), Array.getElem?_toList]
    rfl
theorem Rd.blk {G : Ctx} {H : List Ent} {b : Nat} {t : TypeId} {cs : List Value} (h : Ent.blk b t cs ∈ H) : Rd G H (some ⟨b, 0, none⟩) cs := fun _ hw => row_at (hw.ok _ h).2
theorem Rd.top {B : Nat} {w0 : World} {H : List Ent} {a : Option Addr} {xs : List Value} (h : At w0 a xs) (hB : B = w0.heap.size) : Rd ⟨B, w0⟩ H a xs := fun _ hw => h.mono (hB ▸ hw.below)
theorem Rd.mono {G : Ctx} {H H' : List Ent} {a : Option Addr} {xs : List Value} (h : Rd G H a xs) (hs : ∀ w, Holds G H' w → Holds G H w) : Rd G H' a xs := fun w hw => h w (hs w hw)

abbrev Post := Exit → Fm → List Ent → Prop
def lift (G : Ctx) (n : Nat) (Q : Post) : Exit → Act → World → Prop := fun e a w => ∃ s H, Fr n s a ∧ Holds G H w ∧ Q e s H
def SW (P : Program) (G : Ctx) (n : Nat) (c : Code) (Q : Post) (s : Fm) (H : List Ent) : Prop := ∀ a w, Fr n s a → Holds G H w → c.wp P (lift G n Q) a w
def SL (P : Program) (G : Ctx) (n : Nat) (ops : Array Oper) (Q : Post) (l : List Oper) (s : Fm) (H : List Ent) : Prop := ∀ a w, Fr n s a → Holds G H w → wpList P ops (lift G n Q) l a w
def thn (next : Fm → List Ent → Prop) (Q : Post) : Post
  | .normal, s, H => next s H
  | e, s, H => Q e s H
def inb (id : Nat) (Q : Post) : Post
  | .exit id', s, H => if id' = id then Q .normal s H else Q (.exit id') s H
  | e, s, H => Q e s H
/-- A way's end: what is asked there. -/
def AtQ (Q : Post) (e : Exit) (s : Fm) (H : List Ent) : Prop := Q e s H

section
variable {P : Program} {G : Ctx} {n : Nat} {ops : Array Oper} {Q : Post} {s : Fm} {H : List Ent}

theorem sw_le {c : Code} {s' : Fm} {H' : List Ent} (hs : Le s' s) (hH : ∀ w, Holds G H w → Holds G H' w) (h : SW P G n c Q s' H') : SW P G n c Q s H := fun a w ha hw => h a w (ha.le hs) (hH w hw)
theorem sw_skip (h : AtQ Q .normal s H) : SW P G n .skip Q s H := fun _ _ ha hw => wp_skip ⟨s, H, ha, hw, h⟩
theorem sw_ret (h : AtQ Q .ret s H) : SW P G n .ret Q s H := fun _ _ ha hw => wp_ret ⟨s, H, ha, hw, h⟩
theorem sw_exit {id : Nat} (h : AtQ Q (.exit id) s H) : SW P G n (.exit id) Q s H := fun _ _ ha hw => wp_exit ⟨s, H, ha, hw, h⟩
theorem sw_label {l : Nat} (h : AtQ Q .normal s H) : SW P G n (.label l) Q s H := fun _ _ ha hw => wp_label ⟨s, H, ha, hw, h⟩
theorem sw_seq {x y : Code} (h : SW P G n x (thn (SW P G n y Q) Q) s H) : SW P G n (.seq x y) Q s H := fun a w ha hw =>
  wp_seq (wp_mono (h a w ha hw) fun e a' w' ⟨s', H', ha', hw', hq⟩ => by
    cases e with
    | normal => exact hq a' w' ha' hw'
    | _ => exact ⟨s', H', ha', hw', hq⟩)
theorem sw_block {id : Nat} {c : Code} (h : SW P G n c (inb id Q) s H) : SW P G n (.block id c) Q s H := fun a w ha hw =>
  wp_block (wp_mono (h a w ha hw) fun e a' w' ⟨s', H', ha', hw', hq⟩ => by
    cases e with
    | exit id' =>
      simp only [Exit.inBlock]
      simp only [inb] at hq
      split
      · rename_i e; rw [if_pos e] at hq; exact ⟨s', H', ha', hw', hq⟩
      · rename_i e; rw [if_neg e] at hq; exact ⟨s', H', ha', hw', hq⟩
    | _ => exact ⟨s', H', ha', hw', hq⟩)
theorem sw_cond {c : Operand} {x y : Code} {t : Bool} (hc : ev s c = some (.bool t)) (ht : t = true → SW P G n x Q s H) (hf : t = false → SW P G n y Q s H) : SW P G n (.cond c x y) Q s H := fun a w ha hw =>
  wp_cond_split (ha.ev hc) (fun e => ht e a w ha hw) (fun e => hf e a w ha hw)
theorem sw_cond_t {c : Operand} {x y : Code} (hc : ev s c = some (.bool true)) (h : SW P G n x Q s H) : SW P G n (.cond c x y) Q s H := fun a w ha hw => wp_cond_true (ha.ev hc) (h a w ha hw)
theorem sw_cond_f {c : Operand} {x y : Code} (hc : ev s c = some (.bool false)) (h : SW P G n y Q s H) : SW P G n (.cond c x y) Q s H := fun a w ha hw => wp_cond_false (ha.ev hc) (h a w ha hw)
theorem sw_loop {c : Code} {α : Type} (S : α → Fm) (E : α → List Ent) (I : α → Prop) (μ : α → Nat) (x0 : α) (hI : I x0) (hs : Le (S x0) s) (hH : ∀ w, Holds G H w → Holds G (E x0) w)
    (round : ∀ x, I x → SW P G n c (thn (fun s' H' => ∃ y, I y ∧ μ y < μ x ∧ Le (S y) s' ∧ ∀ w, Holds G H' w → Holds G (E y) w) Q) (S x) (E x)) : SW P G n (.loop c) Q s H := fun a w ha hw => by
  intro b k cs
  have key : ∀ m x a w, μ x = m → I x → Fr n (S x) a → Holds G (E x) w → ∃ e a' w', lift G n Q e a' w' ∧ Arrives P (lone (b.at a (.code c :: .inLoop c :: k)) cs w) b k cs e a' w' := by
    intro m
    induction m using Nat.strongRecOn with
    | _ m ih =>
      intro x a w hm hx ha hw
      obtain ⟨e, a₁, w₁, ⟨s', H', ha', hw', hq⟩, harr⟩ := round x hx a w ha hw b (.inLoop c :: k) cs
      cases e with
      | normal =>
        obtain ⟨y, hy, hlt, hle, hh⟩ := hq
        obtain ⟨e₂, a₂, w₂, hq₂, harr₂⟩ := ih (μ y) (hm ▸ hlt) y a₁ w₁ rfl hy (ha'.le hle) (hh _ hw')
        exact ⟨e₂, a₂, w₂, hq₂, .of_steps (Steps.trans harr (.one step_inLoop)) harr₂⟩
      | exit id => exact ⟨_, a₁, w₁, ⟨s', H', ha', hw', hq⟩, .pass (x := .inLoop c) rfl (fun _ _ => .inl (by simp)) harr⟩
      | goto l => exact ⟨_, a₁, w₁, ⟨s', H', ha', hw', hq⟩, .pass (x := .inLoop c) rfl (fun _ _ => .inl (by simp)) harr⟩
      | ret => exact ⟨_, a₁, w₁, ⟨s', H', ha', hw', hq⟩, .pass (x := .inLoop c) rfl (fun _ _ => .inl (by simp)) harr⟩
      | panic ch => exact ⟨_, a₁, w₁, ⟨s', H', ha', hw', hq⟩, .pass (x := .inLoop c) rfl (fun _ _ => .inl (by simp)) harr⟩
      | outgrown => exact ⟨_, a₁, w₁, ⟨s', H', ha', hw', hq⟩, .pass (x := .inLoop c) rfl (fun _ _ => .inl (by simp)) harr⟩
  obtain ⟨e, a', w', hq, harr⟩ := key _ x0 a w rfl hI (ha.le hs) (hH w hw)
  exact ⟨e, a', w', hq, .of_steps (.one step_loop) harr⟩
end
end Go.Sx
