/- Regions that draw their order and whose stores come last: what is loaded ahead of the first store is known, whatever is made meanwhile. -/
import Derived.Test.YthllelffblpdkaaDoorSx30
namespace Go.Sx
open Go Go.RowKit Go.Fw
section
variable {P : Program} {ops : Array Oper} {Q : Exit → Act → World → Prop} {md : Region.Mode}
/-- Whatever comes up next, and S holds of what is listed and of the world behind it. -/
def runs (P : Program) (md : Region.Mode) (ops : Array Oper) (Q : Exit → Act → World → Prop) (S : Array Bool → World → Prop) (m : Nat) : Array Bool → Act → World → Prop :=
  m.rec (fun l a w => Region.ready md ops l = [] ∧ Q .normal a w)
    fun _ go l a w => (Region.ready md ops l = [] → Q .normal a w) ∧ ∀ i ∈ Region.ready md ops l, wpOp P ops Q i (fun a' w' => S (l.setIfInBounds i true) w' ∧ go (l.setIfInBounds i true) a' w') a w
variable {S : Array Bool → World → Prop}
theorem runs_any : ∀ (m : Nat) (l : Array Bool) (a : Act) (w : World), runs P md ops Q S m l a w → wpAny P md ops Q m l a w
  | 0, _, _, _, h => h
  | m + 1, _, _, _, h => ⟨h.1, fun i hi => wpOp_mono (fun a' w' h' => runs_any m _ a' w' h'.2) (h.2 i hi)⟩
theorem runs_mk {m : Nat} {l : Array Bool} {a : Act} {w : World} (h0 : Region.ready md ops l ≠ []) (h : ∀ i ∈ Region.ready md ops l, wpOp P ops Q i (fun a' w' => S (l.setIfInBounds i true) w' ∧ runs P md ops Q S m (l.setIfInBounds i true) a' w') a w) : runs P md ops Q S (m + 1) l a w := ⟨fun e => absurd e h0, h⟩
theorem runs_first {i : Nat} {oi : Oper} {v : Value} {T : World → Prop} {Inv : Array Bool → Prop} (hi : ops[i]? = some oi) (hsel : ∀ (j : Nat) (o : Oper) cs b, ops[j]? = some o → o.op ≠ .select cs b)
    (hQ : ∀ c a w, Q (.panic c) (a.put oi.dst v) w → Q (.panic c) a w) (hInv : ∀ l j, Inv l → i ∈ Region.ready md ops l → j ∈ Region.ready md ops l → j ≠ i → Inv (l.setIfInBounds j true))
    (hT : ∀ l w, Inv l → S l w → T w) (hS : ∀ l w, S (l.setIfInBounds i true) w ↔ S l w) :
    ∀ (m : Nat) (l : Array Bool) (a : Act) (w : World),
      (∀ j oj, ops[j]? = some oj → j ≠ i → l.getD j true = false → (∀ e ∈ oj.after, Region.binds md e = true → e.on ≠ i) → oi.apart ops oj = true) →
      i ∈ Region.ready md ops l → Inv l → YieldsIf P ops T oi v a → S l w →
      runs P md ops Q S m (l.setIfInBounds i true) (a.put oi.dst v) w → runs P md ops Q S (m + 1) l a w := by
  intro m
  induction m with
  | zero =>
    intro l a w _ hr hI hy hs H
    refine ⟨fun h => (by rw [h] at hr; cases hr), fun j hj => ?_⟩
    by_cases hji : j = i
    · subst hji; exact hy.wpOp hi (hT _ _ hI hs) ⟨(hS _ _).2 hs, H⟩
    · have := ready_mono hj hji
      rw [H.1] at this
      cases this
  | succ m ih =>
    intro l a w hfree hr hI hy hs H
    refine ⟨fun h => (by rw [h] at hr; cases hr), fun j hj => ?_⟩
    by_cases hji : j = i
    · subst hji; exact hy.wpOp hi (hT _ _ hI hs) ⟨(hS _ _).2 hs, H⟩
    have h1 := H.2 j (ready_mono hj hji)
    obtain ⟨hun, oj, hoj, hall⟩ := mem_ready.1 hj
    have hnot : ∀ e ∈ oj.after, Region.binds md e = true → e.on ≠ i := fun e he hb heq => by
      have h1 := hall e he hb
      have h0 := (mem_ready.1 hr).1
      rw [heq] at h1
      rcases Nat.lt_or_ge i l.size with h' | h'
      · simp [h'] at h0 h1; rw [h0] at h1; cases h1
      · simp [Array.getElem?_eq_none h'] at h1
    have h2 := wpOp_putIf hoj (hfree j oj hoj hji hun hnot) (fun cs b => hsel i oi cs b hi) (fun cs b => hsel j oj cs b hoj) hQ hy h1
    refine wpOp_mono (fun a' w' h3 => ?_) h2
    obtain ⟨h4, h5, h6⟩ := h3
    rw [Array.setIfInBounds_comm _ _ (Ne.symm hji)] at h5 h6
    have h5' := (hS _ _).1 h5
    refine ⟨h5', ih (l.setIfInBounds j true) a' w' (fun k ok hk hki hunk hno => hfree k ok hk hki ?_ hno) (ready_mono hr (Ne.symm hji)) (hInv _ _ hI hr hj hji) h4 h5' h6⟩
    by_cases hjk : j = k
    · subst hjk; exact hun
    · rw [getD_set_ne true hjk] at hunk; exact hunk
end
/-- What waits for i, directly or not. -/
def waits (ops : Array Oper) (i : Nat) : List Nat :=
  (List.range ops.size).foldl (fun W k => bif (match ops[k]? with | some o => o.after.any fun e => Region.binds .any e && (Nat.beq e.on i || W.contains e.on) | none => false) then k :: W else W) []
def blkW (ops : Array Oper) (l : Array Bool) (i st : Nat) (W : List Nat) : Bool :=
  W.contains st && !(W.contains i) && W.all fun k => !(l.getD k true) && (match ops[k]? with | some o => o.after.any fun e => Region.binds .any e && (Nat.beq e.on i || W.contains e.on) | none => false)
theorem blkW_next {ops : Array Oper} {l : Array Bool} {i st j : Nat} {W : List Nat} (h : blkW ops l i st W = true) (hi : i ∈ Region.ready .any ops l) (hj : j ∈ Region.ready .any ops l) (hji : j ≠ i) : blkW ops (l.setIfInBounds j true) i st W = true := by
  unfold blkW at *
  simp only [Bool.and_eq_true, List.all_eq_true, Bool.not_eq_true'] at h ⊢
  obtain ⟨⟨h1, h2⟩, h3⟩ := h
  have hjW : j ∉ W := fun hm => by
    obtain ⟨h4, h5⟩ := h3 j hm
    obtain ⟨-, oj, hoj, hall⟩ := mem_ready.1 hj
    rw [hoj] at h5
    simp only [Array.any_eq_true, Bool.and_eq_true, Bool.or_eq_true, List.contains_eq_mem, decide_eq_true_eq] at h5
    obtain ⟨x, hx, hb, he⟩ := h5
    have ht := hall _ (Array.getElem_mem hx) hb
    have hun : l.getD oj.after[x].on true = false := by
      rcases he with he | he
      · rw [Nat.eq_of_beq_eq_true he]; exact (mem_ready.1 hi).1
      · exact (h3 _ he).1
    generalize oj.after[x].on = y at *
    rcases Nat.lt_or_ge y l.size with h' | h'
    · simp [h'] at hun ht; rw [hun] at ht; cases ht
    · simp [Array.getElem?_eq_none h'] at ht
  refine ⟨⟨h1, h2⟩, fun k hk => ⟨?_, (h3 k hk).2⟩⟩
  rw [getD_set_ne true (fun e => hjW (by rw [e]; exact hk))]
  exact (h3 k hk).1
/-- Till st comes up the one is held, from then on the other. -/
def phS (G : Ctx) (st : Nat) (H1 Hs : List Ent) (l : Array Bool) (w : World) : Prop := bif l.getD st true then Holds G Hs w else Holds G H1 w
theorem phS_set {G : Ctx} {st i : Nat} {H1 Hs : List Ent} (h : i ≠ st) (l : Array Bool) (w : World) : phS G st H1 Hs (l.setIfInBounds i true) w ↔ phS G st H1 Hs l w := by unfold phS; rw [getD_set_ne true h]
section
variable {P : Program} {G : Ctx} {n : Nat} {ops : Array Oper} {Q : Post} {s : Fm} {H H1 Hs : List Ent} {o : Oper} {fuel st : Nat} {done : List Nat}
def SP (P : Program) (G : Ctx) (n : Nat) (ops : Array Oper) (Q : Post) (st : Nat) (H1 Hs : List Ent) (fuel : Nat) (done : List Nat) (s : Fm) (H : List Ent) : Prop :=
  (∀ w, Holds G H w → Holds G H1 w) → (mkL ops.size done).getD st true = false → ∀ a w, Fr n s a → Holds G H w → runs P .any ops (np (lift G n Q)) (phS G st H1 Hs) fuel (mkL ops.size done) a w
def SPT (P : Program) (G : Ctx) (n : Nat) (ops : Array Oper) (Q : Post) (st : Nat) (H1 Hs : List Ent) (fuel : Nat) (done : List Nat) (s : Fm) (H : List Ent) (_k : Nat) : Prop := SP P G n ops Q st H1 Hs fuel done s H
def spQ (P : Program) (G : Ctx) (n : Nat) (ops : Array Oper) (Q : Post) (st : Nat) (H1 Hs : List Ent) (fuel : Nat) (done : List Nat) : Post
  | .normal, s, H => (∀ w, Holds G H w → Holds G H1 w) ∧ SP P G n ops Q st H1 Hs fuel done s H
  | _, _, _ => False
theorem c_phase {id : Nat} {l : List Oper} [h : Wide P] (st : Nat) (H1 Hs : List Ent) (hs : ∀ w, Holds G H w → Holds G H1 w) (hst : Nat.blt st l.length = true) (hk : SPT P G n l.toArray Q st H1 Hs l.length [] s H 0) : SW P G n (.region id l.toArray true) Q s H := fun a w ha hw => by
  refine Code.wp_mono np_imp (wp_region_any h.here (runs_any (S := phS G st H1 Hs) _ _ _ _ ?_))
  have h9 : st < l.length := by simpa [Nat.blt_eq] using hst
  have := hk hs (by simp [mkL, h9]) a _ ha hw.drew
  rw [mkL_nil] at this
  simpa using this
theorem sp_back {k : Nat} (hs : ∀ w, Holds G H w → Holds G H1 w) (h : SPT P G n ops Q st H1 Hs fuel done s H k) : AtQ (spQ P G n ops Q st H1 Hs fuel done) .normal s H := ⟨hs, h⟩
theorem spt_skip {k m : Nat} [hm : NSucc k m] (_hk : done.contains k = true) (h : SPT P G n ops Q st H1 Hs fuel done s H m) : SPT P G n ops Q st H1 Hs fuel done s H k := h
theorem spt_next {k m : Nat} [hm : NSucc k m] (_hk : Nat.blt k ops.size = true) (h : SPT P G n ops Q st H1 Hs fuel done s H m) : SPT P G n ops Q st H1 Hs fuel done s H k := h
/-- What st waits for yields by reading what is held till then. -/
theorem spt_take {k m d : Nat} [hm : NSucc k m] (ho : ops[k]? = some o) (hg : o.guard = none) (hd : o.dst = some d) (h2 : Nat.blt d n = true) (hns : Region.noSelect ops = true) (hr : (Region.ready .any ops (mkL ops.size done)).contains k = true) (hf : Region.free .any ops (mkL ops.size done) k = true) (hb : blkW ops (mkL ops.size done) k st (waits ops k) = true)
    (h : SY P G n H1 o s fun v => SPT P G n ops Q st H1 Hs fuel (k :: done) ((d, v) :: s) H m) : SPT P G n ops Q st H1 Hs (fuel + 1) done s H k := fun hs hst a w ha hw => by
  obtain ⟨v, hy, hk⟩ := h
  have hks : k ≠ st := fun e => by
    subst e
    unfold blkW at hb
    simp only [Bool.and_eq_true, Bool.not_eq_true'] at hb
    rw [hb.1.1] at hb
    cases hb.1.2
  have hsl : ∀ l w, phS G st H1 Hs (l.setIfInBounds k true) w ↔ phS G st H1 Hs l w := phS_set hks
  refine runs_first (T := Holds G H1) (Inv := fun l => blkW ops l k st (waits ops k) = true) ho (Region.noSelect_spec hns) (fun _ _ _ e => e) (fun l j h1 h2 h3 h4 => blkW_next h1 h2 h3 h4) (fun l w h1 h2 => ?_) hsl fuel _ a w (Region.free_spec ho hf) (by simpa using hr) hb (.inl ⟨Want.wanted (.inl hg) ha, fun w' hw' => hy a w' ha hw'⟩) ?_ ?_
  · unfold blkW at h1
    simp only [Bool.and_eq_true, List.all_eq_true, Bool.not_eq_true', List.contains_eq_mem, decide_eq_true_eq] at h1
    have := (h1.2 st h1.1.1).1
    unfold phS at h2
    rw [this] at h2
    exact h2
  · unfold phS; rw [hst]; exact hs w hw
  · rw [mkL_set]
    refine hk hs ?_ _ w ?_ hw
    · rw [← mkL_set, getD_set_ne true hks]; exact hst
    · rw [← updd hd v]
      exact ha.put _ _ (okd hd h2)
/-- What yields whatever is held of the two. -/
theorem spt_take0 {k m d : Nat} [hm : NSucc k m] (ho : ops[k]? = some o) (hg : o.guard = none) (hd : o.dst = some d) (h2 : Nat.blt d n = true) (hns : Region.noSelect ops = true) (hr : (Region.ready .any ops (mkL ops.size done)).contains k = true) (hf : Region.free .any ops (mkL ops.size done) k = true) (hks : Nat.beq k st = false) (hsub : ∀ w, Holds G H1 w → Holds G Hs w)
    (h : SY P G n Hs o s fun v => SPT P G n ops Q st H1 Hs fuel (k :: done) ((d, v) :: s) H m) : SPT P G n ops Q st H1 Hs (fuel + 1) done s H k := fun hs hst a w ha hw => by
  obtain ⟨v, hy, hk⟩ := h
  have hks : k ≠ st := fun e => by subst e; rw [Nat.beq_refl] at hks; cases hks
  refine runs_first (T := Holds G Hs) (Inv := fun _ => True) ho (Region.noSelect_spec hns) (fun _ _ _ e => e) (fun _ _ _ _ _ _ => trivial) (fun l w _ h2 => ?_) (phS_set hks) fuel _ a w (Region.free_spec ho hf) (by simpa using hr) trivial (.inl ⟨Want.wanted (.inl hg) ha, fun w' hw' => hy a w' ha hw'⟩) ?_ ?_
  · unfold phS at h2
    cases hq : l.getD st true with
    | true => rw [hq] at h2; exact h2
    | false => rw [hq] at h2; exact hsub w h2
  · unfold phS; rw [hst]; exact hs w hw
  · rw [mkL_set]
    refine hk hs ?_ _ w ?_ hw
    · rw [← mkL_set, getD_set_ne true hks]; exact hst
    · rw [← updd hd v]
      exact ha.put _ _ (okd hd h2)
theorem runs_of_held {Q : Exit → Act → World → Prop} : ∀ (m : Nat) (l : Array Bool) (a : Act) (w : World), l.getD st true = true → wpAnyH P .any ops Q (Holds G Hs) m l a w → runs P .any ops Q (phS G st H1 Hs) m l a w
  | 0, _, _, _, _, h => h
  | m + 1, l, _, _, hl, h => ⟨h.1, fun i hi => wpOp_mono (fun a' w' h' => by
      have hl' : (l.setIfInBounds i true).getD st true = true := by
        by_cases e : i = st
        · subst e
          by_cases hz : i < l.size
          · simp [hz]
          · simp [hz]
        · rw [getD_set_ne true e]; exact hl
      refine ⟨?_, runs_of_held m _ a' w' hl' h'.2⟩
      unfold phS
      rw [hl']
      exact h'.1) (h.2 i hi)⟩
def SPA (P : Program) (G : Ctx) (n : Nat) (ops : Array Oper) (Q : Post) (st : Nat) (H1 Hs : List Ent) (fuel : Nat) (done : List Nat) (s : Fm) (H : List Ent) (k : Nat) : Prop :=
  ∀ i, k ≤ i → i ∈ Region.ready .any ops (mkL ops.size done) → ∃ o, ops[i]? = some o ∧ ((i ≠ st ∧ SL P G n ops (spQ P G n ops Q st H1 Hs fuel (i :: done)) [o] s H) ∨ (i = st ∧ SL P G n ops (soQ P G n ops Q Hs fuel (i :: done)) [o] s H))
theorem spa_end {k : Nat} (hk : Nat.ble ops.size k = true) : SPA P G n ops Q st H1 Hs fuel done s H k := fun i hi hr => by
  have := (mem_ready.1 hr).2
  obtain ⟨o, ho, -⟩ := this
  have h1 := Nat.le_of_ble_eq_true hk
  rw [Array.getElem?_eq_none (by omega)] at ho
  cases ho
theorem spa_no {k m : Nat} [hm : NSucc k m] (hr : (Region.ready .any ops (mkL ops.size done)).contains k = false) (h : SPA P G n ops Q st H1 Hs fuel done s H m) : SPA P G n ops Q st H1 Hs fuel done s H k := fun i hi hi2 => by
  rcases Nat.eq_or_lt_of_le hi with rfl | hlt
  · rw [List.contains_eq_mem, decide_eq_false_iff_not] at hr
    exact absurd hi2 hr
  · exact h i (by rw [hm.here]; omega) hi2
theorem spa_yes {k m : Nat} [hm : NSucc k m] (ho : ops[k]? = some o) (hks : Nat.beq k st = false) (h1 : SL P G n ops (spQ P G n ops Q st H1 Hs fuel (k :: done)) [o] s H) (h : SPA P G n ops Q st H1 Hs fuel done s H m) : SPA P G n ops Q st H1 Hs fuel done s H k := fun i hi hi2 => by
  rcases Nat.eq_or_lt_of_le hi with rfl | hlt
  · exact ⟨o, ho, .inl ⟨fun e => (by subst e; rw [Nat.beq_refl] at hks; cases hks), h1⟩⟩
  · exact h i (by rw [hm.here]; omega) hi2
theorem spa_st {k m : Nat} [hm : NSucc k m] (ho : ops[k]? = some o) (hks : Nat.beq k st = true) (h1 : SL P G n ops (soQ P G n ops Q Hs fuel (k :: done)) [o] s H) (h : SPA P G n ops Q st H1 Hs fuel done s H m) : SPA P G n ops Q st H1 Hs fuel done s H k := fun i hi hi2 => by
  rcases Nat.eq_or_lt_of_le hi with rfl | hlt
  · exact ⟨o, ho, .inr ⟨Nat.eq_of_beq_eq_true hks, h1⟩⟩
  · exact h i (by rw [hm.here]; omega) hi2
theorem spt_all {k : Nat} (hr : (Region.ready .any ops (mkL ops.size done)).isEmpty = false) (h : SPA P G n ops Q st H1 Hs fuel done s H 0) : SPT P G n ops Q st H1 Hs (fuel + 1) done s H k := fun hs hst a w ha hw => by
  refine runs_mk (fun e => by rw [e] at hr; cases hr) fun i hi => ?_
  obtain ⟨o, ho, hsl⟩ := h i (Nat.zero_le _) hi
  have go : ∀ Q' : Post, (∀ e s H, e ≠ .normal → ¬ Q' e s H) → (∀ a w s' H', Fr n s' a → Holds G H' w → Q' .normal s' H' → phS G st H1 Hs (mkL ops.size (i :: done)) w ∧ runs P .any ops (np (lift G n Q)) (phS G st H1 Hs) fuel (mkL ops.size (i :: done)) a w) → SL P G n ops Q' [o] s H → wpOp P ops (np (lift G n Q)) i (fun a' w' => phS G st H1 Hs ((mkL ops.size done).setIfInBounds i true) w' ∧ runs P .any ops (np (lift G n Q)) (phS G st H1 Hs) fuel ((mkL ops.size done).setIfInBounds i true) a' w') a w := by
    intro Q' hno hq hsl
    have h1 := hsl a w ha hw
    rw [mkL_set]
    unfold wpList at h1
    unfold wpOp
    simp only [ho]
    have hK : ∀ a w, wpList P ops (lift G n Q') [] a w → phS G st H1 Hs (mkL ops.size (i :: done)) w ∧ runs P .any ops (np (lift G n Q)) (phS G st H1 Hs) fuel (mkL ops.size (i :: done)) a w := fun a w hq' => by
      obtain ⟨s', H', ha', hw', h2⟩ := hq'
      exact hq a w s' H' ha' hw' h2
    split
    · rename_i hwn
      rw [if_pos hwn] at h1
      rcases h1 with h1 | ⟨-, a1, w1, s1, H1, -, -, hf⟩
      · exact .inl (Oper.wp_imp hK (fun c a w ⟨_, _, _, _, hq⟩ => hno _ _ _ (by simp) hq) (fun a w ⟨_, _, _, _, hq⟩ => hno _ _ _ (by simp) hq) h1)
      · exact (hno _ _ _ (by simp) hf).elim
    · rename_i hwn
      rw [if_neg hwn] at h1
      exact hK _ _ h1
  rcases hsl with ⟨hne, hsl⟩ | ⟨he, hsl⟩
  · refine go _ (fun e s H he hq => ?_) (fun a w s' H' ha' hw' hq => ?_) hsl
    · cases e <;> first | exact he rfl | exact hq
    · obtain ⟨h2, h3⟩ := hq
      have hst' : (mkL ops.size (i :: done)).getD st true = false := by rw [← mkL_set, getD_set_ne true hne]; exact hst
      refine ⟨?_, h3 h2 hst' a w ha' hw'⟩
      unfold phS
      rw [hst']
      exact h2 w hw'
  · subst he
    have hst' : (mkL ops.size (i :: done)).getD i true = true := by
      rw [← mkL_set]
      by_cases hz : i < (mkL ops.size done).size
      · simp [hz]
      · simp [hz]
    refine go _ (fun e s H he hq => ?_) (fun a w s' H' ha' hw' hq => ?_) hsl
    · cases e <;> first | exact he rfl | exact hq
    · obtain ⟨h2, h3⟩ := hq
      refine ⟨?_, runs_of_held _ _ _ _ hst' (h3 h2 a w ha' hw')⟩
      unfold phS
      rw [hst']
      exact h2 w hw'
theorem g_spt {k : Nat} (h : SPT P G n ops Q st H1 Hs fuel done s H k) : SPT P G n ops Q st H1 Hs fuel done s H k := h
theorem g_spa {k : Nat} (h : SPA P G n ops Q st H1 Hs fuel done s H k) : SPA P G n ops Q st H1 Hs fuel done s H k := h
theorem g_atsp (h : AtQ (spQ P G n ops Q st H1 Hs fuel done) .normal s H) : AtQ (spQ P G n ops Q st H1 Hs fuel done) .normal s H := h
end
end Go.Sx
