/- Calls, rows that grow, regions that draw their order, and the ways' ends, over what is known. -/
import Derived.Test.YtgcnfcgnkfkpeaaSx2
import Derived.Laws.AppendOwnNone
namespace Go.Sx
open Go Go.RowKit Go.Fw

/-- Function f has a body and is entered. -/
def Callee (P : Program) (f : FuncId) : Prop := ∀ args w, (callFunc f args).run P w = .ok (.enter f args) w
theorem callee_of {P : Program} {f : FuncId} {fn : Func} (hf : P.funcs[f]? = some fn) (hn : (fn.name == "runtime.NumGoroutine") = false) (hb : fn.body.isNone = false) : Callee P f := fun args w => by
  simp only [callFunc, program, Sem.run_bind, Sem.run, Result.andThen_ok, hf, hn, hb]
  simp [Sem.run]
/-- A contract: with these arguments and this much held, the call returns. -/
def SC (P : Program) (G : Ctx) (f : FuncId) (args : List Value) (H : List Ent) (R : Value → List Ent → Prop) : Prop :=
  Callee P f ∧ ∀ w, Holds G H w → Calls P f args.toArray w fun e w' => ∃ v H', e = .returned v ∧ Holds G H' w' ∧ R v H'
theorem SC.mono {P : Program} {G : Ctx} {f : FuncId} {args : List Value} {H : List Ent} {R R' : Value → List Ent → Prop} (h : SC P G f args H R) (hr : ∀ v H', R v H' → R' v H') : SC P G f args H R' :=
  ⟨h.1, fun w hw => (h.2 w hw).mono fun _ _ ⟨v, H', he, hw', q⟩ => ⟨v, H', he, hw', hr _ _ q⟩⟩

section
variable {P : Program} {G : Ctx} {n : Nat} {ops : Array Oper} {Q : Post} {s : Fm} {H : List Ent} {o : Oper} {rest : List Oper}

theorem run_call {f : FuncId} {xs : Array Operand} {ats : Array TypeId} {vs : List Value} {a : Act} {w : World} (ho : o.op = .call { callee := .value (.func f), args := xs, argTypes := ats }) (he : Evs s xs.toList vs) (hc : Callee P f) (ha : Fr n s a) : (execOp a.eval o).run P w = .ok (.enter f vs.toArray) w := by
  have e1 : xs.map a.eval = vs.toArray := by
    rw [← he.map ha, ← List.map_toArray, Array.toArray_toList]
  have e2 : execOp a.eval o = callFunc f (#[] ++ xs.map a.eval ++ #[]) := by
    cases o; simp only at ho; subst ho; rfl
  rw [e2, e1]
  simpa using hc vs.toArray w
theorem sl_call {f : FuncId} {xs : Array Operand} {ats : Array TypeId} {vs : List Value} {R : Value → List Ent → Prop} {d : Nat} (hg : o.guard = none) (ho : o.op = .call { callee := .value (.func f), args := xs, argTypes := ats }) (he : Evs s xs.toList vs) (hc : SC P G f vs H R) (h1d : o.dst = some d) (h2d : Nat.blt d n = true)
    (h : ∀ v H', R v H' → SL P G n ops Q rest ((d, v) :: s) H') : SL P G n ops Q (o :: rest) s H := by
  have hd := okd (n := n) h1d h2d
  simp only [← updd h1d] at h
  replace hg : Want ops o s := .inl hg
  exact
  sl_op hg fun a w ha hw K hK => by
    unfold Oper.wp
    rw [run_call ho he hc.1 ha]
    exact (hc.2 w hw).mono fun e w' ⟨v, H', he, hw', q⟩ => by subst he; exact hK _ _ (h v H' q _ _ (ha.put _ _ hd) hw')

/-- A call that yields one value and leaves what is held. -/
def SV (P : Program) (G : Ctx) (f : FuncId) (args : List Value) (H : List Ent) (v : Value) : Prop := SC P G f args H fun u H' => u = v ∧ H' = H
theorem sl_callv {f : FuncId} {xs : Array Operand} {ats : Array TypeId} {vs : List Value} {v : Value} {d : Nat} (hg : o.guard = none) (ho : o.op = .call { callee := .value (.func f), args := xs, argTypes := ats }) (he : Evs s xs.toList vs) (hc : SV P G f vs H v) (h1d : o.dst = some d) (h2d : Nat.blt d n = true)
    (h : SL P G n ops Q rest ((d, v) :: s) H) : SL P G n ops Q (o :: rest) s H := sl_call hg ho he hc h1d h2d fun _ _ ⟨e1, e2⟩ => by subst e1; subst e2; exact h

/-- A slice literal. -/
theorem sl_buildSlice {t e : TypeId} {len sz : Nat} {parts : Array (Nat × Operand)} {vs cs : List Value} {d : Nat} (hg : o.guard = none) (ho : o.op = .buildSlice t len parts) (he : Evs s (parts.toList.map (·.2)) vs) (hu : P.underlying t = some (.slice e)) (hi : (P.info? e).map (·.size) = some sz)
    (hb : builtSlice P e len ((parts.toList.map (·.1)).zip vs) = some cs.toArray) (hl : cs.length = len * sz) (hm : len ≤ 1000) (h1d : o.dst = some d) (h2d : Nat.blt d n = true)
    (h : ∀ b, SL P G n ops Q rest ((d, .slice (some ⟨b, 0, none⟩) len len) :: s) (.own e sz (some ⟨b, 0, none⟩) len len cs :: H)) : SL P G n ops Q (o :: rest) s H := by
  have hd := okd (n := n) h1d h2d
  simp only [← updd h1d] at h
  replace hg : Want ops o s := .inl hg
  exact
  sl_op hg fun a w ha hw K hK => by
    have hp : ((parts.map fun (i, x) => (i, a.eval x)).toList) = (parts.toList.map (·.1)).zip vs := by
      rw [Array.toList_map, ← he.map ha]
      generalize parts.toList = l
      induction l with
      | nil => rfl
      | cons x l ih => obtain ⟨i, x⟩ := x; simp only [List.map_cons, List.zip_cons_cons, ih]
    unfold Oper.wp execOp
    simp only [ho, Sem.run_bind, run_buildSlice w t e len _ cs.toArray hu (by rw [hp]; exact hb), Result.andThen_ok]
    have hw2 := hw.alloc e cs
    have hw3 : Holds G (.own e sz (some ⟨w.heap.size, 0, none⟩) len len cs :: H) (w.alloc (.cells cs.toArray e)) := by
      refine ⟨hw2.below, hw2.base, fun x hx => ?_, List.pairwise_cons.2 ⟨fun y hy k hk => (List.pairwise_cons.1 hw2.apart).1 y hy k hk, (List.pairwise_cons.1 hw2.apart).2⟩⟩
      rcases List.mem_cons.1 hx with rfl | hx
      · have := hw2.ok _ List.mem_cons_self
        exact ⟨hl, .inr ⟨w.heap.size, len, cs.toArray, rfl, this.1, this.2, Nat.le_refl _, by unfold maxLen; omega, by simpa using hl, by rw [← hl]; simp⟩⟩
      · exact hw2.ok x (List.mem_cons_of_mem _ hx)
    exact hK _ _ (h _ _ _ (ha.put _ _ hd) hw3)

theorem Holds.nilrow {w : World} (h : Holds G H w) (e : TypeId) (sz : Nat) : Holds G (.own e sz none 0 0 [] :: H) w := by
  refine ⟨h.below, h.base, fun x hx => ?_, List.pairwise_cons.2 ⟨fun y hy k hk => (by cases hk), h.apart⟩⟩
  rcases List.mem_cons.1 hx with rfl | hx
  · exact World.ownsRow_nil _ _ _ _
  · exact h.ok x hx

theorem run_append_zero {w : World} {B : Nat} {t ty e : TypeId} {i : TypeInfo} {sz len c c2 : Nat} {a a2 : Option Addr} {xs : List Value} (ht : P.underlying t = some (.slice e)) (hi : P.info? e = some i) (hown : w.ownsRow B e sz (.slice a len c) len xs) :
    (Builtin.append_ #[t, t] ty #[.slice a len c, .slice a2 0 c2]).run P w = .ok (.slice a len c) w := by
  rcases hown.2 with ⟨hv, rfl⟩ | ⟨g, cap, cur, hv, _, _, hnc, _⟩
  · simp only [Value.slice.injEq, true_and] at hv
    obtain ⟨rfl, rfl⟩ := hv
    cases a2 <;> simp [Builtin.append_, run_underlying ht, sizeOf, typeInfo, hi, Builtin.lenOf, Builtin.firstCells, loadCells, loadCellsFrom]
  · obtain ⟨rfl, rfl⟩ : a = some ⟨g, 0, none⟩ ∧ c = cap := by simpa [Value.slice.injEq] using hv
    cases a2 <;> simp [Builtin.append_, run_underlying ht, sizeOf, typeInfo, hi, Builtin.lenOf, Builtin.firstCells, loadCells, loadCellsFrom, hnc, storeCells]
theorem run_append_any {w : World} {B : Nat} {t ty e : TypeId} {i : TypeInfo} {z : Value} {len c m c2 : Nat} {a : Option Addr} {ad : Addr} {xs news : List Value} (ht : P.underlying t = some (.slice e)) (hi : P.info? e = some i) (hz : i.zero = some z) (hzs : z.cells.size = i.size) (hsz : 0 < i.size)
    (hown : w.ownsRow B e i.size (.slice a len c) len xs) (hl : news.length = m * i.size) (hnews : ∀ j u, news[j]? = some u → w.cell? (ad.add j) = some u) (h1 : ∀ u ∈ news, u.oneCell' = true) (h63 : len + m ≤ maxLen) (hb : (len + m) * i.bytes ≤ 140737488355328) (hbase : B ≤ w.heap.size) (hm : 0 < m) :
    ∃ a' c' w', (Builtin.append_ #[t, t] ty #[.slice a len c, .slice (some ad) m c2]).run P w = .ok (.slice a' (len + m) c') w' ∧ w'.ownsRow B e i.size (.slice a' (len + m) c') (len + m) (xs ++ news) ∧ w.grownBy w' (Value.slice a len c).ownBlock ∧
      (∀ k, (Value.slice a' (len + m) c').ownBlock = some k → some k = (Value.slice a len c).ownBlock ∨ w.heap.size ≤ k) := by
  obtain ⟨v', w', hr, ho, hg, -⟩ := run_append_own (P := P) w B t ty e i z i.size i.bytes ht hi hz rfl rfl hzs hsz _ len xs hown ad m c2 news hl hnews h1 h63 hb hbase
  have h63' : len + m ≤ 9223372036854775807 := by simp only [maxLen] at h63; omega
  rcases hown.2 with ⟨hv, h0⟩ | ⟨g, cap, cur, hv, hbg, hcells, hnc, hcm, hcs, htake⟩
  · subst h0
    obtain ⟨rfl, rfl⟩ : a = none ∧ c = 0 := by simpa [Value.slice.injEq] using hv
    have hr2 := run_append_nil (P := P) (w := w) t ty e i z ht hi hz ad m c2 news hl hnews hm (by omega) (by rw [Nat.zero_add] at hb; omega)
    rw [hr2] at hr
    injection hr with e1 e2
    rw [← e1] at ho
    rw [Nat.zero_add] at ho ⊢
    exact ⟨_, _, w', by rw [hr2, e2], ho, hg, fun k hk => .inr (by simp only [Value.ownBlock, Option.some.injEq] at hk; omega)⟩
  · obtain ⟨rfl, rfl⟩ : a = some ⟨g, 0, none⟩ ∧ c = cap := by simpa [Value.slice.injEq] using hv
    by_cases hroom : len + m ≤ c
    · have hr2 := run_append_room (P := P) w t ty e i ht hi g len c cur hcells ad m c2 news hl hnews h1 hroom (by rw [hl, hcs, ← Nat.add_mul]; exact Nat.mul_le_mul_right _ hroom)
      rw [hr2] at hr
      injection hr with e1 e2
      rw [← e1] at ho
      exact ⟨_, _, w', by rw [hr2, e2], ho, hg, fun k hk => .inl hk.symm⟩
    · have hr2 := run_append_grow (P := P) (w := w) t ty e i z ht hi hz ⟨g, 0, none⟩ len c xs hown.1 (hown.cells (g := g) rfl) ad m c2 news hl hnews (by omega) (by omega) (growslice_fits (by omega) hb)
      rw [hr2] at hr
      injection hr with e1 e2
      rw [← e1] at ho
      exact ⟨_, _, w', by rw [hr2, e2], ho, hg, fun k hk => .inr (by simp only [Value.ownBlock, Option.some.injEq] at hk; omega)⟩

/-- append, onto a row that the call holds. -/
theorem sl_append {x y : Operand} {t e : TypeId} {a a2 : Option Addr} {len c m c2 sz bytes : Nat} {z : Value} {xs news : List Value} {H' : List Ent} {d : Nat} (hg : o.guard = none) (ho : o.op = .call { callee := .builtin .append, args := #[x, y], argTypes := #[t, t] })
    (hx : ev s x = some (.slice a len c)) (hp : Pick (.own e sz a len c xs) H H') (hy : ev s y = some (.slice a2 m c2)) (hr : Rd G H a2 news) (ht : P.underlying t = some (.slice e)) (hi : (P.info? e).map (fun i => (i.zero, i.size, i.bytes)) = some (some z, sz, bytes))
    (hzs : z.cells.size = sz) (hsz : 0 < sz) (hby : 0 < bytes) (hl : news.length = m * sz) (h1 : ∀ u ∈ news, u.oneCell' = true) (hb : (len + m) * bytes ≤ 140737488355328) (h1d : o.dst = some d) (h2d : Nat.blt d n = true)
    (h : ∀ a' c', SL P G n ops Q rest ((d, .slice a' (len + m) c') :: s) (.own e sz a' (len + m) c' (xs ++ news) :: H')) : SL P G n ops Q (o :: rest) s H := fun act w ha hw => by
  have hd := okd (n := n) h1d h2d
  simp only [← updd h1d] at h
  replace hg : Want ops o s := .inl hg
  have hwp := hw.pick hp
  have hown : w.ownsRow G.B e sz (.slice a len c) len xs := hwp.ok _ List.mem_cons_self
  obtain ⟨i0, hi0, hz0, hz1, hz2⟩ := info_parts hi
  have hlen : len + m ≤ 140737488355328 := Nat.le_trans (Nat.le_mul_of_pos_right _ hby) hb
  have fin : ∀ a' c' w', w'.ownsRow G.B e sz (.slice a' (len + m) c') (len + m) (xs ++ news) → w.grownBy w' (Value.slice a len c).ownBlock → (∀ k, (Value.slice a' (len + m) c').ownBlock = some k → some k = (Value.slice a len c).ownBlock ∨ w.heap.size ≤ k) → wpList P ops (lift G n Q) rest (act.put o.dst (.slice a' (len + m) c')) w' := by
    intro a' c' w' ho' hgr hk
    have hw' : Holds G H' w' := hwp.drop.stepped _ hgr (fun k hk => (World.ownsRow.lt hown k hk).1) (fun x hx k hk e => (List.pairwise_cons.1 hwp.apart).1 x hx k e hk)
    refine h a' c' _ _ (ha.put _ _ hd) ⟨hw'.below, hw'.base, fun x hx => ?_, List.pairwise_cons.2 ⟨fun y hy k hky => ?_, hw'.apart⟩⟩
    · rcases List.mem_cons.1 hx with rfl | hx
      · exact ho'
      · exact hw'.ok x hx
    · intro hyk
      rcases hk k hky with e1 | e1
      · exact (List.pairwise_cons.1 hwp.apart).1 y hy k e1.symm hyk
      · have := (Ent.ok_lt (hwp.ok y (List.mem_cons_of_mem _ hy)) hyk).2
        omega
  refine wpList_step fun K hK => ?_
  rw [if_pos (hg.wanted ha)]
  unfold Oper.wp execOp
  simp only [ho, resolve, invoke, builtin, Sem.run_bind, Sem.run_pure, Result.andThen_ok, List.map_toArray, List.map_cons, List.map_nil, ha.ev hx, ha.ev hy]
  rcases Nat.eq_zero_or_pos m with hm | hm
  · subst hm
    have e0 : news = [] := List.eq_nil_of_length_eq_zero (by simpa using hl)
    subst e0
    simp only [run_append_zero ht hi0 hown, Result.andThen_ok]
    refine hK _ _ (fin a c w ?_ ⟨rfl, rfl, rfl, Nat.le_refl _, fun _ _ _ => rfl⟩ fun k hk => .inl hk.symm)
    rw [Nat.add_zero, List.append_nil]
    exact hown
  · obtain ⟨b, off, rfl, hc⟩ := At.someAt (hr w hw) (by rw [hl]; exact Nat.mul_pos hm hsz)
    subst hz1
    subst hz2
    obtain ⟨a', c', w', hrun, h2, h3, h4⟩ := run_append_any (ty := o.type) (c2 := c2) ht hi0 hz0 hzs hsz hown hl (fun j u hj => by rw [Addr.add_mid]; exact (hc j (List.getElem?_eq_some_iff.1 hj).1).trans hj) h1 (by unfold maxLen; omega) hb hwp.base hm
    simp only [hrun, Result.andThen_ok]
    exact hK _ _ (fin a' c' w' h2 h3 h4)

/-- A region that draws its order, all of whose operations leave what is held. -/
def SQ (P : Program) (G : Ctx) (n : Nat) (ops : Array Oper) (Q : Fm → Prop) (H : List Ent) (l : List Oper) (s : Fm) : Prop := ∀ a, Fr n s a → wpQuiet P ops (fun w => Holds G H w) (fun a' => ∃ s', Fr n s' a' ∧ Q s') l a
theorem sq_nil {Q : Fm → Prop} (h : Q s) : SQ P G n ops Q H [] s := fun _ ha => ⟨s, ha, h⟩
theorem sq_val {Q : Fm → Prop} {v : Value} {d : Nat} (hg : o.guard = none) (hy : Yields P G n s H o v) (h1d : o.dst = some d) (h2d : Nat.blt d n = true) (h : SQ P G n ops Q H rest ((d, v) :: s)) : SQ P G n ops Q H (o :: rest) s := fun a ha => by
  have hd := okd (n := n) h1d h2d
  simp only [← updd h1d] at h
  replace hg : Want ops o s := .inl hg
  refine wpQuiet_step fun K hK => ?_
  rw [if_pos (hg.wanted ha)]
  refine ⟨v, fun w hw => ?_, hK _ (h _ (ha.put _ _ hd))⟩
  unfold Oper.quietAt
  rw [hy a w ha hw]
  exact ⟨rfl, rfl⟩
theorem sq_call {Q : Fm → Prop} {f : FuncId} {xs : Array Operand} {ats : Array TypeId} {vs : List Value} {v : Value} {d : Nat} (hg : o.guard = none) (ho : o.op = .call { callee := .value (.func f), args := xs, argTypes := ats }) (he : Evs s xs.toList vs) (hc : SV P G f vs H v) (h1d : o.dst = some d) (h2d : Nat.blt d n = true)
    (h : SQ P G n ops Q H rest ((d, v) :: s)) : SQ P G n ops Q H (o :: rest) s := fun a ha => by
  have hd := okd (n := n) h1d h2d
  simp only [← updd h1d] at h
  replace hg : Want ops o s := .inl hg
  refine wpQuiet_step fun K hK => ?_
  rw [if_pos (hg.wanted ha)]
  refine ⟨v, fun w hw => ?_, hK _ (h _ (ha.put _ _ hd))⟩
  unfold Oper.quietAt
  rw [run_call ho he hc.1 ha]
  refine ⟨rfl, (hc.2 w hw).mono fun e w' ⟨u, H', he, hw', e1, e2⟩ => ?_⟩
  subst e1; subst e2
  exact ⟨he, hw'⟩
theorem sq_unguard {Q : Fm → Prop} {i d : Nat} {b : Bool} {o' : Oper} (hg : o.guard = some (i, b)) (ho : ops[i]? = some o') (hd : o'.dst = some d) (hl : look s d = some (.bool b)) (h : SQ P G n ops Q H ({ o with guard := none } :: rest) s) : SQ P G n ops Q H (o :: rest) s := fun a ha => by
  have hwant : Region.wanted o (yielded ops a.tmps) = true := Want.wanted (.inr ⟨i, b, o', d, hg, ho, hd, hl⟩) ha
  have h' := h a ha
  unfold wpQuiet at h' ⊢
  rw [if_pos hwant]
  rw [if_pos (by simp [Region.wanted])] at h'
  exact h'
theorem sq_skip {Q : Fm → Prop} {d : Nat} (hg : ∀ a, Fr n s a → Region.wanted o (yielded ops a.tmps) = false) (h1 : o.dst = some d) (h2 : Nat.blt d n = true) (h : SQ P G n ops Q H rest ((d, undef) :: s)) : SQ P G n ops Q H (o :: rest) s := fun a ha => by
  refine wpQuiet_step fun K hK => ?_
  rw [if_neg (by rw [hg a ha]; decide)]
  rw [← updd h1] at h
  exact hK _ (h _ (ha.put _ _ (okd h1 h2)))
theorem sq_split {Q : Fm → Prop} {i d : Nat} {b c : Bool} {o' : Oper} (hg : o.guard = some (i, b)) (ho : ops[i]? = some o') (hd : o'.dst = some d) (hl : look s d = some (.bool c))
    (ht : c = true → SQ P G n ops Q H (o :: rest) ((d, .bool true) :: s)) (hf : c = false → SQ P G n ops Q H (o :: rest) ((d, .bool false) :: s)) : SQ P G n ops Q H (o :: rest) s := by
  have key : ∀ v, look s d = some v → ∀ a, Fr n s a → Fr n ((d, v) :: s) a := fun v hv a ha => ⟨ha.defers, ha.size, fun i u hi => by
    simp only [look] at hi
    cases hb : Nat.beq i d with
    | true => rw [hb, cond_true, Option.some.injEq] at hi; subst hi; rw [Nat.eq_of_beq_eq_true hb]; exact ha.has d _ hv
    | false => rw [hb, cond_false] at hi; exact ha.has i u hi⟩
  cases c
  · exact fun a ha => hf rfl a (key _ hl a ha)
  · exact fun a ha => ht rfl a (key _ hl a ha)
theorem sw_drawn {id : Nat} {l : List Oper} (hm : P.follows .mixedOrders = true) (hB : Region.lexB .any l.toArray = true) (h : SQ P G n l.toArray (fun s' => AtQ Q .normal s' H) H l s) : SW P G n (.region id l.toArray true) Q s H := fun a w ha hw =>
  wp_region_quiet (C := fun w => Holds G H w) hm hB hw.drew (by
    have hmono : ∀ (l' : List Oper) a, wpQuiet P l.toArray (fun w => Holds G H w) (fun a' => ∃ s', Fr n s' a' ∧ AtQ Q .normal s' H) l' a → wpQuiet P l.toArray (fun w => Holds G H w) (fun a' => ∀ w', Holds G H w' → lift G n Q .normal a' w') l' a := by
      intro l'
      induction l' with
      | nil => exact fun a ⟨s', hs', hq⟩ w' hw' => ⟨s', H, hs', hw', hq⟩
      | cons o r ih =>
        intro a hh
        unfold wpQuiet at hh ⊢
        split
        · rename_i hwn; rw [if_pos hwn] at hh; obtain ⟨v, h1, h2⟩ := hh; exact ⟨v, h1, ih _ h2⟩
        · rename_i hwn; rw [if_neg hwn] at hh; exact ih _ hh
    simpa using hmono l a (h a ha))

/-- The results. -/
inductive Res (s : Fm) (H : List Ent) (P : Program) : List ResultVar → List Value → Prop where
  | nil : Res s H P [] []
  | tmp {t : Nat} {v : Value} {l : List ResultVar} {vs : List Value} (h : look s t = some v) (hr : Res s H P l vs) : Res s H P (.tmp t :: l) (v :: vs)
  | agg {p b : Nat} {t t' : TypeId} {d : TypeDesc} {cs : List Value} {l : List ResultVar} {vs : List Value} (h : look s p = some (.pointer (some ⟨b, 0, none⟩))) (hm : Ent.blk b t' cs ∈ H) (hu : P.underlying t = some d) (hrow : rowB d = true) (hi : (P.info? t).map (·.size) = some cs.length) (hr : Res s H P l vs) : Res s H P (.cell p t :: l) (.agg cs.toArray :: vs)
  | cell {p b : Nat} {t t' : TypeId} {d : TypeDesc} {v : Value} {l : List ResultVar} {vs : List Value} (h : look s p = some (.pointer (some ⟨b, 0, none⟩))) (hm : Ent.blk b t' [v] ∈ H) (hu : P.underlying t = some d) (hrow : rowB d = false) (hr : Res s H P l vs) : Res s H P (.cell p t :: l) (v :: vs)
def resV : List Value → Value
  | [v] => v
  | vs => .tuple vs.toArray
def rget (tmps : Array Value) : ResultVar → Sem Value
  | .tmp t => pure (tmps.getD t undef)
  | .cell p t => do loadVar t (← asAddr (tmps.getD p undef))
theorem Res.run {rs : List ResultVar} {vs : List Value} (h : Res s H P rs vs) {a : Act} {w : World} (ha : Fr n s a) (hw : Holds G H w) : (rs.mapM (rget a.tmps)).run P w = .ok vs w := by
  have step : ∀ (r : ResultVar) (v : Value) (l : List ResultVar) (vs : List Value), (rget a.tmps r).run P w = .ok v w → (l.mapM (rget a.tmps)).run P w = .ok vs w → ((r :: l).mapM (rget a.tmps)).run P w = .ok (v :: vs) w := by
    intro r v l vs h1 h2
    simp only [List.mapM_cons, Sem.run_bind, h1, h2, Result.andThen_ok, Sem.run_pure]
  induction h with
  | nil => rfl
  | tmp h _ ih => exact step _ _ _ _ (by simp only [rget, ha.has _ _ h, Sem.run_pure]) ih
  | agg h hm hu hrow hi _ ih =>
    refine step _ _ _ _ ?_ ih
    have := run_load_cells (P := P) (w := w) hu hrow hi fun j v hj => by rw [Nat.zero_add]; exact (row_cell (hw.ok _ hm).2).trans hj
    simp only [Instr.loadAt, Instr.sureAddr, Sem.run_bind, Sem.run_pure, Result.andThen_ok] at this
    simp only [rget, ha.has _ _ h, asAddr, Sem.run_bind, Sem.run_pure, Result.andThen_ok, this]
  | cell h hm hu hrow _ ih =>
    refine step _ _ _ _ ?_ ih
    have := run_load_cell (P := P) (w := w) hu hrow ((row_cell (i := 0) (hw.ok _ hm).2).trans rfl)
    simp only [Instr.loadAt, Instr.sureAddr, Sem.run_bind, Sem.run_pure, Result.andThen_ok] at this
    simp only [rget, ha.has _ _ h, asAddr, Sem.run_bind, Sem.run_pure, Result.andThen_ok, this]
/-- What a function's end owes. -/
def fpost (G : Ctx) (P : Program) (rs : List ResultVar) (R : Value → List Ent → Prop) : Post
  | .normal, s, H | .ret, s, H => ∃ vs H', Res s H P rs vs ∧ (∀ w, Holds G H w → Holds G H' w) ∧ R (resV vs) H'
  | _, _, _ => False
theorem run_results {fn : Func} {rs : List ResultVar} {vs : List Value} (hrs : fn.results = rs.toArray) (h : Res s H P rs vs) {a : Act} {w : World} (ha : Fr n s a) (hw : Holds G H w) : (results fn a.tmps).run P w = .ok (resV vs) w := by
  have e : results fn a.tmps = (do let vs ← fn.results.mapM (rget a.tmps); pure (if h : vs.size = 1 then vs[0] else .tuple vs)) := by
    have er : (fun | .tmp t => pure (a.tmps.getD t undef) | .cell p t => do loadVar t (← asAddr (a.tmps.getD p undef)) : ResultVar → Sem Value) = rget a.tmps := by funext r; cases r <;> rfl
    rw [← er]
    rfl
  rw [e, hrs, List.mapM_toArray]
  simp only [Sem.run_bind, Sem.run_map, h.run ha hw, Result.andThen_ok, Sem.run_pure]
  cases vs with
  | nil => rfl
  | cons v r => cases r <;> rfl
theorem at_fpost {rs : List ResultVar} {R : Value → List Ent → Prop} {vs : List Value} {H' : List Ent} (e : Exit) (he : e = .normal ∨ e = .ret) (hr : Res s H P rs vs) (hH : ∀ w, Holds G H w → Holds G H' w) (h : R (resV vs) H') : AtQ (fpost G P rs R) e s H := by
  rcases he with rfl | rfl <;> exact ⟨vs, H', hr, hH, h⟩

theorem at_thn {y : Code} (h : SW P G n y Q s H) : AtQ (thn (SW P G n y Q) Q) .normal s H := h
theorem at_thn_ret {next : Fm → List Ent → Prop} (h : AtQ Q .ret s H) : AtQ (thn next Q) .ret s H := h
theorem at_thn_exit {next : Fm → List Ent → Prop} {id : Nat} (h : AtQ Q (.exit id) s H) : AtQ (thn next Q) (.exit id) s H := h
theorem at_inb {id : Nat} (h : AtQ Q .normal s H) : AtQ (inb id Q) .normal s H := h
theorem at_inb_ret {id : Nat} (h : AtQ Q .ret s H) : AtQ (inb id Q) .ret s H := h
theorem at_inb_exit {id : Nat} (h : AtQ Q .normal s H) : AtQ (inb id Q) (.exit id) s H := by show (if id = id then Q .normal s H else Q (.exit id) s H); rw [if_pos rfl]; exact h
theorem at_inb_pass {id id' : Nat} (hne : Nat.beq id' id = false) (h : AtQ Q (.exit id') s H) : AtQ (inb id Q) (.exit id') s H := by
  show (if id' = id then Q .normal s H else Q (.exit id') s H); rw [if_neg (fun e => by subst e; rw [Nat.beq_refl] at hne; cases hne)]; exact h
theorem at_round {next : Fm → List Ent → Prop} (h : next s H) : AtQ (thn next Q) .normal s H := h
end

/-- The slots of the arguments. -/
def ini : List Value → Nat → Fm
  | [], _ => []
  | v :: r, i => (i, v) :: ini r (i + 1)
theorem look_ini (l : List Value) : ∀ (k i : Nat) (v : Value), look (ini l k) i = some v → k ≤ i ∧ l[i - k]? = some v := by
  induction l with
  | nil => intro k i v h; simp [ini, look] at h
  | cons x l ih =>
    intro k i v h
    simp only [ini, look] at h
    cases hb : Nat.beq i k with
    | true =>
      rw [hb, cond_true, Option.some.injEq] at h
      have := Nat.eq_of_beq_eq_true hb
      subst this; subst h
      simp
    | false =>
      rw [hb, cond_false] at h
      obtain ⟨h1, h2⟩ := ih (k + 1) i v h
      refine ⟨by omega, ?_⟩
      rw [show i - k = (i - (k + 1)) + 1 from by omega]
      exact h2
theorem sc_enter {P : Program} {G : Ctx} {f : FuncId} {fn : Func} {c : Code} {n : Nat} {args : List Value} {H : List Ent} {R : Value → List Ent → Prop} {rs : List ResultVar} (hf : P.funcs[f]? = some fn) (hb : fn.body = some c) (hn : (fn.name == "runtime.NumGoroutine") = false) (hnt : some fn.ntmps = some n) (hrs : fn.results = rs.toArray) (hl : Nat.ble args.length n = true)
    (h : SW P G n c (fpost G P rs R) (ini args 0) H) : SC P G f args H R := by
  refine ⟨callee_of hf hn (by rw [hb]; rfl), fun w hw => calls_of_wp hf hb ?_⟩
  have hl' : args.length ≤ n := Nat.le_of_ble_eq_true hl
  refine wp_mono (h _ w ⟨rfl, ?_, fun i v hi => ?_⟩ hw) fun e a' w' ⟨s', H', ha', hw', hq⟩ => ?_
  · have hnt := Option.some.inj hnt
    simp [hnt]; omega
  · obtain ⟨-, h2⟩ := look_ini _ _ _ _ hi
    rw [Nat.sub_zero] at h2
    have hlt := (List.getElem?_eq_some_iff.1 h2).1
    simp only [Array.getD_eq_getD_getElem?, Array.getElem?_append, List.size_toArray, hlt, if_true, List.getElem?_toArray, h2, Option.getD_some]
  · cases e with
    | normal => obtain ⟨vs, H2, h1, h2, h3⟩ := hq; exact ⟨ha'.defers, _, run_results hrs h1 ha' hw', _, H2, rfl, h2 _ hw', h3⟩
    | ret => obtain ⟨vs, H2, h1, h2, h3⟩ := hq; exact ⟨ha'.defers, _, run_results hrs h1 ha' hw', _, H2, rfl, h2 _ hw', h3⟩
    | _ => exact hq.elim
theorem sc_enter' {P : Program} {G : Ctx} {f : FuncId} {fn : Func} {c : Code} {n : Nat} {args : List Value} {H : List Ent} {R : Value → List Ent → Prop} {rs : List ResultVar} {s : Fm} (hs : ini args 0 = s) (hf : P.funcs[f]? = some fn) (hb : fn.body = some c) (hn : (fn.name == "runtime.NumGoroutine") = false) (hnt : some fn.ntmps = some n) (hrs : fn.results = rs.toArray) (hl : Nat.ble args.length n = true)
    (h : SW P G n c (fpost G P rs R) s H) : SC P G f args H R := by subst hs; exact sc_enter hf hb hn hnt hrs hl h
theorem sc_enter0 {P : Program} {G : Ctx} {f : FuncId} {fn : Func} {c : Code} {n : Nat} {H : List Ent} {R : Value → List Ent → Prop} {rs : List ResultVar} (hf : P.funcs[f]? = some fn) (hb : fn.body = some c) (hn : (fn.name == "runtime.NumGoroutine") = false) (hnt : some fn.ntmps = some n) (hrs : fn.results = rs.toArray) (hl : Nat.ble 0 n = true)
    (h : SW P G n c (fpost G P rs R) [] H) : SC P G f [] H R := sc_enter hf hb hn hnt hrs hl h
theorem sc_enter1 {P : Program} {G : Ctx} {f : FuncId} {fn : Func} {c : Code} {n : Nat} {v0 : Value} {H : List Ent} {R : Value → List Ent → Prop} {rs : List ResultVar} (hf : P.funcs[f]? = some fn) (hb : fn.body = some c) (hn : (fn.name == "runtime.NumGoroutine") = false) (hnt : some fn.ntmps = some n) (hrs : fn.results = rs.toArray) (hl : Nat.ble 1 n = true)
    (h : SW P G n c (fpost G P rs R) [(0, v0)] H) : SC P G f [v0] H R := sc_enter hf hb hn hnt hrs hl h
theorem sc_enter2 {P : Program} {G : Ctx} {f : FuncId} {fn : Func} {c : Code} {n : Nat} {v0 v1 : Value} {H : List Ent} {R : Value → List Ent → Prop} {rs : List ResultVar} (hf : P.funcs[f]? = some fn) (hb : fn.body = some c) (hn : (fn.name == "runtime.NumGoroutine") = false) (hnt : some fn.ntmps = some n) (hrs : fn.results = rs.toArray) (hl : Nat.ble 2 n = true)
    (h : SW P G n c (fpost G P rs R) [(0, v0), (1, v1)] H) : SC P G f [v0, v1] H R := sc_enter hf hb hn hnt hrs hl h
theorem sc_enter3 {P : Program} {G : Ctx} {f : FuncId} {fn : Func} {c : Code} {n : Nat} {v0 v1 v2 : Value} {H : List Ent} {R : Value → List Ent → Prop} {rs : List ResultVar} (hf : P.funcs[f]? = some fn) (hb : fn.body = some c) (hn : (fn.name == "runtime.NumGoroutine") = false) (hnt : some fn.ntmps = some n) (hrs : fn.results = rs.toArray) (hl : Nat.ble 3 n = true)
    (h : SW P G n c (fpost G P rs R) [(0, v0), (1, v1), (2, v2)] H) : SC P G f [v0, v1, v2] H R := sc_enter hf hb hn hnt hrs hl h
theorem sc_enter4 {P : Program} {G : Ctx} {f : FuncId} {fn : Func} {c : Code} {n : Nat} {v0 v1 v2 v3 : Value} {H : List Ent} {R : Value → List Ent → Prop} {rs : List ResultVar} (hf : P.funcs[f]? = some fn) (hb : fn.body = some c) (hn : (fn.name == "runtime.NumGoroutine") = false) (hnt : some fn.ntmps = some n) (hrs : fn.results = rs.toArray) (hl : Nat.ble 4 n = true)
    (h : SW P G n c (fpost G P rs R) [(0, v0), (1, v1), (2, v2), (3, v3)] H) : SC P G f [v0, v1, v2, v3] H R := sc_enter hf hb hn hnt hrs hl h
theorem sc_enter5 {P : Program} {G : Ctx} {f : FuncId} {fn : Func} {c : Code} {n : Nat} {v0 v1 v2 v3 v4 : Value} {H : List Ent} {R : Value → List Ent → Prop} {rs : List ResultVar} (hf : P.funcs[f]? = some fn) (hb : fn.body = some c) (hn : (fn.name == "runtime.NumGoroutine") = false) (hnt : some fn.ntmps = some n) (hrs : fn.results = rs.toArray) (hl : Nat.ble 5 n = true)
    (h : SW P G n c (fpost G P rs R) [(0, v0), (1, v1), (2, v2), (3, v3), (4, v4)] H) : SC P G f [v0, v1, v2, v3, v4] H R := sc_enter hf hb hn hnt hrs hl h
/-- The end of a function that hands back one value and nothing new. -/
theorem at_sv {P : Program} {G : Ctx} {s : Fm} {H H0 : List Ent} {rs : List ResultVar} {vs : List Value} {v : Value} (e : Exit) (he : e = .normal ∨ e = .ret) (hr : Res s H P rs vs) (hH : H0.Sublist H) (h : resV vs = v) : AtQ (fpost G P rs fun u H' => u = v ∧ H' = H0) e s H :=
  at_fpost e he hr (fun _ hw => hw.sub hH) ⟨h, rfl⟩
theorem at_sc {P : Program} {G : Ctx} {s : Fm} {H H' : List Ent} {rs : List ResultVar} {vs : List Value} {R : Value → List Ent → Prop} (e : Exit) (he : e = .normal ∨ e = .ret) (hr : Res s H P rs vs) (hH : H'.Sublist H) (h : R (resV vs) H') : AtQ (fpost G P rs R) e s H :=
  at_fpost e he hr (fun _ hw => hw.sub hH) h
end Go.Sx
