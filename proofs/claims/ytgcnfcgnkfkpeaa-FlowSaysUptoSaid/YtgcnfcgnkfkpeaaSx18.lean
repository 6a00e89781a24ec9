/- More rules: a store of several cells, into a part of a block, into a row. -/
import Derived.Test.YtgcnfcgnkfkpeaaSx17
import Derived.Laws.CopyRow
namespace Go.Sx
open Go Go.RowKit Go.Fw
section
variable {P : Program} {G : Ctx} {n : Nat} {ops : Array Oper} {Q : Post} {s : Fm} {H : List Ent} {o : Oper} {rest : List Oper}
/-- These cells, from there on, written over. -/
def over (cs : List Value) (off : Nat) (vs : List Value) : List Value := cs.take off ++ vs ++ cs.drop (off + vs.length)
theorem over_len {cs vs : List Value} {off : Nat} (h : off + vs.length ≤ cs.length) : (over cs off vs).length = cs.length := by
  simp [over]; omega
theorem run_store_part {w : World} {t ty g off : Nat} {cs vs : List Value} (hg : w.heap[g]? = some (.cells cs.toArray t (0, 0))) (hi : (P.info? ty).map (·.size) = some vs.length) (hl : off + vs.length ≤ cs.length) (h1 : ∀ v ∈ vs, v.oneCell' = true) :
    (Instr.storeAt ty (.pointer (some ⟨g, off, none⟩)) (.agg vs.toArray)).run P w = .ok () (w.setRow g (over cs off vs).toArray) := by
  have hst := run_storeCells_at P g off t vs 0 cs.toArray w hg (by simpa using hl) h1
  cases hq : P.info? ty with
  | none => simp [hq] at hi
  | some i =>
    have hs : vs.length = i.size := by simp [hq] at hi; omega
    simp only [Nat.add_zero] at hst
    simp [Instr.storeAt, Instr.sureAddr, storeVar, sizeOf, typeInfo, hq, Value.cells, hs, hst, over]
theorem all_one {vs : List Value} (h : vs.all (·.oneCell') = true) : ∀ v ∈ vs, v.oneCell' = true := fun v hv => List.all_eq_true.1 h v hv
theorem sl_store_part {t t' : TypeId} {x y : Operand} {b off : Nat} {cs vs : List Value} {H' : List Ent} (hg : o.guard = none) (ho : o.op = .store t x y) (hx : ev s x = some (.pointer (some ⟨b, off, none⟩))) (hy : ev s y = some (.agg vs.toArray)) (hp : Pick (.blk b t' cs) H H') (h1 : vs.all (·.oneCell') = true)
    (hi : (P.info? t).map (·.size) = some vs.length) (hl : off + vs.length ≤ cs.length) (hd : o.dst = none) (h : SL P G n ops Q rest s (.blk b t' (over cs off vs) :: H')) : SL P G n ops Q (o :: rest) s H :=
  sl_op (.inl hg) fun a w ha hw K hK => by
    have hw := hw.pick hp
    have hrow := (hw.ok _ List.mem_cons_self).2
    unfold Oper.wp execOp
    simp only [ho, ha.ev hx, ha.ev hy, Sem.run_bind, run_store_part hrow hi hl (all_one h1), Result.andThen_ok]
    have hw' : Holds G (.blk b t' (over cs off vs) :: H') (w.setRow b (over cs off vs).toArray) := hw.set (setRow_heap w b _ _ t' (0, 0) hrow) (fun k hk => setRow_other w b k _ hk) (by simp [World.setRow]) rfl rfl rfl
    exact hK _ _ (h _ _ (by rw [hd]; exact ha) hw')
/-- Several cells, into a part of a block. -/
theorem c_storep {t t' sz : Nat} {x y : Operand} {b off : Nat} {cs vs : List Value} {H' : List Ent} (hg : o.guard = none) (ho : o.op = .store t x y) [h : Ag P t sz] (hx : ev s x = some (.pointer (some ⟨b, off, none⟩))) (hy : ev s y = some (.agg vs.toArray)) [hp : PickBlk H b t' cs H'] (h1 : vs.all (·.oneCell') = true)
    (hv : vs.length = sz) (hl : off + sz ≤ cs.length) (hd : o.dst = none) (hk : SL P G n ops Q rest s (.blk b t' (over cs off vs) :: H')) : SL P G n ops Q (o :: rest) s H := by
  obtain ⟨d, -, -, h3⟩ := h.here
  subst hv
  exact sl_store_part hg ho hx hy hp.here h1 h3 hl hd hk
/-- Several cells, into a row that the call holds. -/
theorem c_storees {t e sz sz2 len c k : Nat} {x y : Operand} {a : Option Addr} {xs vs : List Value} {H' : List Ent} (hg : o.guard = none) (ho : o.op = .store t x y) [h : Ag P t sz2] (hx : ev s x = some (elemPtr a k)) (hy : ev s y = some (.agg vs.toArray)) [hp : PickOwn H a e sz len c xs H'] (h1 : vs.all (·.oneCell') = true)
    (hv : vs.length = sz2) (h0 : 0 < sz2) (hl : k + sz2 ≤ xs.length) (hd : o.dst = none) (hk : SL P G n ops Q rest s (.own e sz a len c (over xs k vs) :: H')) : SL P G n ops Q (o :: rest) s H := by
  obtain ⟨d, -, -, h3⟩ := h.here
  subst hv
  refine sl_op (.inl hg) fun act w ha hw K hK => ?_
  have hw := hw.pick hp.here
  have hown : w.ownsRow G.B e sz (.slice a len c) len xs := hw.ok _ List.mem_cons_self
  obtain ⟨hlen, ⟨hv, h0'⟩ | ⟨g, cap, cur, hv, hB, hh, hn, hm, hs, ht⟩⟩ := id hown
  · subst h0'; rw [hlen, Nat.zero_mul] at hl; omega
  · obtain ⟨rfl, rfl⟩ : a = some ⟨g, 0, none⟩ ∧ c = cap := by simpa [Value.slice.injEq] using hv
    have hcl : k + vs.length ≤ cur.toList.length := by
      have e : xs.length ≤ cur.toList.length := by rw [← ht, List.length_take]; exact Nat.min_le_right _ _
      omega
    have hrun := run_store_part (P := P) (w := w) (t := e) (ty := t) (g := g) (off := k) (cs := cur.toList) (by simpa using hh) h3 hcl (all_one h1)
    unfold Oper.wp execOp
    simp only [ho, ha.ev hx, ha.ev hy, elemPtr, Option.map_some, Addr.add_mid, Nat.zero_add, Sem.run_bind, hrun, Result.andThen_ok]
    obtain ⟨hap, hapH⟩ := List.pairwise_cons.1 hw.apart
    have e2 : (over cur.toList k vs).take (len * sz) = over xs k vs := by
      have h4 : k + vs.length ≤ len * sz := by rw [← hlen]; exact hl
      unfold over
      rw [← ht, List.take_take, Nat.min_eq_left (by omega), List.drop_take]
      have h3 : (cur.toList.take k).length = k := by rw [List.length_take]; omega
      rw [List.take_append, List.take_of_length_le (by rw [List.length_append, h3]; omega)]
      congr 2
      rw [List.length_append, h3]
    have hw' : Holds G (.own e sz (some ⟨g, 0, none⟩) len c (over xs k vs) :: H') (w.setRow g (over cur.toList k vs).toArray) := by
      refine ⟨below_setRow hw.below hB _, by simpa using hw.base, fun z hz => ?_, List.pairwise_cons.2 ⟨fun y hy k hk => hap y hy k hk, hapH⟩⟩
      rcases List.mem_cons.1 hz with rfl | hz
      · refine ⟨?_, .inr ⟨g, c, (over cur.toList k vs).toArray, rfl, hB, setRow_heap w g _ _ e (0, 0) hh, hn, hm, ?_, by rw [List.toList_toArray]; exact e2⟩⟩
        · rw [over_len hl]; exact hlen
        · rw [List.size_toArray, over_len hcl, Array.length_toList]; exact hs
      · exact Ent.ok_of (hw.ok z (List.mem_cons_of_mem _ hz)) fun j hj => setRow_other w g j _ (fun e => hap z hz g rfl (e ▸ hj))
    exact hK _ _ (hk _ _ (by rw [hd]; exact ha) hw')
/-- A row that is made, full of noughts, its elements of several cells. -/
theorem c_makes {t e sz bytes d : Nat} {x y : Operand} {k k' : IntKind} {m : Int} {zs : List Value} (hg : o.guard = none) (ho : o.op = .makeSlice t x y) [hT : SliceT P t e sz bytes] [hz : ZeroT P e zs] (hx : ev s x = some (.int k m)) (hy : ev s y = some (.int k' m)) (h0 : 0 ≤ m) (h1 : (bytes : Int) * m ≤ 140737488355328) (hb : m ≤ 140737488355328) (h1d : o.dst = some d) (h2d : Nat.blt d n = true)
    (hk : ∀ b, SL P G n ops Q rest ((d, .slice (some ⟨b, 0, none⟩) m.toNat m.toNat) :: s) (.own e sz (some ⟨b, 0, none⟩) m.toNat m.toNat (madeCells zs.toArray (m.toNat * sz)).toList :: H)) : SL P G n ops Q (o :: rest) s H := by
  obtain ⟨hu, -, hby, z', hzi, hzs⟩ := hT.here
  obtain ⟨u, hu1, hu2⟩ := hz.here
  obtain ⟨i, hi, hiz⟩ := zero_info hu1
  have hib : i.bytes = bytes ∧ i.size = sz := by
    rw [hi] at hzi
    simp only [Option.map_some, Option.some.injEq, Prod.mk.injEq] at hzi
    exact ⟨hzi.2.2, hzi.2.1⟩
  refine sl_op (.inl hg) fun act w ha hw K hK => ?_
  have hrun := run_make (P := P) w t e i u hu hi hiz k k' m m h0 (Int.le_refl _) (by rw [hib.1]; omega) (by omega)
  unfold Oper.wp execOp
  simp only [ho, ha.ev hx, ha.ev hy, Sem.run_bind, hrun, Result.andThen_ok]
  rw [hib.2, hu2.cells]
  have hw2 := hw.alloc e (madeCells zs.toArray (m.toNat * sz)).toList
  have hw3 : Holds G (.own e sz (some ⟨w.heap.size, 0, none⟩) m.toNat m.toNat (madeCells zs.toArray (m.toNat * sz)).toList :: H) (w.alloc (.cells (madeCells zs.toArray (m.toNat * sz)) e)) := by
    refine ⟨hw2.below, hw2.base, fun x hx => ?_, List.pairwise_cons.2 ⟨fun y hy k hk => (List.pairwise_cons.1 hw2.apart).1 y hy k hk, (List.pairwise_cons.1 hw2.apart).2⟩⟩
    rcases List.mem_cons.1 hx with rfl | hx
    · have := hw2.ok _ List.mem_cons_self
      refine ⟨by simp [madeCells], .inr ⟨w.heap.size, m.toNat, _, rfl, this.1, this.2, Nat.le_refl _, by unfold maxLen; omega, by simp [madeCells], ?_⟩⟩
      rw [List.toList_toArray, List.take_of_length_le (by simp [madeCells])]
    · exact hw2.ok x (List.mem_cons_of_mem _ hx)
  have hp := hk w.heap.size
  rw [← updd h1d] at hp
  exact hK _ _ (hp _ _ (ha.put _ _ (okd h1d h2d)) hw3)
end
end Go.Sx
