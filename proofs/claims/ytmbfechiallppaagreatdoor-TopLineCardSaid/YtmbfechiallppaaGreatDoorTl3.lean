/- Texts of this claim, merged: SxM SxN Scr1 Trm1 SanP Grid17 Grid18 Grid22 Grid15 Grid23 SanQ Trm2 Page Page2 Slc Slc2 Trm3 Par1 Trm4 Trm5 Chk1 Chk2 Chk3 Cho Sorts Bet. -/
import Derived.Test.YtmbfechiallppaaGreatDoorTl2
import Derived.WalkKit
import Derived.WalkSpells
import Derived.WalkLawsBesides
import Derived.Handy
import Derived.Lib.Hide
import Derived.Laws.BitsAllLaws
import Derived.Deep.MidRow
import Derived.Deep.WholeRow
import Derived.BigQuiet
import Derived.Laws.CopyOwn
import Derived.Deep.QuietTactic
import Derived.Laws.AppendOwnNone
import Derived.Laws.MakeOwn
import Derived.Laws.IdiomStrings
import Derived.OrdersHeld
import Derived.Lib.SliceRun
import Derived.ChangeKeysEq
import Derived.Laws.CopyRow
import Derived.Lib.AppendStr
import Derived.ArgAppend
import Derived.Laws.RangeAny
import Derived.Maps.RangeRun
import Derived.Test.YtmbfechiallppaaGreatDoorRows
import Derived.StillTailTactics
import Derived.RegionTactic
import Derived.ChangeAlike
import Derived.Lib.Replace
section
namespace Go.Sx
open Go Go.RowKit Go.Fw
def flatB : TypeDesc → Bool
  | .int _ | .string | .bool => true
  | _ => false
/-- A map's type: its keys are flat. -/
class MapT (P : Program) (t : TypeId) (k e : outParam TypeId) (kd : outParam TypeDesc) : Prop where
  here : P.underlying t = some (.map k e)
  key : P.underlying k = some kd
  flat : flatB kd = true
section
variable {P : Program}
theorem run_checkKey_flat {k : TypeId} {kd : TypeDesc} (hk : P.underlying k = some kd) (hf : flatB kd = true) (em : Bool) (m : Nat) (v : Value) (w : World) : (Instr.checkKey em (m + 1) k v).run P w = .ok () w := by
  unfold Instr.checkKey
  simp only [Sem.run_bind, run_underlying hk, Result.andThen_ok]
  cases kd <;> (first | (simp [flatB] at hf; done) | rfl)
theorem run_update_new {t k e : TypeId} {kd : TypeDesc} {w : World} {r clock : Nat} {es : Array MapEntry} {key v : Value} (h : MapT P t k e kd) (hb : w.heap[r]? = some (.map es clock)) (hn : Instr.findNow kd key es.toList 0 = some none) :
    (Instr.mapUpdate t (.map (some r)) key v).run P w = .ok () { w with heap := w.heap.setIfInBounds r (.map (es.push ⟨key, v, clock⟩) (clock + 1)) } := by
  simp [Instr.mapUpdate, run_underlying h.here, run_underlying h.key, MapKept.run_getObj_map hb, run_checkKey_flat h.key h.flat, Instr.findKey, hn, Result.andThen, setObj, Sem.run, hb]
end
section
variable {P : Program} {G : Ctx} {n : Sz} {ops : Array Oper} {Q : Post} {s : Fm} {H : List Ent} {o : Oper} {rest : List Oper}
theorem c_makeMap {t d : Nat} (hg : o.guard = none) (ho : o.op = .makeMap t none) (h1 : o.dst = some d) (h2 : Nat.blt d n.n = true)
    (hk : ∀ r, SL P G n ops Q rest ((d, .map (some r)) :: s) (.obj r (.map #[] 0) :: H)) : SL P G n ops Q (o :: rest) s H := by
  have hd := okd (n := n) h1 h2
  simp only [← updd h1] at hk
  refine sl_op (.inl hg) fun act w ha hw K hK => ?_
  have hrun : (Instr.makeMap t none).run P w = .ok (.map (some w.heap.size)) (w.alloc (.map #[] 0)) := by
    simp [Instr.makeMap, newObj, Sem.run_bind, Sem.run, Result.andThen, World.alloc, -World.alloc_eq]
  unfold Oper.wp execOp
  simp only [ho, Option.map_none, Sem.run_bind, hrun, Result.andThen_ok]
  refine hK _ _ (hk _ _ _ (ha.put _ _ hd) (hw.obj (o := .map #[] 0) (by simp [World.alloc, -World.alloc_eq]) (by simp [World.alloc, -World.alloc_eq]) (fun k hk => ?_) rfl rfl rfl))
  exact heap_alloc_old w _ hk
class HasObj (H : List Ent) (b : Nat) (o : outParam Obj) : Prop where
  here : Ent.obj b o ∈ H
instance (priority := low) hasObjTail {H : List Ent} {b : Nat} {o : Obj} {x : Ent} [h : HasObj H b o] : HasObj (x :: H) b o := ⟨List.mem_cons_of_mem _ h.here⟩
instance hasObjHead {H : List Ent} {b : Nat} {o : Obj} : HasObj (.obj b o :: H) b o := ⟨List.mem_cons_self⟩
theorem c_rangeMap {t k e d bm clock : Nat} {kd : TypeDesc} {x : Operand} {es : Array MapEntry} (hg : o.guard = none) (ho : o.op = .range t x) [h : MapT P t k e kd] (hx : ev s x = some (.map (some bm))) [hp : HasObj H bm (.map es clock)] (h1 : o.dst = some d) (h2 : Nat.blt d n.n = true)
    (hk : ∀ r, SL P G n ops Q rest ((d, .pointer (some ⟨r, 0, none⟩)) :: s) (.obj r (.mapIter (some bm) clock #[] clock) :: H)) : SL P G n ops Q (o :: rest) s H := by
  have hd := okd (n := n) h1 h2
  simp only [← updd h1] at hk
  refine sl_op (.inl hg) fun act w ha hw K hK => ?_
  have hb : w.heap[bm]? = some (.map es clock) := (hw.ok _ hp.here).2
  have hrun := run_range_map (P := P) w t k e bm es clock h.here hb
  unfold Oper.wp execOp
  simp only [ho, ha.ev hx, Sem.run_bind, hrun, Result.andThen_ok]
  refine hK _ _ (hk _ _ _ (ha.put _ _ hd) (hw.obj (o := .mapIter (some bm) clock #[] clock) (by simp [World.alloc, -World.alloc_eq]) (by simp [World.alloc, -World.alloc_eq]) (fun k hk => ?_) rfl rfl rfl))
  exact heap_alloc_old w _ hk
theorem c_nextMap {d r bm since c0 clock : Nat} {seen : Array Nat} {es : Array MapEntry} {x : Operand} {H' : List Ent} (hg : o.guard = none) (ho : o.op = .next x false) (hx : ev s x = some (.pointer (some ⟨r, 0, none⟩))) [hp : PickObj H r (.mapIter (some bm) since seen c0) H'] [hb : HasObj H' bm (.map es clock)] (h1 : o.dst = some d) (h2 : Nat.blt d n.n = true)
    (hold : ∀ y ∈ es.toList, y.born < since) (hsc : since ≤ c0)
    (hy : ∀ y ∈ (leftOf es seen).toList, SL P G n ops Q rest ((d, .tuple #[.bool true, y.key, y.val]) :: s) (.obj r (.mapIter (some bm) since (seen.push y.born) clock) :: H'))
    (hn : (leftOf es seen).size = 0 → SL P G n ops Q rest ((d, .tuple #[.bool false]) :: s) (.obj r (.mapIter (some bm) since seen c0) :: H')) : SL P G n ops Q (o :: rest) s H := by
  have hd := okd (n := n) h1 h2
  simp only [← updd h1] at hy hn
  refine sl_op (.inl hg) fun act w ha hw K hK => ?_
  have hw1 := hw.pick hp.here
  have hr : w.heap[r]? = some (.mapIter (some bm) since seen c0) := (hw1.ok _ List.mem_cons_self).2
  have hbm : w.heap[bm]? = some (.map es clock) := (hw1.ok _ (List.mem_cons_of_mem _ hb.here)).2
  unfold Oper.wp execOp
  simp only [ho, ha.ev hx]
  rcases run_next_at (P := P) w o.type r bm since c0 seen es clock hr hbm hold hsc with ⟨h0, hrun⟩ | ⟨y, hym, w1, hw1', hrun⟩
  · simp only [Sem.run_bind, hrun, Result.andThen_ok]
    exact hK _ _ (hn h0 _ _ (ha.put _ _ hd) hw1)
  · simp only [Sem.run_bind, hrun, Result.andThen_ok]
    refine hK _ _ (hy y hym _ _ (ha.put _ _ hd) ?_)
    rcases hw1' with rfl | rfl
    · exact hw1.setObj _
    · exact hw1.drew.setObj _
end
end Go.Sx
end
section
namespace Go.Sx
open Go Go.RowKit Go.Fw
/-- How long a list is. -/
class Len (N : List Value) (m : outParam Nat) : Prop where
  here : N.length = m
def big (a N c : List Value) : List Value := a ++ (N ++ c)
section
variable {a N c : List Value}
theorem big_len {m k : Nat} [h : Len N m] (hk : Nat.beq (a.length + (m + c.length)) k = true) : (big a N c).length = k := by
  have := h.here; have := Nat.eq_of_beq_eq_true hk; simp [big]; omega
theorem big_pre {off : Nat} {v : Value} (h : a[off]? = some v) : (big a N c)[off]? = some v := by
  unfold big; rw [List.getElem?_append_left (List.getElem?_eq_some_iff.1 h).1]; exact h
theorem big_mid {off : Nat} {v : Value} (h2 : a.length ≤ off) (h : N[off - a.length]? = some v) : (big a N c)[off]? = some v := by
  unfold big
  rw [List.getElem?_append_right h2, List.getElem?_append_left (List.getElem?_eq_some_iff.1 h).1]; exact h
theorem big_post {off m : Nat} {v : Value} [hN : Len N m] (h2 : Nat.ble (a.length + m) off = true) (h : c[off - (a.length + m)]? = some v) : (big a N c)[off]? = some v := by
  have h2 := Nat.le_of_ble_eq_true h2
  have hN := hN.here
  unfold big
  rw [List.getElem?_append_right (by omega), List.getElem?_append_right (by omega), hN, Nat.sub_sub]; exact h
theorem takeq_some : ∀ {l : List Value} {n : Nat} {r : List Value}, take? l n = some r → r.length = n ∧ l.take n = r
  | l, 0, r, h => by simp only [take?, Option.some.injEq] at h; subst h; simp
  | [], n + 1, r, h => by simp [take?] at h
  | x :: l, n + 1, r, h => by
    unfold take? at h
    split at h
    · cases h
    · rename_i l1 h1
      simp only [Option.some.injEq] at h
      subst h
      obtain ⟨e1, e2⟩ := takeq_some h1
      simp [e1, e2]
theorem takeq_of : ∀ {l : List Value} {n : Nat} {r : List Value}, r.length = n → l.take n = r → take? l n = some r
  | l, 0, r, h, h2 => by have := List.eq_nil_of_length_eq_zero h; subst this; unfold take?; rfl
  | [], n + 1, r, h, h2 => by simp at h2; subst h2; simp at h
  | x :: l, n + 1, r, h, h2 => by
    rw [List.take_succ_cons] at h2
    subst h2
    unfold take?
    rw [takeq_of (r := l.take n) (by simpa using h) rfl]
theorem big_ppre {off sz : Nat} {r : List Value} (h : take? (a.drop off) sz = some r) : take? ((big a N c).drop off) sz = some r := by
  obtain ⟨e1, e2⟩ := takeq_some h
  by_cases h0 : sz = 0
  · subst h0; simp at e2; subst e2; unfold take?; rfl
  have h1 : off + sz ≤ a.length := by
    have : ((a.drop off).take sz).length = sz := by rw [e2, e1]
    simp at this; omega
  refine takeq_of e1 ?_
  unfold big
  rw [List.drop_append_of_le_length (by omega), List.take_append_of_le_length (by simp; omega)]; exact e2
theorem big_pmid {off m : Nat} [hN : Len N m] (h : a.length = off) : take? ((big a N c).drop off) m = some N := by
  refine takeq_of hN.here ?_
  unfold big
  rw [← h, List.drop_left, ← hN.here, List.take_left]
theorem big_ppost {off m sz : Nat} {r : List Value} [hN : Len N m] (h2 : Nat.ble (a.length + m) off = true) (h : take? (c.drop (off - (a.length + m))) sz = some r) : take? ((big a N c).drop off) sz = some r := by
  have h2 := Nat.le_of_ble_eq_true h2
  have hN := hN.here
  rw [show (big a N c).drop off = c.drop (off - (a.length + m)) from ?_]
  · exact h
  unfold big
  rw [List.drop_append, List.drop_eq_nil_of_le (by omega), List.nil_append, List.drop_append, List.drop_eq_nil_of_le (by omega), List.nil_append, hN, Nat.sub_sub]
theorem set_pre {off : Nat} {v : Value} {a' : List Value} (h : set? a off v = some a') : (big a N c).set off v = big a' N c := by
  obtain ⟨e1, e2⟩ := set?_eq h
  subst e1
  unfold big
  rw [List.set_append_left _ _ e2]
theorem set_post {off m : Nat} {v : Value} {c' : List Value} [hN : Len N m] (h2 : Nat.ble (a.length + m) off = true) (h : set? c (off - (a.length + m)) v = some c') : (big a N c).set off v = big a N c' := by
  obtain ⟨e1, e2⟩ := set?_eq h
  have h2 := Nat.le_of_ble_eq_true h2
  have hN := hN.here
  subst e1
  unfold big
  rw [List.set_append_right _ _ (by omega), List.set_append_right _ _ (by omega), hN, Nat.sub_sub]
theorem putL_o : ∀ (vs l : List Value) (k : Nat), k + vs.length ≤ l.length → putL? l k vs = some (l.take k ++ (vs ++ l.drop (k + vs.length)))
  | [], l, k, h => by unfold putL?; simp
  | v :: vs, l, k, h => by
    rw [List.length_cons] at h
    have hk : k < l.length := by omega
    have hs : set? l k v = some (l.set k v) := by
      have key : ∀ (l : List Value) (k : Nat), k < l.length → set? l k v = some (l.set k v) := by
        intro l
        induction l with
        | nil => intro k h; simp at h
        | cons x l ih =>
          intro k h
          cases k with
          | zero => rfl
          | succ k => unfold set?; rw [ih k (by simpa using h)]; rfl
      exact key l k hk
    unfold putL?
    rw [hs]
    dsimp only
    rw [putL_o vs (l.set k v) (k + 1) (by rw [List.length_set]; omega)]
    congr 1
    have e1 : (l.set k v).take (k + 1) = l.take k ++ [v] := by
      rw [List.take_set, List.take_succ_eq_append_getElem hk, List.set_append_right _ _ (by rw [List.length_take]; omega), List.length_take, show k - min k l.length = 0 from by omega]
      rfl
    have e2 : (l.set k v).drop (k + 1 + vs.length) = l.drop (k + (v :: vs).length) := by
      rw [List.drop_set_of_lt (by omega), List.length_cons]
      congr 1
      omega
    rw [e1, e2, List.append_assoc]
    rfl
theorem fill_c {offs : List (Nat × Nat)} {l cs : List Value} {i off sz : Nat} {r : List (Nat × List Value)} (h1 : offs[i]? = some (off, sz)) (h2 : cs.length = sz) (h3 : 0 < sz) (h4 : off + sz ≤ l.length) : fillL? offs l ((i, cs) :: r) = fillL? offs (l.take off ++ (cs ++ l.drop (off + sz))) r := by
  conv => lhs; unfold fillL?
  rw [h1]
  dsimp only
  rw [show Nat.beq cs.length sz = true from by rw [h2]; exact Nat.beq_refl _, show Nat.blt 0 sz = true from by rw [Nat.blt_eq]; exact h3]
  subst h2
  rw [putL_o cs l off h4]
  rfl
theorem over_putL {l l' vs : List Value} {off : Nat} (h : putL? l off vs = some l') (h0 : vs ≠ []) : over l off vs = l' ∧ off + vs.length ≤ l.length := by
  obtain ⟨e1, e2, -⟩ := putL?_fold vs l l' off 0 h
  have h0' : vs.length ≠ 0 := fun e => h0 (List.eq_nil_of_length_eq_zero e)
  have e2 : off + vs.length ≤ l.length := by omega
  refine ⟨?_, e2⟩
  have := putL_o vs l off e2
  rw [h] at this
  rw [Option.some.inj this]
  simp [over]
theorem over_pre {off : Nat} {vs a' : List Value} (h : putL? a off vs = some a') (h0 : vs ≠ []) : over (big a N c) off vs = big a' N c := by
  obtain ⟨e1, e2⟩ := over_putL h h0
  rw [← e1]
  unfold over big
  rw [List.take_append_of_le_length (by omega), List.drop_append_of_le_length (by omega)]
  simp only [List.append_assoc]
theorem over_mid {vs : List Value} {m off : Nat} [hN : Len N m] (ho : a.length = off) (h : vs.length = m) : over (big a N c) off vs = big a vs c := by
  subst ho
  unfold over big
  rw [List.take_left, ← List.drop_drop, List.drop_left, h, ← hN.here, List.drop_left, List.append_assoc]
theorem over_post {off m : Nat} {vs c' : List Value} [hN : Len N m] (h2 : Nat.ble (a.length + m) off = true) (h : putL? c (off - (a.length + m)) vs = some c') (h0 : vs ≠ []) : over (big a N c) off vs = big a N c' := by
  obtain ⟨e1, e2⟩ := over_putL h h0
  have h2 := Nat.le_of_ble_eq_true h2
  have hN := hN.here
  rw [← e1]
  have e3 : (a ++ N).length = a.length + m := by rw [List.length_append, hN]
  unfold over big
  rw [← List.append_assoc, ← List.append_assoc, List.take_append, List.take_of_length_le (by omega), List.drop_append, show (a ++ N).drop (off + vs.length) = [] from List.drop_eq_nil_of_le (by omega), e3, List.nil_append]
  simp only [List.append_assoc]
  congr 5
  omega
end
section
variable {P : Program} {G : Ctx} {n : Sz} {ops : Array Oper} {Q : Post} {s : Fm} {H : List Ent} {o : Oper} {rest : List Oper}
/-- Several cells, into a part of a block, by what it becomes. -/
theorem c_storepV {t t' sz : Nat} {x y : Operand} {b off : Nat} {cs cs' vs : List Value} {H' : List Ent} (hg : o.guard = none) (ho : o.op = .store t x y) [h : Ag P t sz] (hx : ev s x = some (.pointer (some ⟨b, off, none⟩))) (hy : ev s y = some (.agg vs.toArray)) [hp : PickBlk H b t' cs H'] (h1 : vs.all (·.oneCell') = true)
    (hv : vs.length = sz) (hl : off + sz ≤ cs.length) (hs : over cs off vs = cs') (hd : o.dst = none) (hk : SL P G n ops Q rest s (.blk b t' cs' :: H')) : SL P G n ops Q (o :: rest) s H := by
  subst hs
  exact c_storep hg ho hx hy h1 hv hl hd hk
/-- The same, told by a function that spells its answer out. -/
theorem c_storepL {t t' sz : Nat} {x y : Operand} {b off : Nat} {cs cs' vs : List Value} {H' : List Ent} (hg : o.guard = none) (ho : o.op = .store t x y) [h : Ag P t sz] (hx : ev s x = some (.pointer (some ⟨b, off, none⟩))) (hy : ev s y = some (.agg vs.toArray)) [hp : PickBlk H b t' cs H'] (h1 : vs.all (·.oneCell') = true)
    (hv : vs.length = sz) (hz : Nat.blt 0 sz = true) (hs : putL? cs off vs = some cs') (hd : o.dst = none) (hk : SL P G n ops Q rest s (.blk b t' cs' :: H')) : SL P G n ops Q (o :: rest) s H := by
  have h0 : vs ≠ [] := fun e => by subst e; subst hv; simp at hz
  obtain ⟨e1, e2⟩ := over_putL hs h0
  exact c_storepV hg ho hx hy h1 hv (by omega) e1 hd hk
/-- A whole block written, its size told as a fact. -/
theorem c_storewV {t t' sz : Nat} {x y : Operand} {b : Nat} {cs cs' : List Value} {H' : List Ent} (hg : o.guard = none) (ho : o.op = .store t x y) [h : Ag P t sz] (hx : ev s x = some (.pointer (some ⟨b, 0, none⟩))) (hy : ev s y = some (.agg cs'.toArray)) [hp : PickBlk H b t' cs H'] (h1 : cs'.all (·.oneCell') = true)
    (hl' : cs'.length = sz) (hl2' : cs.length = sz) (hd : o.dst = none) (hk : SL P G n ops Q rest s (.blk b t' cs' :: H')) : SL P G n ops Q (o :: rest) s H := by
  obtain ⟨d, -, -, h3⟩ := h.here
  exact sl_store_whole hg ho hx hy hp.here h1 (by rw [h3, hl']) (by rw [hl', hl2']) hd hk
/-- An entry put into a map that is being made. -/
theorem c_insert {t k e r clock : Nat} {kd : TypeDesc} {m x y : Operand} {es : Array MapEntry} {key v : Value} {H' : List Ent} (hg : o.guard = none) (ho : o.op = .insert t m x y) [h : MapT P t k e kd] (hm : ev s m = some (.map (some r))) (hx : ev s x = some key) (hy : ev s y = some v) [hp : PickObj H r (.map es clock) H']
    (hn : Instr.findNow kd key es.toList 0 = some none) (hd : o.dst = none) (hk : SL P G n ops Q rest s (.obj r (.map (es.push ⟨key, v, clock⟩) (clock + 1)) :: H')) : SL P G n ops Q (o :: rest) s H := by
  refine sl_op (.inl hg) fun act w ha hw K hK => ?_
  have hw1 := hw.pick hp.here
  have hb : w.heap[r]? = some (.map es clock) := (hw1.ok _ List.mem_cons_self).2
  have hrun := run_update_new h hb (v := v) hn
  unfold Oper.wp execOp
  simp only [ho, ha.ev hm, ha.ev hx, ha.ev hy, Sem.run_bind, hrun, Result.andThen_ok]
  exact hK _ _ (hk _ _ (by rw [hd]; exact ha) (hw1.setObj _))
/-- The round's key and value. -/
theorem y_entry {x : Operand} {r bm since clock : Nat} {seen : Array Nat} {es : Array MapEntry} {y : MapEntry} (ho : o.op = .entry x) (hx : ev s x = some (.pointer (some ⟨r, 0, none⟩))) [h1 : HasObj H r (.mapIter (some bm) since (seen.push y.born) clock)] [h2 : HasObj H bm (.map es clock)] (he : y ∈ es.toList) (hn : (es.toList.map (·.born)).Nodup) : Yields P G n s H o (.tuple #[y.key, y.val]) := fun a w ha hw => by
  have hr : w.heap[r]? = _ := (hw.ok _ h1.here).2
  have hb : w.heap[bm]? = _ := (hw.ok _ h2.here).2
  unfold execOp
  simp only [ho, ha.ev hx]
  exact run_value (run_entry_at w r bm since seen es clock y hr hb he hn)
end
end Go.Sx
end
section
namespace Go.Proofs.YtmbfechiallppaaGreatDoor
open Go Go.RowKit Go.Fw Go.Sx
set_option maxRecDepth 100000
set_option maxHeartbeats 1000000
/-- What a screen holds. -/
structure Scr where
  w : Nat
  h : Nat
  row : Int
  col : Int
  late : Bool
  top : Int
  bot : Int
  pf : Int
  pr : Int
  pb : Int
  modes : Int
  st : Nat → Nat
  p0 : Int
  p1 : Int
  sh : Int
  sr : Int
  sc : Int
  spf : Int
  spr : Int
  spb : Int
  so : Bool
  sp0 : Int
  sp1 : Int
  ssh : Int
  ti : ByteArray
  C : List Qd
  D : List Qd
  past : List (List Qd)
/-- Its cells in memory: where its rows lie. -/
def scnC (s : Scr) (ga : Option Addr) (gn gc : Nat) (oa : Option Addr) (on oc : Nat) (pa : Option Addr) (pn pc : Nat) : List Value :=
  (.int .i64 s.w :: .int .i64 s.h :: .slice ga gn gc :: .int .i64 s.row :: .int .i64 s.col :: .bool s.late :: .int .i64 s.top :: .int .i64 s.bot :: .int .i64 s.pf :: .int .i64 s.pr :: .int .i64 s.pb :: .int .i64 s.modes :: .int .u64 (s.st 0) :: .int .u64 (s.st 1) :: .int .u64 (s.st 2) :: .int .u64 (s.st 3) :: .int .i64 s.p0 :: .int .i64 s.p1 :: .int .i64 s.sh :: .int .i64 s.sr :: .int .i64 s.sc :: .int .i64 s.spf :: .int .i64 s.spr :: .int .i64 s.spb :: .bool s.so :: .int .i64 s.sp0 :: .int .i64 s.sp1 :: .int .i64 s.ssh :: .int .i64 s.w :: .int .i64 s.h :: .slice oa on oc :: .string s.ti :: .slice pa pn pc :: [])
def newS (w h : Nat) : Scr := ⟨w, h, 0, 0, false, 0, h, 0, 0, 0, 12, usF 31, 1, 1, 0, 0, 0, 0, 0, 0, false, 1, 1, 0, ⟨#[]⟩, List.replicate (w * h) (32, 0, 0, 0), List.replicate (w * h) (32, 0, 0, 0), []⟩
def scnZ : List Value := (.int .i64 0 :: .int .i64 0 :: .slice none 0 0 :: .int .i64 0 :: .int .i64 0 :: .bool false :: .int .i64 0 :: .int .i64 0 :: .int .i64 0 :: .int .i64 0 :: .int .i64 0 :: .int .i64 0 :: .int .u64 0 :: .int .u64 0 :: .int .u64 0 :: .int .u64 0 :: .int .i64 0 :: .int .i64 0 :: .int .i64 0 :: .int .i64 0 :: .int .i64 0 :: .int .i64 0 :: .int .i64 0 :: .int .i64 0 :: .bool false :: .int .i64 0 :: .int .i64 0 :: .int .i64 0 :: .int .i64 0 :: .int .i64 0 :: .slice none 0 0 :: .string .empty :: .slice none 0 0 :: [])
attribute [local irreducible] SW SL SQ AtQ SV SC BB LD PK Yields SO SOT SOA SY usF
theorem scrNew_sc (G : Ctx) (H : List Ent) (w h : Nat) (hw : 1 ≤ w ∧ w ≤ 160) (hh : 1 ≤ h ∧ h ≤ 60) : SC Tryz.prog G 46 [.int .i64 w, .int .i64 h] H fun v H' => ∃ ga oa c, v = .tuple #[.agg (scnC (newS w h) ga (w * h) (w * h) oa (w * h) c none 0 0).toArray, .int .i64 0] ∧ H' = .own 104 4 oa (w * h) c (qds (newS w h).D) :: .own 104 4 ga (w * h) (w * h) (qds (newS w h).C) :: H := by
  have hp : w * h ≤ 100000 := Nat.le_trans (Nat.mul_le_mul hw.2 hh.2) (by decide)
  have cN := fun H => new_sc G H w h 0 0 0 hw hh (by decide +kernel)
  have cC := fun (H : List Ent) {vs : List Value} (a : Option Addr) [RdC G H a vs] (hv : vs = qds (List.replicate (w * h) (32, 0, 0, 0))) => gridClone_sc G H (List.replicate (w * h) (32, 0, 0, 0)) (w : Int) (h : Int) a (w * h) (w * h) hv (by simp) hp
  have cU := fun H => usual_sv G H
  have hC : (newS w h).C = List.replicate (w * h) (32, 0, 0, 0) := rfl
  have hD : (newS w h).D = List.replicate (w * h) (32, 0, 0, 0) := rfl
  rw [hC, hD]
  have hscr : ∀ ga oa c p, p = w * h → scnC (newS w h) ga p p oa p c none 0 0 = (.int .i64 w :: .int .i64 h :: .slice ga p p :: .int .i64 0 :: .int .i64 0 :: .bool false :: .int .i64 0 :: .int .i64 h :: .int .i64 0 :: .int .i64 0 :: .int .i64 0 :: .int .i64 12 :: .int .u64 (usF 31 0) :: .int .u64 (usF 31 1) :: .int .u64 (usF 31 2) :: .int .u64 (usF 31 3) :: .int .i64 1 :: .int .i64 1 :: .int .i64 0 :: .int .i64 0 :: .int .i64 0 :: .int .i64 0 :: .int .i64 0 :: .int .i64 0 :: .bool false :: .int .i64 1 :: .int .i64 1 :: .int .i64 0 :: .int .i64 w :: .int .i64 h :: .slice oa p c :: .string ⟨#[]⟩ :: .slice none 0 0 :: []) := fun _ _ _ _ _ => rfl
  generalize hP : w * h = p at *
  generalize List.replicate p ((32, 0, 0, 0) : Qd) = L at *
  refine sc_enter2 Tryz.func46 rfl rfl rfl rfl rfl ?_
  repeat' ((first | (apply g_sl; (first | (apply ks_nil; refine sl_nil ?_) | (apply ks_move; refine s_move rfl rfl ?_) | (apply ks_bin; refine s_bin rfl rfl rfl ?_; (((refine bb_of rfl ?_)))) | (apply ks_asgn; refine s_asgn rfl rfl ?_) | (apply ks_extr; refine s_extr (y_extract rfl rfl rfl) rfl ?_) | (apply ks_build; (refine s_build (c_build rfl rfl rfl) rfl ?_)) | (apply ks_fn; (((refine c_call rfl rfl rfl (cN _) rfl rfl ?_; rintro _ _ ⟨b, rfl, rfl⟩)))) | (apply ks_store; ((refine c_storew rfl rfl rfl rfl rfl rfl rfl rfl ?_))) | (apply ks_alloc; refine c_alloc rfl rfl rfl rfl (fun _ => ?_)))) | (apply sw_seq) | (apply sw_skip) | ((fail_if_success (refine g_reg (id := 5) ?_)); apply sw_region) | (refine sw_cd rfl ?_; ((apply gd_ft))) | (apply at_thn)))
  all_goals (skip)
  rename_i b1 b2 b3
  repeat' ((first | (apply g_sl; (first | (apply ks_nil; refine sl_nil ?_) | (apply ks_fn; ((first | refine c_callv rfl rfl rfl (cU _) rfl rfl ?_ | (refine c_call rfl rfl rfl (cC _ _ rfl) rfl rfl ?_; rintro _ _ ⟨oa, c, rfl, rfl⟩)))) | (apply ks_store; ((refine c_storew rfl rfl rfl rfl rfl rfl rfl rfl ?_))))) | (apply g_atso; refine so_back (k := 0) (fun _ hw => hw.subs (by repeat ((first | refine Subs.cons (by repeat constructor) ?_ | exact Subs.sub (by repeat ((first | exact List.Sublist.refl _ | refine List.Sublist.cons _ ?_))))))) ?_) | (apply g_sot; (first | (refine sot_skip rfl ?_) | (refine sot_take rfl rfl rfl rfl (by kernel_rfl) (by decide +kernel) (by decide +kernel) ?_; ((first | (apply ky_move; refine sy_val (y_move rfl rfl) ?_) | (apply ky_load; ((refine sy_load rfl ?_; (refine ld_whole rfl ?_)))) | (apply ky_asgn; refine sy_val (y_assign rfl rfl) ?_) | (apply ky_build; (refine sy_val (c_build rfl rfl rfl) ?_))))) | (refine sot_next rfl ?_) | (refine so_done (by decide +kernel) ?_) | (refine sot_all (by kernel_rfl) ?_))) | (apply g_soa; (first | (refine soa_end rfl) | (refine soa_no (by decide +kernel) ?_) | (refine soa_yes rfl ?_ ?_))) | (apply sw_ret) | (apply at_thn) | ((((refine g_reg (id := 5) ?_; refine c_drawno (.blk b3 35 [.int .i64 1, .int .i64 1] :: .blk b2 28 [.int .i64 w, .int .i64 h, .slice (some ⟨b, 0, none⟩) p p] :: .own 104 4 (some ⟨b, 0, none⟩) p p (qds L) :: H) (fun _ hw => hw.subs (by repeat ((first | refine Subs.cons (by repeat constructor) ?_ | exact Subs.sub (by repeat ((first | exact List.Sublist.refl _ | refine List.Sublist.cons _ ?_))))))) ?_))))))
  refine e_scc (.own 104 4 oa p c (qds L) :: .own 104 4 (some ⟨b, 0, none⟩) p p (qds L) :: H) (by (exact .inr rfl)) rfl (by (rfl)) rfl (fun _ hw => hw.subs (by repeat ((first | refine Subs.cons (by repeat constructor) ?_ | exact Subs.sub (by repeat ((first | exact List.Sublist.refl _ | refine List.Sublist.cons _ ?_))))))) ?_
  exact ⟨some ⟨b, 0, none⟩, oa, c, by rw [hscr _ _ _ _ rfl]; rfl, rfl⟩
end Go.Proofs.YtmbfechiallppaaGreatDoor
end
section
namespace Go.Proofs.YtmbfechiallppaaGreatDoor
open Go Go.RowKit Go.Fw Go.Sx
set_option maxRecDepth 100000
set_option maxHeartbeats 1000000
/-- A terminal's cells: its screen, and what it has sent. -/
def trmC (s : Scr) (ga : Option Addr) (gn gc : Nat) (oa : Option Addr) (on oc : Nat) (pa : Option Addr) (pn pc : Nat) (t : ByteArray) : List Value :=
  (.int .i64 s.w :: .int .i64 s.h :: .slice ga gn gc :: .int .i64 s.row :: .int .i64 s.col :: .bool s.late :: .int .i64 s.top :: .int .i64 s.bot :: .int .i64 s.pf :: .int .i64 s.pr :: .int .i64 s.pb :: .int .i64 s.modes ::
   .int .u64 (s.st 0) :: .int .u64 (s.st 1) :: .int .u64 (s.st 2) :: .int .u64 (s.st 3) :: .int .i64 s.p0 :: .int .i64 s.p1 :: .int .i64 s.sh :: .int .i64 s.sr :: .int .i64 s.sc :: .int .i64 s.spf :: .int .i64 s.spr :: .int .i64 s.spb :: .bool s.so :: .int .i64 s.sp0 :: .int .i64 s.sp1 :: .int .i64 s.ssh ::
   .int .i64 s.w :: .int .i64 s.h :: .slice oa on oc :: .string s.ti :: .slice pa pn pc :: .string t :: [])
def clampI (n lo hi : Int) : Int := max lo (min n hi)
attribute [local irreducible] SW SL SQ AtQ SV SC BB LD PK Yields SO SOT SOA SY
theorem limit_sv (G : Ctx) (H : List Ent) (n lo hi : Int) : SV Tryz.prog G 224 [.int .i64 n, .int .i64 lo, .int .i64 hi] H (.int .i64 (clampI n lo hi)) := by
  refine sv_enter3 Tryz.func224 rfl rfl rfl rfl rfl ?_
  repeat' ((first | (apply g_sl; (first | (apply ks_nil; refine sl_nil ?_) | (apply ks_move; refine s_move rfl rfl ?_) | (apply ks_asgn; refine s_asgn rfl rfl ?_) | (apply ks_bi; ((first | (refine s_call (c_max2 rfl rfl rfl) rfl ?_) | refine s_call (c_bi rfl rfl rfl rfl) rfl ?_))))) | (apply sw_seq) | (apply sw_ret) | (apply sw_region) | (apply at_thn)))
  have e : (if hi < n then hi else n) = min n hi := by split <;> omega
  rw [e]
  refine e_sv (by (exact .inr rfl)) rfl (by repeat ((exact List.Sublist.refl _))) ?_
  rfl
theorem tClear_sv (G : Ctx) (H : List Ent) (s : Scr) (tb : Nat) (ga : Option Addr) (gn gc : Nat) (oa : Option Addr) (on oc : Nat) (pa : Option Addr) (pn pc : Nat) (t : ByteArray) [hb : HasBlk H tb 172 (trmC s ga gn gc oa on oc pa pn pc t)] : SV Tryz.prog G 166 [.pointer (some ⟨tb, 0, none⟩)] H (penV 0 0 s.pb) := by
  refine sv_enter1 Tryz.func166 rfl rfl rfl rfl rfl ?_
  repeat' ((first | (apply g_sl; (first | (apply ks_nil; refine sl_nil ?_) | (apply ks_move; refine s_move rfl rfl ?_) | (apply ks_load; ((refine s_load rfl rfl ?_; (refine ld_cell rfl ?_)))) | (apply ks_field; (first | refine s_field (c_field0 rfl rfl) rfl ?_ | refine s_field (c_field rfl rfl) rfl ?_)) | (apply ks_build; (refine s_build (c_build rfl rfl rfl) rfl ?_)) | (apply ks_nilc; refine s_nilc (y_nilCheck rfl rfl) rfl ?_) | (apply ks_store; ((refine c_storew rfl rfl rfl rfl rfl rfl rfl rfl ?_))) | (apply ks_alloc; refine c_alloc rfl rfl rfl rfl (fun _ => ?_)))) | (apply sw_seq) | (apply sw_ret) | (apply sw_region) | (apply at_thn)))
  refine e_scc (H) (by (exact .inr rfl)) rfl (by (rfl)) rfl (fun _ hw => hw.subs (by repeat ((exact Subs.sub (by repeat ((first | exact List.Sublist.refl _ | refine List.Sublist.cons _ ?_))))))) ?_
  exact ⟨rfl, rfl⟩
theorem tIs_sv (G : Ctx) (H : List Ent) (s : Scr) (m : Int) (tb : Nat) (ga : Option Addr) (gn gc : Nat) (oa : Option Addr) (on oc : Nat) (pa : Option Addr) (pn pc : Nat) (t : ByteArray) (h1 : 0 ≤ s.modes ∧ s.modes ≤ 2047) (h2 : 0 ≤ m ∧ m ≤ 2047) [hb : HasBlk H tb 172 (trmC s ga gn gc oa on oc pa pn pc t)] : SV Tryz.prog G 164 [.pointer (some ⟨tb, 0, none⟩), .int .i64 m] H (.bool (iand s.modes m != 0)) := by
  refine sv_enter2 Tryz.func164 rfl rfl rfl rfl rfl ?_
  repeat' ((first | (apply g_sl; (first | (apply ks_nil; refine sl_nil ?_) | (apply ks_move; refine s_move rfl rfl ?_) | (apply ks_bin; refine s_bin rfl rfl rfl ?_; (((first | (apply kb_and; (refine bb_and (by (omega)) (by (omega)) (by (omega)) (by (omega)) ?_)) | refine bb_of rfl ?_)))) | (apply ks_load; ((refine s_load rfl rfl ?_; (refine ld_cell rfl ?_)))) | (apply ks_asgn; refine s_asgn rfl rfl ?_) | (apply ks_field; (refine s_field (c_field0 rfl rfl) rfl ?_)) | (apply ks_nilc; refine s_nilc (y_nilCheck rfl rfl) rfl ?_))) | (apply sw_seq) | (apply sw_ret) | (apply sw_region) | (apply at_thn)))
  refine e_sv (by (exact .inr rfl)) rfl (by repeat ((exact List.Sublist.refl _))) ?_
  rfl
theorem tColumn_sc (G : Ctx) (H : List Ent) (s : Scr) (c : Int) (tb : Nat) (ga : Option Addr) (gn gc : Nat) (oa : Option Addr) (on oc : Nat) (pa : Option Addr) (pn pc : Nat) (t : ByteArray) (hw : s.w ≤ 1000) : SC Tryz.prog G 162 [.pointer (some ⟨tb, 0, none⟩), .int .i64 c] (.blk tb 172 (trmC s ga gn gc oa on oc pa pn pc t) :: H) fun v H' => v = resV [] ∧ H' = .blk tb 172 (trmC { s with late := false, col := clampI c 0 ((s.w : Int) - 1) } ga gn gc oa on oc pa pn pc t) :: H := by
  have cL := fun H n lo hi => limit_sv G H n lo hi
  unfold trmC
  refine sc_enter2 Tryz.func162 rfl rfl rfl rfl rfl ?_
  repeat' ((first | (apply g_sl; (first | (apply ks_nil; refine sl_nil ?_) | (apply ks_move; refine s_move rfl rfl ?_) | (apply ks_bin; refine s_bin rfl rfl rfl ?_; ((((apply kb_sub; (refine bb_sub ⟨by omega, by omega⟩ ?_)))))) | (apply ks_load; ((refine s_load rfl rfl ?_; (refine ld_cell rfl ?_)))) | (apply ks_field; (refine s_field (c_field0 rfl rfl) rfl ?_)) | (apply ks_nilc; refine s_nilc (y_nilCheck rfl rfl) rfl ?_) | (apply ks_fn; (refine c_callv rfl rfl rfl (cL _ _ _ _) rfl rfl ?_)) | (apply ks_store; ((refine c_store rfl rfl rfl rfl rfl rfl rfl ?_))))) | (apply sw_seq) | (apply sw_region) | (apply at_thn)))
  refine e_sc (_ :: H) (by (exact .inl rfl)) rfl (List.Sublist.cons_cons _ (by repeat ((exact List.Sublist.refl _)))) ?_
  exact ⟨rfl, rfl⟩
end Go.Proofs.YtmbfechiallppaaGreatDoor
end
section
namespace Go.Fw
open Go Go.RowKit Go.Sx
/-- No half of anything, and every cell right. -/
def rowOk (wd : Int → Int) (R : List Qd) : Prop := ∀ i, i < R.length → loneB wd R i = false
theorem mendQ_len (wd : Int → Int) (R : List Qd) : (mendQ wd R).length = R.length := mendTo_len _ _ _
theorem mendQ_getD (wd : Int → Int) (R : List Qd) (i : Nat) (hi : i < R.length) : (mendQ wd R).getD i qz = mendC wd R i := by
  unfold mendQ; rw [mendTo_getD _ _ _ _ hi, if_pos hi]
theorem mendQ_ok {wd : Int → Int} (h32 : wd 32 = 1) (h0 : wd 0 ≠ 2) (R : List Qd) : rowOk wd (mendQ wd R) := by
  intro i hi
  rw [mendQ_len] at hi
  have g := mendQ_getD wd R
  -- a cell behind the mending: its rune, its pen
  have pen : ∀ j, j < R.length → ((mendQ wd R).getD j qz).2 = (R.getD j qz).2 := fun j hj => by rw [g j hj]; unfold mendC; split <;> rfl
  have rl : ∀ j, j < R.length → loneB wd R j = true → ((mendQ wd R).getD j qz).1 = 32 := fun j hj h => by rw [g j hj]; unfold mendC; rw [if_pos h]
  have rn : ∀ j, j < R.length → loneB wd R j = false → (mendQ wd R).getD j qz = R.getD j qz := fun j hj h => by rw [g j hj]; unfold mendC; rw [if_neg (by rw [h]; simp)]
  cases hl : loneB wd R i with
  | true =>
    have h1 := rl i hi hl
    unfold loneB
    rw [if_neg (by rw [h1]; decide), h1, decide_eq_false]
    rintro ⟨h2, -⟩
    rw [h32] at h2
    cases h2
  | false =>
    have e := rn i hi hl
    unfold loneB
    rw [e]
    unfold loneB at hl
    by_cases hz : (R.getD i qz).1 = 0
    · rw [if_pos hz] at hl ⊢
      have hl := of_decide_eq_false hl
      have hi0 : i ≠ 0 := fun h => hl (.inl h)
      have hw : wd (R.getD (i - 1) qz).1 = 2 := Classical.byContradiction fun h => hl (.inr (.inl h))
      have ht : tailP R i := Classical.byContradiction fun h => hl (.inr (.inr h))
      -- its head is no half of nothing
      have hz1 : (R.getD (i - 1) qz).1 ≠ 0 := fun h => h0 (h ▸ hw)
      have hh : loneB wd R (i - 1) = false := by
        unfold loneB
        rw [if_neg hz1, decide_eq_false]
        rintro ⟨-, h⟩
        rw [show i - 1 + 1 = i from by omega] at h
        exact h ht
      have e1 := rn (i - 1) (by omega) hh
      rw [e1, decide_eq_false]
      rintro (h | h | h)
      · exact hi0 h
      · exact h hw
      · apply h
        obtain ⟨t1, t2, t3⟩ := ht
        refine ⟨by rw [mendQ_len]; exact t1, by rw [e]; exact t2, by rw [e, e1]; exact t3⟩
    · rw [if_neg hz] at hl ⊢
      have hl := of_decide_eq_false hl
      rw [decide_eq_false]
      rintro ⟨h1, h2⟩
      have ht : tailP R (i + 1) := Classical.byContradiction fun h => hl ⟨h1, h⟩
      apply h2
      obtain ⟨t1, t2, t3⟩ := ht
      have hh : loneB wd R (i + 1) = false := by
        unfold loneB
        rw [if_pos t2, decide_eq_false]
        rintro (h | h | h)
        · omega
        · rw [show i + 1 - 1 = i from by omega] at h; exact h h1
        · exact h ⟨t1, t2, t3⟩
      have e1 := rn (i + 1) t1 hh
      refine ⟨by rw [mendQ_len]; exact t1, by rw [e1]; exact t2, ?_⟩
      rw [e1, show i + 1 - 1 = i from by omega, e]
      rw [show i + 1 - 1 = i from by omega] at t3
      exact t3
end Go.Fw
namespace Go.Proofs.YtmbfechiallppaaGreatDoor
open Go Go.RowKit Go.Fw Go.Sx
set_option maxRecDepth 100000
/-- Each cell's pen and rune are right. -/
def celOk (q : Qd) : Bool := penB q.2.1 q.2.2.1 q.2.2.2 && (decide (q.1 = 0) || !decide (refWidth q.1 = 0))
theorem cellOk_iff (R : List Qd) (i : Nat) : cellOk R i = true ↔ celOk (R.getD i qz) = true ∧ loneB refWidth R i = false := by
  unfold cellOk celOk
  simp only [Bool.and_eq_true, Bool.not_eq_true']
  exact ⟨fun ⟨a, b, c⟩ => ⟨⟨a, b⟩, c⟩, fun ⟨⟨a, b⟩, c⟩ => ⟨a, b, c⟩⟩
theorem w32 : refWidth 32 = 1 := by decide +kernel
theorem w0 : refWidth 0 ≠ 2 := by decide +kernel
theorem mend_row {R : List Qd} (h : ∀ i, i < R.length → penB (R.getD i qz).2.1 (R.getD i qz).2.2.1 (R.getD i qz).2.2.2 = true ∧ ((R.getD i qz).1 = 0 ∨ refWidth (R.getD i qz).1 ≠ 0)) : ∀ i, i < R.length → cellOk (mendQ refWidth R) i = true := fun i hi => by
  rw [cellOk_iff]
  refine ⟨?_, mendQ_ok w32 w0 R i (by rw [mendQ_len]; exact hi)⟩
  rw [mendQ_getD _ _ _ hi]
  obtain ⟨h1, h2⟩ := h i hi
  unfold mendC celOk
  split
  · dsimp only
    rw [h1, show decide (refWidth 32 = 0) = false from by rw [w32]; rfl]
    simp
  · rw [h1]
    rcases h2 with h2 | h2
    · rw [decide_eq_true h2]; rfl
    · rw [decide_eq_false h2]; simp
/-- A row's cells, each with a right pen, and a rune that shows. -/
def celsOk (R : List Qd) : Prop := ∀ q ∈ R, celOk q = true
theorem celOk_iff (q : Qd) : celOk q = true ↔ penB q.2.1 q.2.2.1 q.2.2.2 = true ∧ (q.1 = 0 ∨ refWidth q.1 ≠ 0) := by
  unfold celOk
  rw [Bool.and_eq_true, Bool.or_eq_true, decide_eq_true_eq, Bool.not_eq_true', decide_eq_false_iff_not]
theorem mem_getD {R : List Qd} {i : Nat} (hi : i < R.length) : R.getD i qz ∈ R := by
  rw [List.getD_eq_getElem?_getD, List.getElem?_eq_getElem hi]; exact List.getElem_mem hi
theorem mend_cels {R : List Qd} (h : celsOk R) : ∀ i, i < R.length → cellOk (mendQ refWidth R) i = true :=
  mend_row fun i hi => (celOk_iff _).1 (h _ (mem_getD hi))
theorem set_cels {R : List Qd} {i : Nat} {q : Qd} (h : celsOk R) (hq : celOk q = true) : celsOk (R.set i q) := fun x hx => by
  rcases List.mem_or_eq_of_mem_set hx with h1 | h1
  · exact h x h1
  · rw [h1]; exact hq
theorem putQ_cels {R : List Qd} {c : Nat} {r x y z : Int} (h : celsOk R) (hp : penB x y z = true) (hr : refWidth r ≠ 0) : celsOk (putQ refWidth R c r x y z) := by
  unfold putQ
  split
  · exact set_cels (set_cels h ((celOk_iff _).2 ⟨hp, .inr hr⟩)) ((celOk_iff _).2 ⟨hp, .inl rfl⟩)
  · exact set_cels h ((celOk_iff _).2 ⟨hp, .inr hr⟩)
/-- A right grid, row by row. -/
structure GrOk (w h : Nat) (C : List Qd) : Prop where
  size : (1 ≤ w ∧ w ≤ 160) ∧ (1 ≤ h ∧ h ≤ 60)
  len : C.length = w * h
  cell : ∀ k, k < h → ∀ i, i < w → cellOk (rowQ w C k) i = true
theorem GrOk.e {w h : Nat} {C : List Qd} (g : GrOk w h C) : gridE w h C = 0 := by
  refine gridE_good ?_ g.len g.cell
  rcases sizeE_01 (w : Int) (h : Int) with ⟨h1, _⟩ | ⟨_, h1⟩
  · exact h1
  · have := g.size; omega
theorem GrOk.len1 {w h : Nat} {C : List Qd} (g : GrOk w h C) : C.length ≤ 100000 := by
  rw [g.len]; exact Nat.le_trans (Nat.mul_le_mul g.size.1.2 g.size.2.2) (by decide)
theorem GrOk.cels {w h : Nat} {C : List Qd} (g : GrOk w h C) {k : Nat} (hk : k < h) : celsOk (rowQ w C k) := fun q hq => by
  obtain ⟨i, hi, rfl⟩ := List.mem_iff_getElem.1 hq
  rw [rowQ_len hk g.len] at hi
  have := (cellOk_iff _ _).1 (g.cell k hk i hi)
  rw [List.getD_eq_getElem?_getD, List.getElem?_eq_getElem (by rw [rowQ_len hk g.len]; exact hi)] at this
  exact this.1
/-- A row of a right grid put in the place of another. -/
theorem GrOk.put {w h : Nat} {C : List Qd} (g : GrOk w h C) {k : Nat} (hk : k < h) {A R B R' : List Qd} (hC : C = A ++ R ++ B) (hA : A.length = k * w) (hR : R.length = w) (hR' : R'.length = w) (ho : ∀ i, i < w → cellOk R' i = true) : GrOk w h (A ++ R' ++ B) := by
  have hl : (A ++ R' ++ B).length = w * h := by rw [← g.len, hC]; simp [hR, hR']
  refine ⟨g.size, hl, fun j hj i hi => ?_⟩
  by_cases e : j = k
  · subst e
    have : rowQ w (A ++ R' ++ B) j = R' := by
      unfold rowQ
      rw [← hA, List.append_assoc, List.drop_left, ← hR', List.take_left]
    rw [this]
    exact ho i hi
  · have : rowQ w (A ++ R' ++ B) j = rowQ w C j := by
      have hm : ∀ x y : Nat, x < y → x * w + w ≤ y * w := fun x y h => by
        have := Nat.mul_le_mul_right w h
        rw [Nat.succ_mul] at this
        exact this
      subst hC
      unfold rowQ
      rcases Nat.lt_or_ge j k with h1 | h1
      · have := hm j k h1
        rw [List.append_assoc, List.append_assoc, List.drop_append_of_le_length (by omega), List.drop_append_of_le_length (by omega), List.take_append_of_le_length (by simp; omega), List.take_append_of_le_length (by simp; omega)]
      · have := hm k j (by omega)
        have d1 : ∀ X : List Qd, X.length = w → (A ++ X ++ B).drop (j * w) = B.drop (j * w - (k * w + w)) := fun X hX => by
          have hl : (A ++ X).length = k * w + w := by rw [List.length_append, hA, hX]
          rw [List.drop_append, List.drop_eq_nil_of_le (by omega), List.nil_append, hl]
        rw [d1 R' hR', d1 R hR]
    rw [this]
    exact g.cell j hj i hi
end Go.Proofs.YtmbfechiallppaaGreatDoor
end
section
namespace Go.Fw
open Go Go.RowKit Go.Sx
section
variable {α : Type} (d : α)
/-- A list, of which the places from f up to t are given by g. -/
def genL (L : List α) (f t : Nat) (g : Nat → α) : List α := (List.range L.length).map fun i => if f ≤ i ∧ i < t then g i else L.getD i d
theorem genL_len (L : List α) (f t : Nat) (g : Nat → α) : (genL d L f t g).length = L.length := by simp [genL]
theorem genL_at {L : List α} {f t i : Nat} {g : Nat → α} (hi : i < L.length) : (genL d L f t g)[i]? = some (if f ≤ i ∧ i < t then g i else L.getD i d) := by
  unfold genL
  rw [List.getElem?_map, List.getElem?_range hi, Option.map_some]
theorem getD_some {L : List α} {i : Nat} (hi : i < L.length) : L[i]? = some (L.getD i d) := by
  rw [List.getD_eq_getElem?_getD, List.getElem?_eq_getElem hi, Option.getD_some]
theorem genL_0 {L : List α} {f t : Nat} {g : Nat → α} (h : t ≤ f) : genL d L f t g = L := by
  apply List.ext_getElem?
  intro i
  rcases Nat.lt_or_ge i L.length with hi | hi
  · rw [genL_at d hi, if_neg (by omega), getD_some d hi]
  · rw [List.getElem?_eq_none (by rw [genL_len]; exact hi), List.getElem?_eq_none hi]
theorem genL_set {L : List α} {f t : Nat} {g : Nat → α} (hf : f ≤ t) : (genL d L f t g).set t (g t) = genL d L f (t + 1) g := by
  apply List.ext_getElem?
  intro i
  rcases Nat.lt_or_ge i L.length with hi | hi
  · rw [List.getElem?_set, genL_at d hi, genL_at d hi, genL_len]
    by_cases e : t = i
    · subst e
      rw [if_pos rfl, if_pos hi, if_pos (by omega)]
    · rw [if_neg e]
      by_cases h : f ≤ i ∧ i < t
      · rw [if_pos h, if_pos (by omega)]
      · rw [if_neg h, if_neg (by omega)]
  · rw [List.getElem?_eq_none (by rw [List.length_set, genL_len]; exact hi), List.getElem?_eq_none (by rw [genL_len]; exact hi)]
end
end Go.Fw
namespace Go.Proofs.YtmbfechiallppaaGreatDoor
open Go Go.RowKit Go.Fw Go.Sx
set_option maxRecDepth 100000
set_option maxHeartbeats 1000000
attribute [local irreducible] SW SL SQ AtQ SV SC BB LD PK Yields SO SOT SOA SY
theorem gridRowAt_sv (G : Ctx) (H : List Ent) (b w h n c k p : Nat) (hp : (k : Int) * (w : Int) = (p : Int)) (hp2 : ((k : Int) + 1) * (w : Int) = ((p + w : Nat) : Int)) (hm : n ≤ 100000) (hn : p + w ≤ n) (hnc : n ≤ c) (hw : 1 ≤ w) (hk : k ≤ 1000) : SV Tryz.prog G 80 [gridV w h (some ⟨b, 0, none⟩) n c, .int .i64 k] H (.slice (some ⟨b, p * 4, none⟩) w (c - p)) := by
  have e : Value.slice (some ⟨b, p * 4, none⟩) w (c - p) = .slice (some ⟨b, ((k : Int) * (w : Int)).toNat * 4, none⟩) ((((k : Int) + 1) * (w : Int)).toNat - ((k : Int) * (w : Int)).toNat) (c - ((k : Int) * (w : Int)).toNat) := by
    rw [hp, hp2, Int.toNat_natCast, Int.toNat_natCast, Nat.add_sub_cancel_left]
  rw [e]
  refine sv_enter2 Tryz.func80 rfl rfl rfl rfl rfl ?_
  repeat' ((first | (apply g_sl; (first | (apply ks_nil; refine sl_nil ?_) | (apply ks_move; refine s_move rfl rfl ?_) | (apply ks_bin; refine s_bin rfl rfl rfl ?_; ((first | (refine bb_mul ⟨by omega, by omega⟩ ?_) | (((apply kb_add; (refine bb_add ⟨by omega, by omega⟩ ?_))))))) | (apply ks_load; ((refine s_load rfl rfl ?_; (refine ld_cell rfl ?_)))) | (apply ks_asgn; refine s_asgn rfl rfl ?_) | (apply ks_field; (refine s_field (c_field0 rfl rfl) rfl ?_)) | (apply ks_box; refine c_box rfl rfl rfl rfl rfl rfl (fun _ => ?_)) | (apply ks_slice; (((refine s_slice (y_sliceAt rfl rfl rfl rfl (by omega) (by omega) (by omega) (by omega)) rfl ?_)))))) | (apply sw_seq) | (apply sw_ret) | (apply sw_region) | (apply at_thn)))
  all_goals (refine e_sv (by (exact .inr rfl)) rfl (by repeat ((first | exact List.Sublist.refl _ | refine List.Sublist.cons _ ?_))) ?_; rfl)
theorem split3' (C : List Qd) (p w : Nat) : qds C = qds (C.take p) ++ qds ((C.drop p).take w) ++ qds (C.drop (p + w)) := by
  rw [← qds_app, ← qds_app, List.append_assoc, ← List.drop_drop, List.take_append_drop, List.take_append_drop]
/-- The cells of a grid, one row changed. -/
def rowC (C : List Qd) (w k : Nat) (M : List Qd) : List Qd := C.take (k * w) ++ M ++ C.drop (k * w + w)
end Go.Proofs.YtmbfechiallppaaGreatDoor
end
section
namespace Go.Fw
open Go Go.RowKit Go.Sx
section
variable {α : Type} (d : α)
/-- The element that comes to a place. -/
def movAt (L : List α) (n : Int) (q : α) (i : Nat) : α := if 0 ≤ (i : Int) - n ∧ (i : Int) - n < L.length then L.getD ((i : Int) - n).toNat d else q
def movL (L : List α) (n : Int) (q : α) : List α := (List.range L.length).map (movAt d L n q)
theorem movL_len (L : List α) (n : Int) (q : α) : (movL d L n q).length = L.length := by simp [movL]
theorem movL_snoc {L : List α} {n : Int} {q : α} {i : Nat} (hi : i < L.length) : (movL d L n q).take (i + 1) = (movL d L n q).take i ++ [movAt d L n q i] := by
  rw [List.take_succ_eq_append_getElem (by rw [movL_len]; exact hi)]
  congr 2
  simp [movL]
/-- The element that comes to a place of a stretch. -/
def shG (L : List α) (f t : Nat) (n : Int) (q : α) (i : Nat) : α := if (f : Int) ≤ (i : Int) - n ∧ (i : Int) - n < t then L.getD ((i : Int) - n).toNat d else q
theorem piece_getD {L : List α} {f t j : Nat} (hj : j < t - f) : ((L.drop f).take (t - f)).getD j d = L.getD (f + j) d := by
  rw [List.getD_eq_getElem?_getD, List.getD_eq_getElem?_getD, List.getElem?_take_of_lt hj, List.getElem?_drop]
theorem mov_piece {L : List α} {f t : Nat} {n : Int} {q : α} (hft : f ≤ t) (ht : t ≤ L.length) : movL d ((L.drop f).take (t - f)) n q = (List.range (t - f)).map (fun i => shG d L f t n q (f + i)) := by
  have hl : ((L.drop f).take (t - f)).length = t - f := by simp; omega
  unfold movL
  rw [hl]
  apply List.map_congr_left
  intro i hi
  have hi := List.mem_range.1 hi
  unfold movAt shG
  rw [hl]
  by_cases h : 0 ≤ (i : Int) - n ∧ (i : Int) - n < (t - f : Nat)
  · rw [if_pos h, if_pos (by omega), piece_getD d (by omega)]
    congr 1
    omega
  · rw [if_neg h, if_neg (by omega)]
end
end Go.Fw
namespace Go.Proofs.YtmbfechiallppaaGreatDoor
open Go Go.RowKit Go.Fw Go.Sx
set_option maxRecDepth 100000
set_option maxHeartbeats 1000000
attribute [local irreducible] SW SL SQ AtQ SV SC BB LD PK Yields SO SOT SOA SY
end Go.Proofs.YtmbfechiallppaaGreatDoor
end
section
namespace Go.Fw
open Go Go.RowKit Go.Sx
end Go.Fw
namespace Go.Proofs.YtmbfechiallppaaGreatDoor
open Go Go.RowKit Go.Fw Go.Sx
set_option maxRecDepth 100000
set_option maxHeartbeats 1000000
attribute [local irreducible] SW SL SQ AtQ SV SC BB LD PK Yields SO SOT SOA SY
theorem moveR_sc (G : Ctx) (H Hr : List Ent) (X : List Rw) {vs : List Value} (a : Option Addr) (n c : Nat) (s : Int) (f : Nat) (cap : List Value) (q : List Qd) (m : Nat) [h1 : RdC G H a vs] (hv : vs = X.map rwV) (hn : n = X.length) (hm : n ≤ 100000) (hb : -100000 ≤ s ∧ s ≤ 100000) (hX : RdX qds G Hr X) (hql : m = q.length)
    (hF : ∀ E, SC Tryz.prog G f cap (E ++ H) fun v H' => ∃ b, v = .slice (some ⟨b, 0, none⟩) m m ∧ H' = .own 104 4 (some ⟨b, 0, none⟩) m m (qds q) :: (E ++ H)) : SC Tryz.prog G 259 [.slice a n c, .int .i64 s, .func (.func f) #[] cap.toArray] H fun v H' => ∃ (Y : List Rw) (E : List Ent) (a' : Option Addr) (c' : Nat), v = .slice a' n c' ∧ Y.length = n ∧ Y.map (·.2.2) = movL [] (X.map (·.2.2)) s q ∧ RdX qds G (E ++ Hr) Y ∧ H' = .own 26 1 a' n c' (Y.map rwV) :: (E ++ H) := by
  subst hv
  have hqn : (X.map rwV).length = n * 1 := by simp [hn]
  have hPl : (X.map (·.2.2)).length = n := by simp [hn]
  have hl := (movL_len [] (X.map (·.2.2)) s q).trans hPl
  have hsn := fun i (hi : i < n) => movL_snoc [] (L := X.map (·.2.2)) (n := s) (q := q) (i := i) (by omega)
  have Hsn := Lib.hid hsn
  have Hl := Lib.hid hl
  have HF := Lib.hid hF
  have Hn := Lib.hid hn
  have HP := Lib.hid hPl
  clear hsn hl hn hF hPl
  refine sc_enter3 Tryz.func259 rfl rfl rfl rfl rfl ?_
  repeat' ((first | (apply g_sl; (first | (apply ks_nil; refine sl_nil ?_) | (apply ks_move; refine s_move rfl rfl ?_) | (apply ks_asgn; refine s_asgn rfl rfl ?_) | (apply ks_bi; (refine s_call (c_len rfl rfl) rfl ?_)))) | (apply sw_seq) | (apply sw_block) | (apply sw_region) | (apply at_thn)))
  refine sw_loopg (α := List Rw × List Ent × Option Addr × Nat) (fun g => [(0, .slice a n c), (1, .int .i64 s), (2, .func (.func f) #[] cap.toArray), (7, .slice g.2.2.1 g.1.length g.2.2.2), (11, .int .i64 n), (12, .int .i64 g.1.length)]) (fun g => .own 26 1 g.2.2.1 g.1.length g.2.2.2 (g.1.map rwV) :: (g.2.1 ++ H))
    (fun g => g.1.length ≤ n ∧ g.1.map (·.2.2) = (movL [] (X.map (·.2.2)) s q).take g.1.length ∧ RdX qds G (g.2.1 ++ Hr) g.1) (fun g => n - g.1.length) ([], [], none, 0) ⟨Nat.zero_le _, rfl, RdX.nil⟩ (by repeat ((first | exact Le.nil _ | refine Le.cons (by (rfl)) ?_))) (fun _ hw => hw.nilrow _ _) ?_
  rintro ⟨Y, E, ai, ci⟩ ⟨hi, hY, hYr⟩
  dsimp only at hi hY hYr ⊢
  generalize hYl : Y.length = i at *
  have hone := rwV_one Y
  by_cases hlt : (i : Int) < n
  · have fin : ∀ (x : Rw) (l : Nat), x.2.2 = movAt [] (X.map (·.2.2)) s q i → x.2.2.length = l → (Y ++ [x]).length = i + 1 ∧ (Y ++ [x]).map rwV = Y.map rwV ++ [.slice x.1 l x.2.1] ∧ (Y ++ [x]).map (·.2.2) = (movL [] (X.map (·.2.2)) s q).take (i + 1) := by
      intro x l hx hxl
      refine ⟨by rw [List.length_append, hYl]; rfl, ?_, ?_⟩
      · rw [List.map_append]
        simp only [List.map_cons, List.map_nil, rwV, hxl]
      · rw [List.map_append, hY, Hsn.out i (by omega), List.map_cons, List.map_nil, hx]
    by_cases hin : 0 ≤ (i : Int) - s ∧ (i : Int) - s < n
    · obtain ⟨⟨a1, c1, R1⟩, hx⟩ := get_of (X := X) (k := ((i : Int) - s).toNat) (by rw [← Hn.out]; omega)
      have hcell := rwV_at hx
      dsimp only at hcell
      have hcell' : (X.map rwV)[((i : Int) - s).toNat * 1]? = some (.slice a1 R1.length c1) := by rw [Nat.mul_one]; exact hcell
      have hat : R1 = movAt [] (X.map (·.2.2)) s q i := by
        unfold movAt
        rw [if_pos (by rw [HP.out]; exact hin), List.getD_eq_getElem?_getD, List.getElem?_map, hx]
        rfl
      obtain ⟨f1, f2, f3⟩ := fin (a1, c1, R1) _ hat rfl
      have hXx := hX.at hx
      obtain ⟨hin1, hin2⟩ := hin
      repeat' ((first | (apply g_sl; (first | (apply ks_nil; refine sl_nil ?_) | (apply ks_move; refine s_move rfl rfl ?_) | (apply ks_bin; refine s_bin rfl rfl rfl ?_; ((((first | (apply kb_add; (refine bb_add ⟨by omega, by omega⟩ ?_)) | (apply kb_sub; (refine bb_sub ⟨by omega, by omega⟩ ?_)) | refine bb_of rfl ?_))))) | (apply ks_load; (((refine s_load rfl rfl ?_; refine ld_elem hcell' ?_)))) | (apply ks_asgn; refine s_asgn rfl rfl ?_) | (apply ks_pick; refine s_pick rfl rfl ?_; ((apply kp_t; refine pk_t rfl ?_))) | (apply ks_indexA; (((refine s_indexA (c_indexAddr rfl rfl rfl hqn (by omega) (by omega)) rfl ?_)))) | (apply ks_bi; ((first | (refine c_append rfl rfl rfl rfl rfl rfl (by omega) rfl rfl (fun _ _ => ?_)) | refine s_call (c_len rfl rfl) rfl ?_))) | (apply ks_bs; (refine c_buildSlice rfl rfl rfl rfl rfl rfl rfl rfl rfl rfl (fun _ => ?_))) | (apply ks_guard; ((refine sl_gd rfl rfl rfl rfl ?_; (first | (apply gd_t) | (apply gd_dec_t <;> intro hq <;> (try (exfalso; omega))))))))) | (apply sw_seq) | (apply sw_skip) | (apply sw_block) | (apply sw_region) | (refine sw_cd rfl ?_; ((apply gd_dec_t <;> intro hq <;> (try (exfalso; omega))))) | (apply at_thn) | (apply at_inb)))
      rename_i _ a2 c2
      refine at_meet (Y ++ [(a1, c1, R1)], E, a2, c2) ⟨⟨by dsimp only; rw [f1]; omega, by dsimp only; rw [f1]; exact f3, hYr.snoc hXx.app⟩, by dsimp only; rw [f1]; omega⟩ ?_ ?_
      · dsimp only
        rw [f1]
        exact (by repeat ((first | exact Le.nil _ | refine Le.cons (by (rfl)) ?_)))
      · dsimp only
        rw [f1, f2]
        exact fun _ hw => hw.sub (List.Sublist.cons_cons _ (List.Sublist.cons _ (List.Sublist.refl _)))
    · have hat : q = movAt [] (X.map (·.2.2)) s q i := by unfold movAt; rw [if_neg (by rw [HP.out]; exact hin)]
      have cF := HF.out
      obtain hin1 | hin2 : (i : Int) - s < 0 ∨ n ≤ (i : Int) - s := by omega
      all_goals
        repeat' ((first | (apply g_sl; (first | (apply ks_nil; refine sl_nil ?_) | (apply ks_move; refine s_move rfl rfl ?_) | (apply ks_bin; refine s_bin rfl rfl rfl ?_; ((((first | (apply kb_add; (refine bb_add ⟨by omega, by omega⟩ ?_)) | (apply kb_sub; (refine bb_sub ⟨by omega, by omega⟩ ?_)) | refine bb_of rfl ?_))))) | (apply ks_asgn; refine s_asgn rfl rfl ?_) | (apply ks_pick; refine s_pick rfl rfl ?_; (first | (apply kp_t; refine pk_t rfl ?_) | (apply kp_f; refine pk_f rfl ?_))) | (apply ks_bi; ((first | (refine c_append rfl rfl rfl rfl rfl rfl (by omega) rfl rfl (fun _ _ => ?_)) | refine s_call (c_len rfl rfl) rfl ?_))) | (apply ks_bs; (refine c_buildSlice rfl rfl rfl rfl rfl rfl rfl rfl rfl rfl (fun _ => ?_))) | (apply ks_guard; ((refine sl_gd rfl rfl rfl rfl ?_; (first | (apply gd_t) | (apply gd_ft) | (apply gd_dec_t <;> intro hq <;> (try (exfalso; omega))))))) | ((refine c_calld rfl rfl rfl rfl (cF (_ :: E)) rfl rfl ?_; rintro _ _ ⟨b, rfl, rfl⟩; dsimp only [List.cons_append])))) | (apply sw_seq) | (apply sw_skip) | (apply sw_block) | (apply sw_region) | (refine sw_cd rfl ?_; (first | (apply gd_ft) | (apply gd_dec_t <;> intro hq <;> (try (exfalso; omega))))) | (apply at_thn) | (apply at_inb)))
        rename_i _ a2 c2
        obtain ⟨f1, f2, f3⟩ := fin (some ⟨b, 0, none⟩, m, q) m hat hql.symm
        refine at_meet (Y ++ [(some ⟨b, 0, none⟩, m, q)], .own 104 4 (some ⟨b, 0, none⟩) m m (qds q) :: E, a2, c2) ⟨⟨by dsimp only; rw [f1]; omega, by dsimp only; rw [f1]; exact f3, hYr.cons.snoc (Sl.own List.mem_cons_self rfl hql)⟩, by dsimp only; rw [f1]; omega⟩ ?_ ?_
        · dsimp only
          rw [f1]
          exact (by repeat ((first | exact Le.nil _ | refine Le.cons (by (rfl)) ?_)))
        · dsimp only
          rw [f1, f2]
          exact fun _ hw => hw.sub (List.Sublist.cons_cons _ (List.Sublist.cons _ (List.Sublist.refl _)))
  · obtain rfl : i = n := by omega
    repeat' ((first | (apply g_sl; (first | (apply ks_nil; refine sl_nil ?_) | (apply ks_move; refine s_move rfl rfl ?_) | (apply ks_bin; refine s_bin rfl rfl rfl ?_; (((refine bb_of rfl ?_)))) | (apply ks_asgn; refine s_asgn rfl rfl ?_))) | (apply sw_seq) | (apply sw_ret) | (apply sw_exit) | (apply sw_region) | (refine sw_cd rfl ?_; ((apply gd_dec_t <;> intro hq <;> (try (exfalso; omega))))) | (apply at_thn) | (apply at_thn_exit) | (apply at_inb_exit)))
    refine e_sc _ (.inr rfl) rfl (List.Sublist.refl _) ?_
    exact ⟨Y, E, ai, ci, rfl, hYl, by rw [hY, List.take_of_length_le (by rw [Hl.out]; exact Nat.le_refl _)], hYr, rfl⟩
theorem scF_sc (G : Ctx) (H : List Ent) (b b2 : Nat) (w h : Nat) (a : Option Addr) (n c : Nat) (x y z : Int) [HasBlk H b 28 [.int .i64 w, .int .i64 h, .slice a n c]] [HasBlk H b2 30 [.int .i64 x, .int .i64 y, .int .i64 z]] (hw : 1 ≤ w ∧ w ≤ 160) : SC Tryz.prog G 260 [.pointer (some ⟨b, 0, none⟩), .pointer (some ⟨b2, 0, none⟩)] H fun v H' => ∃ b, v = .slice (some ⟨b, 0, none⟩) w w ∧ H' = .own 104 4 (some ⟨b, 0, none⟩) w w (qds (List.replicate w (32, x, y, z))) :: H := by
  have cB := fun H => gblanks_sc G H w 1 x y z hw ⟨Nat.le_refl _, by omega⟩
  rw [Nat.mul_one] at cB
  refine sc_enter2 Tryz.func260 rfl rfl rfl rfl rfl ?_
  repeat' ((first | (apply g_sl; (first | (apply ks_nil; refine sl_nil ?_) | (apply ks_load; ((refine s_load rfl rfl ?_; (first | refine ld_cell rfl ?_ | refine ld_whole rfl ?_)))) | (apply ks_asgn; refine s_asgn rfl rfl ?_) | (apply ks_field; (refine s_field (c_field0 rfl rfl) rfl ?_)) | (apply ks_fn; ((refine c_call rfl rfl rfl (cB _) rfl rfl ?_; rintro _ _ ⟨b9, rfl, rfl⟩))) | (refine sl_val rfl (y_field (v := .slice (some ⟨b9, 0, none⟩) w w) rfl rfl (by kernel_rfl)) rfl rfl ?_))) | (apply sw_seq) | (apply sw_ret) | (apply sw_region) | (apply at_thn)))
  refine e_sc _ (by (exact .inr rfl)) rfl (List.Sublist.refl _) ?_
  exact ⟨b9, rfl, rfl⟩
end Go.Proofs.YtmbfechiallppaaGreatDoor
end
section
namespace Go.Sx
open Go Go.RowKit Go.Fw
section
variable {P : Program} {G : Ctx} {n : Nat} {s : Fm} {H : List Ent} {o : Oper}
end
end Go.Sx
namespace Go.Fw
open Go Go.RowKit Go.Sx
theorem flat_split {L : List (List Qd)} {k : Nat} {R : List Qd} (h : L[k]? = some R) : L.flatten = (L.take k).flatten ++ R ++ (L.drop (k + 1)).flatten := by
  obtain ⟨hk, rfl⟩ := List.getElem?_eq_some_iff.1 h
  rw [List.append_assoc, ← List.flatten_cons, ← List.drop_eq_getElem_cons hk, ← List.flatten_append, List.take_append_drop]
theorem flat_set {L : List (List Qd)} {k : Nat} (R : List Qd) (hk : k < L.length) : (L.set k R).flatten = (L.take k).flatten ++ R ++ (L.drop (k + 1)).flatten := by
  rw [List.set_eq_take_append_cons_drop, if_pos hk, List.flatten_append, List.flatten_cons, List.append_assoc]
theorem flat_len {w : Nat} : ∀ {L : List (List Qd)}, (∀ r ∈ L, r.length = w) → L.flatten.length = L.length * w
  | [], _ => by simp
  | R :: L, h => by
    rw [List.flatten_cons, List.length_append, h R List.mem_cons_self, flat_len fun r hr => h r (List.mem_cons_of_mem _ hr), List.length_cons, Nat.succ_mul, Nat.add_comm]
theorem flat_take {w : Nat} {L : List (List Qd)} (h : ∀ r ∈ L, r.length = w) {k : Nat} (hk : k ≤ L.length) : (L.take k).flatten.length = k * w := by
  rw [flat_len fun r hr => h r (List.mem_of_mem_take hr), List.length_take, Nat.min_eq_left hk]
end Go.Fw
namespace Go.Proofs.YtmbfechiallppaaGreatDoor
open Go Go.RowKit Go.Fw Go.Sx
set_option maxRecDepth 100000
set_option maxHeartbeats 1000000
attribute [local irreducible] SW SL SQ AtQ SV SC BB LD PK Yields SO SOT SOA SY
end Go.Proofs.YtmbfechiallppaaGreatDoor
end
section
namespace Go.Sx
open Go Go.RowKit Go.Fw
instance (priority := low) pickOwnApp {A H H' : List Ent} {a : Option Addr} {e : TypeId} {sz n c : Nat} {xs : List Value} [h : PickOwn H a e sz n c xs H'] : PickOwn (A ++ H) a e sz n c xs (A ++ H') := ⟨h.here.app A⟩
end Go.Sx
namespace Go.Fw
open Go Go.RowKit Go.Sx
theorem over_row {L : List (List Qd)} {k w : Nat} {R : List Qd} (hL : ∀ r ∈ L, r.length = w) (hk : k < L.length) (hR : R.length = w) : over (qds L.flatten) (k * w * 4) (qds R) = qds (L.set k R).flatten := by
  have hA := flat_take hL (k := k) (by omega)
  have hLk : (L[k]).length = w := hL _ (List.getElem_mem hk)
  rw [over_qds, flat_split (List.getElem?_eq_getElem hk), flat_set _ hk, hR]
  generalize (L.take k).flatten = A at *
  generalize (L.drop (k + 1)).flatten = S
  generalize L[k] = B at *
  congr 1
  have t1 : (A ++ B ++ S).take (k * w) = A := by rw [List.append_assoc, ← hA, List.take_left]
  have t2 : (A ++ B ++ S).drop (k * w + w) = S := by
    rw [List.append_assoc, ← List.drop_drop, ← hA, List.drop_left, ← hLk, List.drop_left]
  rw [t1, t2]
theorem genL_mem {α : Type} {d : α} {L : List α} {f t : Nat} {g : Nat → α} {Pr : α → Prop} (h1 : ∀ x ∈ L, Pr x) (h2 : ∀ i, i < L.length → Pr (g i)) : ∀ x ∈ genL d L f t g, Pr x := fun x hx => by
  obtain ⟨i, hi, rfl⟩ := List.mem_map.1 hx
  have hi := List.mem_range.1 hi
  by_cases h : f ≤ i ∧ i < t
  · rw [if_pos h]; exact h2 i hi
  · rw [if_neg h]
    exact h1 _ (List.mem_of_getElem? (getD_some d hi))
theorem shG_all {α : Type} {d : α} {L : List α} {f t : Nat} {n : Int} {q : α} {Pr : α → Prop} (h1 : ∀ x ∈ L, Pr x) (h2 : Pr q) (ht : t ≤ L.length) : ∀ i, Pr (shG d L f t n q i) := fun i => by
  unfold shG
  by_cases h : (f : Int) ≤ (i : Int) - n ∧ (i : Int) - n < t
  · rw [if_pos h]
    exact h1 _ (List.mem_of_getElem? (getD_some d (by omega)))
  · rw [if_neg h]; exact h2
end Go.Fw
namespace Go.Proofs.YtmbfechiallppaaGreatDoor
open Go Go.RowKit Go.Fw Go.Sx
set_option maxRecDepth 100000
set_option maxHeartbeats 1000000
attribute [local irreducible] SW SL SQ AtQ SV SC BB LD PK Yields SO SOT SOA SY
def rowsL (C : List Qd) (w h : Nat) : List (List Qd) := (List.range h).map (rowQ w C)
theorem rowsL_len (C : List Qd) (w h : Nat) : (rowsL C w h).length = h := by simp [rowsL]
theorem rowsL_w {C : List Qd} {w h : Nat} (hC : C.length = w * h) : ∀ r ∈ rowsL C w h, r.length = w := fun r hr => by
  obtain ⟨k, hk, rfl⟩ := List.mem_map.1 hr
  exact rowQ_len (List.mem_range.1 hk) hC
theorem rowsL_flat {C : List Qd} {w h : Nat} (hC : C.length = w * h) : (rowsL C w h).flatten = C := by
  have key : ∀ m, m ≤ h → ((List.range m).map (rowQ w C)).flatten = C.take (m * w) := by
    intro m
    induction m with
    | zero => intro _; simp
    | succ m ih =>
      intro hm
      rw [List.range_succ, List.map_append, List.flatten_append, ih (by omega), Nat.succ_mul, List.take_add]
      simp [rowQ]
  unfold rowsL
  rw [key h (Nat.le_refl _), List.take_of_length_le (by rw [hC, Nat.mul_comm]; exact Nat.le_refl _)]
theorem rowsL_piece {C : List Qd} {w h f t : Nat} (hft : f ≤ t) (ht : t ≤ h) : ((rowsL C w h).drop f).take (t - f) = (List.range (t - f)).map fun i => rowQ w C (f + i) := by
  apply List.ext_getElem?
  intro i
  rcases Nat.lt_or_ge i (t - f) with hi | hi
  · rw [List.getElem?_take_of_lt hi, List.getElem?_drop, rowsL, List.getElem?_map, List.getElem?_range (by omega), List.getElem?_map, List.getElem?_range hi]
    rfl
  · rw [List.getElem?_eq_none (by simp; omega), List.getElem?_eq_none (by simp; omega)]
/-- The cells behind a Scroll. -/
def scrR (C : List Qd) (w h f t : Nat) (s : Int) (q : Qd) : List (List Qd) := genL [] (rowsL C w h) f t (shG [] (rowsL C w h) f t (-s) (List.replicate w q))
def scrC (C : List Qd) (w h f t : Nat) (s : Int) (q : Qd) : List Qd := (scrR C w h f t s q).flatten
theorem row_rd (G : Ctx) (H : List Ent) (C : List Qd) (b w h n c k : Nat) (hC : C.length = w * h) (hw : 1 ≤ w) (hk : k < h) : RdC G (.own 104 4 (some ⟨b, 0, none⟩) n c (qds C) :: H) (some ⟨b, k * w * 4, none⟩) (qds (rowQ w C k)) := by
  have hr := row_mul (w := w) (h := h) (k := k) (n := C.length) hk hC
  have hl := rowQ_len hk hC
  have e : qds C = qds (C.take (k * w)) ++ qds (rowQ w C k) ++ qds (C.drop (k * w + w)) := split3' C (k * w) w
  rw [e]
  exact rd_pre (rd_off (G := G) (e := 104) (sz := 4) (len := n) (c := c) (b := b) (us := []) (H := H) (k * w * 4) (by rw [qds_len, List.length_take]; omega) (by rw [qds_len, hl]; omega))
theorem scrollIn_sc (G : Ctx) (H : List Ent) (C : List Qd) (b w h n c f t : Nat) (s x y z : Int) (hn : n = C.length) (hC : C.length = w * h) (hm : n ≤ 100000) (hnc : n ≤ c) (hw : 1 ≤ w ∧ w ≤ 160) (hh : h ≤ 60) (hft : f ≤ t) (ht : t ≤ h) (hs : -16383 ≤ s ∧ s ≤ 16383) : SC Tryz.prog G 225 [gridV w h (some ⟨b, 0, none⟩) n c, .int .i64 f, .int .i64 t, .int .i64 s, penV x y z] (.own 104 4 (some ⟨b, 0, none⟩) n c (qds C) :: H) fun v H' => v = .tuple #[] ∧ H' = .own 104 4 (some ⟨b, 0, none⟩) n c (qds (scrC C w h f t s (32, x, y, z))) :: H := by
  have e1 := fun k : Nat => show (k : Int) * (w : Int) = ((k * w : Nat) : Int) from by simp
  have e2 := fun k : Nat => show ((k : Int) + 1) * (w : Int) = ((k * w + w : Nat) : Int) from by rw [Int.add_mul]; simp
  have hkW := fun (k : Nat) (hk : k < h) => row_mul (w := w) (h := h) (k := k) (n := n) hk (by omega)
  have cO := fun (H : List Ent) (k : Nat) (hk : k < h) => gridRowAt_sv G H b w h n c k (k * w) (e1 k) (e2 k) hm (hkW k hk) hnc hw.1 (by omega)
  have hrd := fun (k : Nat) (hk : k < h) (H : List Ent) => row_rd G H C b w h n c k hC hw.1 hk
  have cC := fun (H : List Ent) (k : Nat) (hk : k < h) (a : Option Addr) (c' : Nat) {vs : List Value} [RdC G H a vs] (hv : vs = qds (rowQ w C k)) => cloneQ_sc G H (rowQ w C k) a w c' hv (rowQ_len hk hC).symm (by omega)
  have hRl := fun (k : Nat) (hk : k < h) => rowQ_len (w := w) (h := h) (k := k) (C := C) hk hC
  have Hn := Lib.hid hn
  have HC := Lib.hid hC
  clear hn hC e1 e2
  refine sc_enter5 Tryz.func225 rfl rfl rfl rfl rfl ?_
  repeat' ((first | (apply g_sl; (first | (apply ks_nil; refine sl_nil ?_) | (apply ks_move; refine s_move rfl rfl ?_) | (apply ks_asgn; refine s_asgn rfl rfl ?_) | (apply ks_box; refine c_box rfl rfl rfl rfl rfl rfl (fun _ => ?_)))) | (apply sw_seq) | (apply sw_block) | (apply sw_region) | (apply at_thn)))
  rename_i b5 b9
  refine sw_loopg (α := List Rw × List Ent × Option Addr × Nat) (fun g => [(1, .int .i64 f), (2, .int .i64 t), (3, .int .i64 s), (5, .pointer (some ⟨b5, 0, none⟩)), (9, .pointer (some ⟨b9, 0, none⟩)), (10, .slice g.2.2.1 g.1.length g.2.2.2), (11, .int .i64 ((f + g.1.length : Nat) : Int))])
    (fun g => .own 26 1 g.2.2.1 g.1.length g.2.2.2 (g.1.map rwV) :: .own 104 4 (some ⟨b, 0, none⟩) n c (qds C) :: .blk b9 30 [.int .i64 x, .int .i64 y, .int .i64 z] :: .blk b5 28 [.int .i64 w, .int .i64 h, .slice (some ⟨b, 0, none⟩) n c] :: (g.2.1 ++ H))
    (fun g => g.1.length ≤ t - f ∧ g.1.map (·.2.2) = (List.range g.1.length).map (fun i => rowQ w C (f + i)) ∧ RdX qds G (g.2.1 ++ H) g.1) (fun g => t - f - g.1.length) ([], [], none, 0) ⟨Nat.zero_le _, rfl, RdX.nil⟩ (by repeat ((first | exact Le.nil _ | refine Le.cons (by (rfl)) ?_))) ?_ ?_
  · exact fun _ hw => (hw.subs (by repeat ((first | refine Subs.cons (by repeat constructor) ?_ | exact Subs.sub (by repeat ((exact List.Sublist.refl _))))))).nilrow _ _
  rintro ⟨X, E, ar, cr⟩ ⟨hi, hX, hXr⟩
  dsimp only at hi hX hXr ⊢
  generalize hXl : X.length = i at *
  have hone := rwV_one X
  by_cases hlt : ((f + i : Nat) : Int) < t
  · have hk : f + i < h := by omega
    have cOi := fun H => cO H (f + i) hk
    have cCi := fun (H : List Ent) (a : Option Addr) (c' : Nat) {vs : List Value} [RdC G H a vs] (hv : vs = qds (rowQ w C (f + i))) => cC H (f + i) hk a c' hv
    haveI := hrd (f + i) hk
    have hRi := hRl (f + i) hk
    clear cO cC hrd hkW hRl
    generalize hRR : rowQ w C (f + i) = R at *
    generalize hKK : f + i = k at *
    repeat' ((first | (apply g_sl; (first | (apply ks_nil; refine sl_nil ?_) | (apply ks_move; refine s_move rfl rfl ?_) | (apply ks_bin; refine s_bin rfl rfl rfl ?_; ((((first | (apply kb_add; (refine bb_add ⟨by omega, by omega⟩ ?_)) | refine bb_of rfl ?_))))) | (apply ks_load; ((refine s_load rfl rfl ?_; (refine ld_whole rfl ?_)))) | (apply ks_asgn; refine s_asgn rfl rfl ?_) | (apply ks_fn; ((first | refine c_callv rfl rfl rfl (cOi _) rfl rfl ?_ | (refine c_call rfl rfl rfl (cCi _ _ _ rfl) rfl rfl ?_; rintro _ _ ⟨a', c', rfl, rfl⟩)))) | (apply ks_bi; (((refine c_append rfl rfl rfl rfl rfl rfl (by omega) rfl rfl (fun _ _ => ?_))))) | (apply ks_bs; (refine c_buildSlice rfl rfl rfl rfl rfl rfl rfl rfl rfl rfl (fun _ => ?_))))) | (apply sw_seq) | (apply sw_skip) | (apply sw_block) | (apply sw_region) | (refine sw_cd rfl ?_; ((apply gd_dec_t <;> intro hq <;> (try (exfalso; omega))))) | (apply at_thn) | (apply at_inb)))
    rename_i _ a2 c2
    have f1 : (X ++ [((a', c', R) : Rw)]).length = i + 1 := by rw [List.length_append, hXl]; rfl
    have f2 : (X ++ [((a', c', R) : Rw)]).map rwV = X.map rwV ++ [.slice a' w c'] := by
      rw [List.map_append]
      simp only [List.map_cons, List.map_nil, rwV, hRi]
    have f3 : (X ++ [((a', c', R) : Rw)]).map (·.2.2) = (List.range (i + 1)).map (fun i => rowQ w C (f + i)) := by
      rw [List.map_append, hX, List.range_succ, List.map_append, List.map_cons, List.map_nil, List.map_cons, List.map_nil, hKK, hRR]
    refine at_meet (X ++ [(a', c', R)], .own 104 4 a' w c' (qds R) :: E, a2, c2) ⟨⟨by dsimp only; rw [f1]; omega, by dsimp only; rw [f1]; exact f3, hXr.cons.snoc (Sl.own List.mem_cons_self rfl hRi.symm)⟩, by dsimp only; rw [f1]; omega⟩ ?_ ?_
    · dsimp only
      rw [f1]
      exact (by repeat ((first | exact Le.nil _ | refine Le.cons (by (first | rfl | (exact congrArg some (congrArg (Value.int _) (by omega))))) ?_)))
    · dsimp only
      rw [f1, f2]
      simp only [List.cons_append]
      exact (fun _ hw => hw.subs (by repeat ((first | refine Subs.cons (by repeat constructor) ?_ | exact Subs.sub (by repeat ((first | exact List.Sublist.refl _ | refine List.Sublist.cons _ ?_)))))))
  · have cM := fun (H' : List Ent) (a : Option Addr) (c' : Nat) {vs : List Value} [RdC G H' a vs] (hv : vs = X.map rwV) hF => moveR_sc G H' (E ++ H) X a i c' (-s) 260 [.pointer (some ⟨b5, 0, none⟩), .pointer (some ⟨b9, 0, none⟩)] (List.replicate w (32, x, y, z)) w hv hXl.symm (by omega) ⟨by omega, by omega⟩ hXr (by simp) hF
    have hit : i = t - f := by omega
    have hP : X.map (·.2.2) = ((rowsL C w h).drop f).take (t - f) := by rw [hX, rowsL_piece hft ht, hit]
    have hmov := mov_piece ([] : List Qd) (L := rowsL C w h) (n := -s) (q := List.replicate w (32, x, y, z)) hft (by rw [rowsL_len]; exact ht)
    rw [← hP] at hmov
    have hneg : IntKind.i64.wrap (0 - s) = -s := (IntWalk.i64_in (0 - s) (by omega)).trans (by omega)
    rw [hmov] at cM
    have hrw := rowsL_w HC.out
    have hgw := shG_all (d := ([] : List Qd)) (f := f) (n := -s) (q := List.replicate w ((32, x, y, z) : Qd)) (Pr := fun r => r.length = w) hrw (by simp) (show t ≤ (rowsL C w h).length by rw [rowsL_len]; exact ht)
    have hfl0 := rowsL_flat HC.out
    have hLl := rowsL_len C w h
    have h0 : qds C = qds (genL [] (rowsL C w h) f f (shG [] (rowsL C w h) f t (-s) (List.replicate w (32, x, y, z)))).flatten := by rw [genL_0 [] (Nat.le_refl _), hfl0]
    unfold scrC scrR
    generalize shG [] (rowsL C w h) f t (-s) (List.replicate w (32, x, y, z)) = g at *
    rw [← hneg] at cM
    clear hrd cC hP hmov hX hneg
    repeat' ((first | (apply g_sl; (first | (apply ks_nil; refine sl_nil ?_) | (apply ks_move; refine s_move rfl rfl ?_) | (apply ks_bin; refine s_bin rfl rfl rfl ?_; (((refine bb_of rfl ?_)))) | (apply ks_asgn; refine s_asgn rfl rfl ?_) | (apply ks_un; refine s_un (y_un rfl rfl rfl) rfl ?_) | (apply ks_fn; ((refine c_call rfl rfl rfl (cM _ _ _ rfl (fun _ => scF_sc _ _ _ _ _ _ _ _ _ _ _ _ hw)) rfl rfl ?_; rintro _ _ ⟨Y, E2, a2, c2, rfl, hYl, hY, hYr, rfl⟩))) | (apply ks_bi; (refine s_call (c_len rfl rfl) rfl ?_)) | (refine s_mkfn (y_mkfn rfl rfl rfl) rfl ?_))) | (apply sw_seq) | (apply sw_exit) | (apply sw_block) | (apply sw_region) | (refine sw_cd rfl ?_; ((apply gd_dec_t <;> intro hq <;> (try (exfalso; omega))))) | (apply at_thn) | (apply at_thn_exit) | (apply at_inb_exit)))
    rw [← hit] at hY
    refine sw_loopg (α := Nat) (fun j => [(1, .int .i64 f), (5, .pointer (some ⟨b5, 0, none⟩)), (32, .slice a2 i c2), (33, .int .i64 i), (34, .int .i64 j)])
      (fun j => .own 104 4 (some ⟨b, 0, none⟩) n c (qds (genL [] (rowsL C w h) f (f + j) g).flatten) :: .own 26 1 a2 i c2 (Y.map rwV) :: .blk b5 28 [.int .i64 w, .int .i64 h, .slice (some ⟨b, 0, none⟩) n c] :: (E2 ++ (E ++ H)))
      (fun j => j ≤ i) (fun j => i - j) 0 (Nat.zero_le _) (by repeat ((first | exact Le.nil _ | refine Le.cons (by (rfl)) ?_))) ?_ ?_
    · rw [h0]
      refine fun _ hw => ?_
      have hw := hw.sub (List.Sublist.cons_cons _ (List.Sublist.append (List.Sublist.refl E2) (List.Sublist.cons _ (List.Sublist.cons_cons _ (List.Sublist.cons _ (List.Sublist.refl _))))))
      exact hw.perm ((List.Perm.cons _ ((List.perm_middle (l₁ := E2)).trans (List.Perm.cons _ (List.perm_middle (l₁ := E2))))).trans (List.Perm.swap _ _ _))
    intro j hj
    by_cases hlt : (j : Int) < i
    · have hk : f + j < h := by omega
      have cOj := fun H => cO H (f + j) hk
      simp only [Int.natCast_add] at cOj
      obtain ⟨⟨a1, c1, R⟩, hx⟩ := get_of (X := Y) (k := j) (by omega)
      have hR : R = g (f + j) := by
        have h5 := map_at (·.2.2) hx
        rw [hY, List.getElem?_map, List.getElem?_range (by omega), Option.map_some] at h5
        exact (Option.some.inj h5).symm
      have hRw : R.length = w := by rw [hR]; exact hgw _
      have hcell := rwV_at hx
      dsimp only at hcell
      rw [hRw] at hcell
      have hcell' : (Y.map rwV)[(j : Int).toNat * 1]? = some (.slice a1 w c1) := by rw [show (j : Int).toNat * 1 = j from by omega]; exact hcell
      have hlo : (Y.map rwV).length = i * 1 := by simp [hYl]
      haveI hrd0 := (hYr.at hx).rd
      dsimp only at hrd0
      have hql : (qds R).length = w * 4 := by rw [qds_len, hRw]
      have hone : ((qds R).take (w * 4)).all (·.oneCell') = true := by rw [qds_take]; exact qds_one _
      have hov := over_row (L := genL [] (rowsL C w h) f (f + j) g) (k := f + j) (w := w) (R := R) (genL_mem hrw (fun i _ => hgw i)) (by rw [genL_len, hLl]; exact hk) hRw
      have hov2 : over (qds (genL [] (rowsL C w h) f (f + j) g).flatten) ((f + j) * w * 4) ((qds R).take (w * 4)) = qds (genL [] (rowsL C w h) f (f + (j + 1)) g).flatten := by
        rw [List.take_of_length_le (by rw [hql]; exact Nat.le_refl _), hov, hR, genL_set [] (by omega)]
        rfl
      have hkw := hkW (f + j) hk
      clear hov hR cO hkW hY hYr hRl
      generalize hKK : f + j = k at *
      repeat' ((first | (apply g_sl; (first | (apply ks_nil; refine sl_nil ?_) | (apply ks_move; refine s_move rfl rfl ?_) | (apply ks_bin; refine s_bin rfl rfl rfl ?_; ((((first | (apply kb_add; (refine bb_add ⟨by omega, by omega⟩ ?_)) | refine bb_of rfl ?_))))) | (apply ks_load; (first | (refine s_load rfl rfl ?_; (refine ld_whole rfl ?_)) | ((refine s_load rfl rfl ?_; refine ld_elem hcell' ?_)))) | (apply ks_asgn; refine s_asgn rfl rfl ?_) | (apply ks_indexA; (((refine s_indexA (c_indexAddr rfl rfl rfl hlo (by omega) (by omega)) rfl ?_)))) | (apply ks_fn; (refine c_callv rfl rfl rfl (cOj _) rfl rfl ?_)) | (apply ks_bi; (((refine c_copyA (m := w) rfl rfl rfl rfl (by omega) (by rw [hql]; exact Nat.le_refl _) (by omega) hone rfl rfl ?_; rw [hov2])))))) | (apply sw_seq) | (apply sw_skip) | (apply sw_block) | (apply sw_region) | (refine sw_cd rfl ?_; ((apply gd_dec_t <;> intro hq <;> (try (exfalso; omega))))) | (apply at_thn) | (apply at_inb)))
      exact at_meet (j + 1) ⟨by omega, by omega⟩ (by repeat ((first | exact Le.nil _ | refine Le.cons (by (rfl)) ?_))) (fun _ hw => hw.subs (by repeat ((first | refine Subs.cons (by repeat constructor) ?_ | exact Subs.sub (by repeat ((exact List.Sublist.refl _)))))))
    · obtain rfl : j = i := by omega
      repeat' ((first | (apply g_sl; (first | (apply ks_nil; refine sl_nil ?_) | (apply ks_bin; refine s_bin rfl rfl rfl ?_; (((refine bb_of rfl ?_)))))) | (apply sw_seq) | (apply sw_exit) | (apply sw_region) | (refine sw_cd rfl ?_; ((apply gd_dec_t <;> intro hq <;> (try (exfalso; omega))))) | (apply at_thn) | (apply at_thn_exit) | (apply at_inb_exit)))
      rw [show f + j = t from by omega]
      refine e_sc (_ :: H) (by (exact .inl rfl)) rfl (List.Sublist.cons_cons _ (List.Sublist.cons _ (List.Sublist.cons _ ((List.sublist_append_right E H).trans (List.sublist_append_right E2 _))))) ?_
      exact ⟨rfl, rfl⟩
end Go.Proofs.YtmbfechiallppaaGreatDoor
end
section
namespace Go.Proofs.YtmbfechiallppaaGreatDoor
open Go Go.RowKit Go.Fw Go.Sx
set_option maxRecDepth 100000
def rwOk (w : Nat) (r : List Qd) : Prop := r.length = w ∧ ∀ i, i < w → cellOk r i = true
theorem rowQ_flat {w k : Nat} {L : List (List Qd)} (hL : ∀ r ∈ L, r.length = w) (hk : k < L.length) : rowQ w L.flatten k = L[k] := by
  have hA := flat_take hL (k := k) (by omega)
  have hLk : (L[k]).length = w := hL _ (List.getElem_mem hk)
  unfold rowQ
  rw [flat_split (List.getElem?_eq_getElem hk), List.append_assoc, ← hA, List.drop_left]
  conv => lhs; rw [← hLk, List.take_left]
theorem GrOk.of_rows {w h : Nat} {L : List (List Qd)} (hs : (1 ≤ w ∧ w ≤ 160) ∧ (1 ≤ h ∧ h ≤ 60)) (hl : L.length = h) (hr : ∀ r ∈ L, rwOk w r) : GrOk w h L.flatten := by
  have hL : ∀ r ∈ L, r.length = w := fun r h => (hr r h).1
  refine ⟨hs, by rw [flat_len hL, hl, Nat.mul_comm], fun k hk i hi => ?_⟩
  rw [rowQ_flat hL (by omega)]
  exact (hr _ (List.getElem_mem _)).2 i hi
theorem GrOk.rows {w h : Nat} {C : List Qd} (g : GrOk w h C) : ∀ r ∈ rowsL C w h, rwOk w r := fun r hr => by
  obtain ⟨k, hk, rfl⟩ := List.mem_map.1 hr
  have hk := List.mem_range.1 hk
  exact ⟨rowQ_len hk g.len, g.cell k hk⟩
theorem blank_ok {w : Nat} {x y z : Int} (hp : penB x y z = true) : rwOk w (List.replicate w (32, x, y, z)) := by
  refine ⟨List.length_replicate, fun i hi => ?_⟩
  have e : (List.replicate w ((32, x, y, z) : Qd)).getD i qz = (32, x, y, z) := by
    rw [List.getD_eq_getElem?_getD, List.getElem?_replicate, if_pos hi]; rfl
  rw [cellOk_iff, e]
  refine ⟨(celOk_iff _).2 ⟨hp, .inr (by show refWidth 32 ≠ 0; rw [w32]; decide)⟩, ?_⟩
  unfold loneB
  rw [e, if_neg (show ¬ (32 : Int) = 0 by decide), decide_eq_false]
  rintro ⟨h, -⟩
  have h : refWidth 32 = 2 := h
  rw [w32] at h
  cases h
theorem GrOk.scroll {w h f t : Nat} {C : List Qd} (g : GrOk w h C) (s x y z : Int) (ht : t ≤ h) (hp : penB x y z = true) : GrOk w h (scrC C w h f t s (32, x, y, z)) := by
  unfold scrC scrR
  refine GrOk.of_rows g.size (by rw [genL_len, rowsL_len]) (genL_mem g.rows fun i _ => shG_all g.rows (blank_ok hp) (by rw [rowsL_len]; exact ht) i)
theorem GrOk.new {w h : Nat} (hs : (1 ≤ w ∧ w ≤ 160) ∧ (1 ≤ h ∧ h ≤ 60)) : GrOk w h (List.replicate (w * h) (32, 0, 0, 0)) := by
  have e : ((List.replicate h (List.replicate w ((32, 0, 0, 0) : Qd))).flatten) = List.replicate (w * h) (32, 0, 0, 0) := by
    rw [List.flatten_replicate_replicate, Nat.mul_comm]
  rw [← e]
  exact GrOk.of_rows hs List.length_replicate fun r hr => by
    rw [(List.mem_replicate.1 hr).2]; exact blank_ok (by decide +kernel)
end Go.Proofs.YtmbfechiallppaaGreatDoor
end
section
namespace Go.Proofs.YtmbfechiallppaaGreatDoor
open Go Go.RowKit Go.Fw Go.Sx
set_option maxRecDepth 100000
set_option maxHeartbeats 2000000
/-- What is past, with one row more; forty at most. -/
def pastPush (p : List (List Qd)) (r : List Qd) : List (List Qd) := if 40 < (p ++ [r]).length then (p ++ [r]).drop 1 else p ++ [r]
/-- All up by a row. -/
def upR (s : Scr) : Scr := { s with late := false, past := pastPush s.past (rowQ s.w s.C 0), C := scrC s.C s.w s.h s.top.toNat s.bot.toNat 1 (32, 0, 0, s.pb) }
def downS (s : Scr) : Scr := { s with late := false, row := s.row + 1 }
attribute [local irreducible] SW SL SQ AtQ SV SC BB LD PK Yields SO SOT SOA SY
theorem gRow_sc (G : Ctx) (H : List Ent) (C : List Qd) {vs : List Value} (a : Option Addr) (w h n c k : Nat) [h1 : RdC G H a vs] (hv : vs = qds C) (hn : n = C.length) (hm : n ≤ 100000) (hnc : n ≤ c) (hwh : n = w * h) (hw : 1 ≤ w ∧ w ≤ 160) (hk : k < h) (hk2 : k ≤ 1000) : SC Tryz.prog G 41 [gridV w h a n c, .int .i64 k] H fun v H' => ∃ a' c', v = .slice a' w c' ∧ H' = .own 104 4 a' w c' (qds (rowQ w C k)) :: H := by
  subst hv
  have hlen := rowQ_len (w := w) (h := h) (k := k) (C := C) hk (by omega)
  have cR := fun (H : List Ent) {vs : List Value} [RdC G H a vs] (hv : vs = qds C) => gridRow_sc G H C a w h n c k hv hn hm hnc hwh hw hk hk2
  have cC := fun (H : List Ent) (a' : Option Addr) (c' : Nat) (_ : RdC G H a' (qds (rowQ w C k))) => cloneQ_sc G H (rowQ w C k) a' w c' rfl hlen.symm (by omega)
  generalize rowQ w C k = R at *
  clear hn hwh hm
  refine sc_enter2 Tryz.func41 rfl rfl rfl rfl rfl ?_
  repeat' ((first | (apply g_sl; (first | (apply ks_nil; refine sl_nil ?_) | (apply ks_move; refine s_move rfl rfl ?_) | (apply ks_load; ((refine s_load rfl rfl ?_; (refine ld_whole rfl ?_)))) | (apply ks_asgn; refine s_asgn rfl rfl ?_) | (apply ks_fn; ((first | (refine c_call rfl rfl rfl (cR _ rfl) rfl rfl ?_; rintro _ _ ⟨rfl, a1, c1, rfl, h5, h6⟩) | (refine c_call rfl rfl rfl (cC _ _ _ inferInstance) rfl rfl ?_; rintro _ _ ⟨a2, c2, rfl, rfl⟩)))) | (apply ks_box; refine c_box rfl rfl rfl rfl rfl rfl (fun _ => ?_)))) | (apply sw_seq) | (apply sw_ret) | (apply sw_region) | (apply at_thn)))
  exact e_scf (.own 104 4 a2 w c2 (qds R) :: H) (by (exact .inr rfl)) rfl (fun _ hw => hw.subs (by repeat ((first | refine Subs.cons (by repeat constructor) ?_ | exact Subs.sub (by repeat ((first | exact List.Sublist.refl _ | refine List.Sublist.cons _ ?_))))))) ⟨_, _, rfl, rfl⟩
theorem index_c (G : Ctx) (H : List Ent) (s : Scr) (tb : Nat) (ga : Option Addr) (gn gc : Nat) (oa : Option Addr) (on oc : Nat) (pa : Option Addr) (pn pc : Nat) (t : ByteArray) (h1 : s.row ≠ s.bot - 1) (h2 : 0 ≤ s.row ∧ s.row < (s.h : Int) - 1) (h3 : s.h ≤ 60) (hb : 0 ≤ s.bot ∧ s.bot ≤ 1000) : SC Tryz.prog G 163 [.pointer (some ⟨tb, 0, none⟩)] (.blk tb 172 (trmC s ga gn gc oa on oc pa pn pc t) :: H) fun v H' => v = resV [] ∧ H' = .blk tb 172 (trmC (downS s) ga gn gc oa on oc pa pn pc t) :: H := by
  unfold trmC
  refine sc_enter1 Tryz.func163 rfl rfl rfl rfl rfl ?_
  repeat' ((first | (apply g_sl; (first | (apply ks_nil; refine sl_nil ?_) | (apply ks_move; refine s_move rfl rfl ?_) | (apply ks_bin; refine s_bin rfl rfl rfl ?_; ((((apply kb_add; (refine bb_add ⟨by omega, by omega⟩ ?_)))))) | (apply ks_load; ((refine s_load rfl rfl ?_; (refine ld_cell rfl ?_)))) | (apply ks_field; (refine s_field (c_field0 rfl rfl) rfl ?_)) | (apply ks_nilc; refine s_nilc (y_nilCheck rfl rfl) rfl ?_) | (apply ks_store; ((refine c_store rfl rfl rfl rfl rfl rfl rfl ?_))))) | (apply g_sq; (first | (apply kq_nil; refine sq_nil ?_) | (apply kq_move; refine q_move rfl rfl ?_) | (apply kq_bin; refine q_bin rfl rfl rfl ?_; (((first | (apply kb_sub; (refine bb_sub ⟨by omega, by omega⟩ ?_)) | refine bb_of rfl ?_)))) | (apply kq_load; ((refine q_load rfl rfl ?_; (refine ld_cell rfl ?_)))) | (apply kq_asgn; refine q_asgn rfl rfl ?_) | (apply kq_field; (refine q_field (c_field0 rfl rfl) rfl ?_)) | (apply kq_nilc; refine q_nilc (y_nilCheck rfl rfl) rfl ?_))) | (apply sw_seq) | (apply sw_block) | (apply sw_region) | (refine sw_cd rfl ?_; ((apply gd_dec_t <;> intro hq <;> (try (exfalso; omega))))) | (apply at_thn) | (apply at_inb) | refine c_drawn (by kernel_rfl) ?_))
  all_goals (skip)
  refine e_sc (_ :: H) (by (exact .inl rfl)) rfl (List.Sublist.cons_cons _ (by repeat ((exact List.Sublist.refl _)))) ?_
  exact ⟨rfl, rfl⟩
theorem index_a (G : Ctx) (K Kr : List Ent) (s : Scr) (tb gb : Nat) (gc : Nat) (oa : Option Addr) (on oc : Nat) (pa : Option Addr) (pn pc : Nat) (t : ByteArray) (X : List (Rx Qd)) (hg : GrOk s.w s.h s.C) (gn : Nat) (hgn : gn = s.C.length) (hgc : gn ≤ gc) (h1 : s.row = s.bot - 1) (ht : s.top = 0) (hb : 1 ≤ s.bot ∧ s.bot ≤ s.h) (hm : iand s.modes 256 = 0) (hm2 : 0 ≤ s.modes ∧ s.modes ≤ 2047)
    (hX : X.map (·.2.2) = s.past) (hr : RdX qds G Kr X) (hpn : pn = X.length) (hpl : pn ≤ 40) :
    SC Tryz.prog G 163 [.pointer (some ⟨tb, 0, none⟩)] (.blk tb 172 (trmC s (some ⟨gb, 0, none⟩) gn gc oa on oc pa pn pc t) :: .own 104 4 (some ⟨gb, 0, none⟩) gn gc (qds s.C) :: .own 126 1 pa pn pc (X.map rxV) :: K)
      fun v H' => ∃ (E : List Ent) (pa' : Option Addr) (pc' : Nat) (X' : List (Rx Qd)), v = resV [] ∧ H' = .blk tb 172 (trmC (upR s) (some ⟨gb, 0, none⟩) gn gc oa on oc pa' X'.length pc' t) :: .own 104 4 (some ⟨gb, 0, none⟩) gn gc (qds (upR s).C) :: (E ++ K) ∧ RdC G (E ++ Kr) pa' (X'.map rxV) ∧ RdX qds G (E ++ Kr) X' ∧ X'.map (·.2.2) = (upR s).past ∧ CapC G (E ++ Kr) pa' X'.length pc' := by
  have cI := fun (H : List Ent) (t' : Scr) (pa' : Option Addr) (pn' pc' : Nat) (_ : HasBlk H tb 172 (trmC { s with late := false } (some ⟨gb, 0, none⟩) gn gc oa on oc pa' pn' pc' t)) => tIs_sv G H { s with late := false } 256 tb (some ⟨gb, 0, none⟩) gn gc oa on oc pa' pn' pc' t hm2 (by omega)
  have cC := fun (H : List Ent) (pa' : Option Addr) (pn' pc' : Nat) (_ : HasBlk H tb 172 (trmC { s with late := false } (some ⟨gb, 0, none⟩) gn gc oa on oc pa' pn' pc' t)) => tClear_sv G H { s with late := false } tb (some ⟨gb, 0, none⟩) gn gc oa on oc pa' pn' pc' t
  have cR := fun (H : List Ent) {vs : List Value} [RdC G H (some ⟨gb, 0, none⟩) vs] (hv : vs = qds s.C) => gRow_sc G H s.C (some ⟨gb, 0, none⟩) s.w s.h gn gc 0 hv hgn (by rw [hgn]; exact hg.len1) hgc (by rw [hgn, hg.len]) hg.size.1 (by have := hg.size; omega) (by omega)
  have cS := fun (H : List Ent) => scrollIn_sc G H s.C gb s.w s.h gn gc s.top.toNat s.bot.toNat 1 0 0 s.pb hgn hg.len (by rw [hgn]; exact hg.len1) hgc hg.size.1 hg.size.2.2 (by omega) (by omega) (by omega)
  rw [Int.toNat_of_nonneg (show 0 ≤ s.top by omega), Int.toNat_of_nonneg (show 0 ≤ s.bot by omega)] at cS
  dsimp only at cI
  rw [hm] at cI
  have hone : (X.map (rxV (α := Qd))).all (·.oneCell') = true := by simp [List.all_map, Function.comp_def, rxV, Value.oneCell']
  have hlx : (X.map (rxV (α := Qd))).length = pn * 1 := by rw [List.length_map, hpn, Nat.mul_one]
  have hw1 := hg.size
  have hup : (upR s).C = scrC s.C s.w s.h s.top.toNat s.bot.toNat 1 (32, 0, 0, s.pb) := rfl
  rw [hup]
  generalize scrC s.C s.w s.h s.top.toNat s.bot.toNat 1 (32, 0, 0, s.pb) = C' at *
  unfold trmC at *
  dsimp only at cI cC
  refine sc_enter1 Tryz.func163 rfl rfl rfl rfl rfl ?_
  repeat' ((first | (apply g_sl; (first | (apply ks_nil; refine sl_nil ?_) | (apply ks_move; refine s_move rfl rfl ?_) | (apply ks_bin; refine s_bin rfl rfl rfl ?_; (((refine bb_of rfl ?_)))) | (apply ks_load; ((refine s_load rfl rfl ?_; (refine ld_cell rfl ?_)))) | (apply ks_pick; refine s_pick rfl rfl ?_; ((apply kp_t; refine pk_t rfl ?_))) | (apply ks_field; (refine s_field (c_field0 rfl rfl) rfl ?_)) | (apply ks_un; refine s_un (y_un rfl rfl rfl) rfl ?_) | (apply ks_nilc; refine s_nilc (y_nilCheck rfl rfl) rfl ?_) | (apply ks_fn; (refine c_callv rfl rfl rfl (cI _ s _ _ _ inferInstance) rfl rfl ?_)) | (apply ks_store; ((refine c_store rfl rfl rfl rfl rfl rfl rfl ?_))) | (apply ks_guard; ((refine sl_gd rfl rfl rfl rfl ?_; (first | (apply gd_t) | (apply gd_dec_t <;> intro hq <;> (try (exfalso; omega))))))))) | (apply g_sq; (first | (apply kq_nil; refine sq_nil ?_) | (apply kq_move; refine q_move rfl rfl ?_) | (apply kq_bin; refine q_bin rfl rfl rfl ?_; (((first | (apply kb_sub; (refine bb_sub ⟨by omega, by omega⟩ ?_)) | refine bb_of rfl ?_)))) | (apply kq_load; ((refine q_load rfl rfl ?_; (refine ld_cell rfl ?_)))) | (apply kq_asgn; refine q_asgn rfl rfl ?_) | (apply kq_field; (refine q_field (c_field0 rfl rfl) rfl ?_)) | (apply kq_nilc; refine q_nilc (y_nilCheck rfl rfl) rfl ?_))) | (apply sw_seq) | (apply sw_block) | ((fail_if_success (refine g_reg (id := 3) ?_)); apply sw_region) | (refine sw_cd rfl ?_; (first | (apply gd_t) | (apply gd_dec_t <;> intro hq <;> (try (exfalso; omega))))) | (apply at_thn) | ((fail_if_success (refine g_reg (id := 3) ?_)); refine c_drawn (by kernel_rfl) ?_)))
  all_goals (skip)
  have hXl : ∀ r : Rx Qd, (X ++ [r]).map (rxV (α := Qd)) = X.map rxV ++ [rxV r] := fun r => by simp
  have hrl := rowQ_len (w := s.w) (h := s.h) (k := 0) (C := s.C) (by omega) hg.len
  generalize hRd : rowQ s.w s.C 0 = R at *
  refine sw_cut1 (α := (Option Addr × Nat) × Option Addr × Nat) (fun g => [(0, .pointer (some ⟨tb, 0, none⟩))])
    (fun g => .blk tb 172 (.int .i64 s.w :: .int .i64 s.h :: .slice (some ⟨gb, 0, none⟩) gn gc :: .int .i64 s.row :: .int .i64 s.col :: .bool false :: .int .i64 s.top :: .int .i64 s.bot :: .int .i64 s.pf :: .int .i64 s.pr :: .int .i64 s.pb :: .int .i64 s.modes ::
   .int .u64 (s.st 0) :: .int .u64 (s.st 1) :: .int .u64 (s.st 2) :: .int .u64 (s.st 3) :: .int .i64 s.p0 :: .int .i64 s.p1 :: .int .i64 s.sh :: .int .i64 s.sr :: .int .i64 s.sc :: .int .i64 s.spf :: .int .i64 s.spr :: .int .i64 s.spb :: .bool s.so :: .int .i64 s.sp0 :: .int .i64 s.sp1 :: .int .i64 s.ssh ::
   .int .i64 s.w :: .int .i64 s.h :: .slice oa on oc :: .string s.ti :: .slice g.2.1 (pn + 1) g.2.2 :: .string t :: []) :: .own 104 4 (some ⟨gb, 0, none⟩) gn gc (qds s.C) :: .own 126 1 g.2.1 (pn + 1) g.2.2 (X.map rxV ++ [.slice g.1.1 s.w g.1.2]) :: .own 104 4 g.1.1 s.w g.1.2 (qds R) :: K) (fun _ => True) ?_ ?_
  · repeat' ((first | (apply g_sl; (first | (apply ks_nil; refine sl_nil ?_) | (apply ks_load; ((refine s_load rfl rfl ?_; (first | refine ld_cell rfl ?_ | refine ld_part rfl rfl ?_)))) | (apply ks_fn; ((refine c_call rfl rfl rfl (cR _ rfl) rfl rfl ?_; rintro _ _ ⟨ra, rc, rfl, rfl⟩))) | (apply ks_bi; ((refine c_append rfl rfl rfl rfl (by (rfl)) (by (rfl)) (by omega) rfl rfl (fun _ _ => ?_)))) | (apply ks_store; ((refine c_store rfl rfl rfl rfl rfl rfl rfl ?_))) | (apply ks_bs; ((refine c_bsA rfl rfl rfl rfl rfl rfl rfl rfl rfl (fun _ => ?_)))))) | (apply g_atso; refine so_back (k := 0) (fun _ hw => hw.subs (by repeat ((first | refine Subs.cons (by repeat constructor) ?_ | exact Subs.sub (by repeat ((first | exact List.Sublist.refl _ | refine List.Sublist.cons _ ?_))))))) ?_) | (apply g_sot; (first | (refine sot_skip rfl ?_) | (refine sot_take rfl rfl rfl rfl (by kernel_rfl) (by decide +kernel) (by decide +kernel) ?_; ((first | (apply ky_move; refine sy_val (y_move rfl rfl) ?_) | (apply ky_field; (refine sy_val (c_field0 rfl rfl) ?_)) | (apply ky_build; (refine sy_val (c_build rfl rfl rfl) ?_)) | (apply ky_nilc; refine sy_val (y_nilCheck rfl rfl) ?_)))) | (refine sot_next rfl ?_) | (refine so_done (by decide +kernel) ?_) | (refine sot_all (by kernel_rfl) ?_))) | (apply g_soa; (first | (refine soa_end rfl) | (refine soa_no (by decide +kernel) ?_) | (refine soa_yes rfl ?_ ?_))) | ((refine g_reg (id := 3) ?_; refine c_drawno (.own 104 4 (some ⟨gb, 0, none⟩) gn gc (qds s.C) :: K) (fun _ hw => hw.subs (by repeat ((first | refine Subs.cons (by repeat constructor) ?_ | exact Subs.sub (by repeat ((first | exact List.Sublist.refl _ | refine List.Sublist.cons _ ?_))))))) ?_))))
    all_goals
      rename_i b2 a2 c2
      exact at_meet ((ra, rc), a2, c2) trivial (by repeat ((first | exact Le.nil _ | refine Le.cons (by (rfl)) ?_))) (fun _ hw => hw.subs (by repeat ((first | refine Subs.cons (by repeat constructor) ?_ | exact Subs.sub (by repeat ((first | exact List.Sublist.refl _ | refine List.Sublist.cons _ ?_)))))))
  rintro ⟨⟨ra, rc⟩, a2, c2⟩ -
  dsimp only
  have hl2 : (X.map (rxV (α := Qd)) ++ [Value.slice ra s.w rc]).length = (pn + 1) * 1 := by rw [List.length_append, hlx]; rfl
  have hRx : Value.slice ra s.w rc = rxV ((ra, rc, R) : Rx Qd) := by show _ = Value.slice ra R.length rc; rw [hrl]
  by_cases h40 : pn + 1 ≤ 40
  · repeat' ((first | (apply g_sl; (first | (apply ks_nil; refine sl_nil ?_) | (apply ks_move; refine s_move rfl rfl ?_) | (apply ks_bin; refine s_bin rfl rfl rfl ?_; (((refine bb_of rfl ?_)))) | (apply ks_load; ((refine s_load rfl rfl ?_; (refine ld_cell rfl ?_)))) | (apply ks_field; (refine s_field (c_field0 rfl rfl) rfl ?_)) | (apply ks_nilc; refine s_nilc (y_nilCheck rfl rfl) rfl ?_) | (apply ks_bi; (refine s_call (c_len rfl rfl) rfl ?_)))) | (apply sw_seq) | (apply sw_skip) | ((fail_if_success (refine g_reg (id := 6) ?_)); apply sw_region) | (refine sw_cd rfl ?_; ((apply gd_dec_t <;> intro hq <;> (try (exfalso; omega))))) | (apply at_thn)))
    all_goals (skip)
    repeat' ((first | (apply g_sl; (first | (apply ks_nil; refine sl_nil ?_) | (apply ks_fn; ((first | refine c_callv rfl rfl rfl (cC _ _ _ _ inferInstance) rfl rfl ?_ | (refine c_call rfl rfl rfl (sc_pick PickOwn.here (cS _)) rfl rfl ?_; rintro _ _ ⟨rfl, rfl⟩)))))) | (apply g_atso; refine so_back (k := 0) (fun _ hw => hw.subs (by repeat ((first | refine Subs.cons (by repeat constructor) ?_ | exact Subs.sub (by repeat ((first | exact List.Sublist.refl _ | refine List.Sublist.cons _ ?_))))))) ?_) | (apply g_sot; (first | (refine sot_skip rfl ?_) | (refine sot_take rfl rfl rfl rfl (by kernel_rfl) (by decide +kernel) (by decide +kernel) ?_; ((first | (apply ky_move; refine sy_val (y_move rfl rfl) ?_) | (apply ky_load; ((refine sy_load rfl ?_; (first | refine ld_cell rfl ?_ | refine ld_part rfl rfl ?_)))) | (apply ky_field; (refine sy_val (c_field0 rfl rfl) ?_)) | (apply ky_nilc; refine sy_val (y_nilCheck rfl rfl) ?_)))) | (refine sot_next rfl ?_) | (refine so_done (by decide +kernel) ?_) | (refine sot_all (by kernel_rfl) ?_))) | (apply g_soa; (first | (refine soa_end rfl) | (refine soa_no (by decide +kernel) ?_) | (refine soa_yes rfl ?_ ?_))) | (apply at_inb) | ((refine g_reg (id := 6) ?_; refine c_drawno (.blk tb 172 (.int .i64 s.w :: .int .i64 s.h :: .slice (some ⟨gb, 0, none⟩) gn gc :: .int .i64 s.row :: .int .i64 s.col :: .bool false :: .int .i64 s.top :: .int .i64 s.bot :: .int .i64 s.pf :: .int .i64 s.pr :: .int .i64 s.pb :: .int .i64 s.modes :: .int .u64 (s.st 0) :: .int .u64 (s.st 1) :: .int .u64 (s.st 2) :: .int .u64 (s.st 3) :: .int .i64 s.p0 :: .int .i64 s.p1 :: .int .i64 s.sh :: .int .i64 s.sr :: .int .i64 s.sc :: .int .i64 s.spf :: .int .i64 s.spr :: .int .i64 s.spb :: .bool s.so :: .int .i64 s.sp0 :: .int .i64 s.sp1 :: .int .i64 s.ssh :: .int .i64 s.w :: .int .i64 s.h :: .slice oa on oc :: .string s.ti :: .slice a2 (pn + 1) c2 :: .string t :: []) :: .own 126 1 a2 (pn + 1) c2 (X.map rxV ++ [Value.slice ra s.w rc]) :: .own 104 4 ra s.w rc (qds R) :: K) (fun _ hw => hw.subs (by repeat ((first | refine Subs.cons (by repeat constructor) ?_ | exact Subs.sub (by repeat ((first | exact List.Sublist.refl _ | refine List.Sublist.cons _ ?_))))))) ?_))))
    have hp3 : (upR s).past = s.past ++ [R] := by unfold upR pastPush; dsimp only; rw [hRd, if_neg (by rw [List.length_append, ← hX, List.length_map]; simp; omega)]
    have hl3 : (X ++ [((ra, rc, R) : Rx Qd)]).length = pn + 1 := by rw [List.length_append, hpn]; rfl
    refine e_scf (.blk tb 172 (trmC (upR s) (some ⟨gb, 0, none⟩) gn gc oa on oc a2 (pn + 1) c2 t) :: .own 104 4 (some ⟨gb, 0, none⟩) gn gc (qds C') :: .own 126 1 a2 (pn + 1) c2 (X.map rxV ++ [Value.slice ra s.w rc]) :: .own 104 4 ra s.w rc (qds R) :: K) (.inl rfl) rfl (fun _ hw => hw.subs (by repeat ((first | refine Subs.cons (by repeat constructor) ?_ | exact Subs.sub (by repeat ((exact List.Sublist.refl _))))))) ⟨[.own 126 1 a2 (pn + 1) c2 (X.map rxV ++ [Value.slice ra s.w rc]), .own 104 4 ra s.w rc (qds R)], a2, c2, X ++ [((ra, rc, R) : Rx Qd)], rfl, by rw [hl3]; rfl, ?_, ?_, by rw [List.map_append, hX, hp3]; rfl, ?_⟩
    · rw [hXl, ← hRx]; exact inferInstanceAs (RdC G (.own 126 1 a2 (pn + 1) c2 (X.map rxV ++ [Value.slice ra s.w rc]) :: .own 104 4 ra s.w rc (qds R) :: Kr) a2 _)
    · exact (hr.app (E := [_, _])).snoc (Sl.own (e := 104) (sz := 4) (n := s.w) (vs := qds R) (by simp) rfl hrl.symm)
    · rw [hl3]; exact inferInstanceAs (CapC G (.own 126 1 a2 (pn + 1) c2 (X.map rxV ++ [Value.slice ra s.w rc]) :: .own 104 4 ra s.w rc (qds R) :: Kr) a2 (pn + 1) c2)
  · refine sw_here fun w0 hw0 => ?_
    have hcap : pn + 1 ≤ c2 := CapC.here (a := a2) (m := pn + 1) (c := c2) w0 hw0
    clear hw0 w0
    repeat' ((first | (apply g_sl; (first | (apply ks_nil; refine sl_nil ?_) | (apply ks_move; refine s_move rfl rfl ?_) | (apply ks_bin; refine s_bin rfl rfl rfl ?_; (((refine bb_of rfl ?_)))) | (apply ks_load; ((refine s_load rfl rfl ?_; (refine ld_cell rfl ?_)))) | (apply ks_field; (refine s_field (c_field0 rfl rfl) rfl ?_)) | (apply ks_nilc; refine s_nilc (y_nilCheck rfl rfl) rfl ?_) | (apply ks_bi; (refine s_call (c_len rfl rfl) rfl ?_)) | (apply ks_store; ((refine c_store rfl rfl rfl rfl rfl rfl rfl ?_))) | (apply ks_slice; ((refine c_sliceSl (Hr := .own 126 1 a2 (pn + 1) c2 (X.map rxV ++ [Value.slice ra s.w rc]) :: .own 104 4 ra s.w rc (qds R) :: Kr) rfl rfl rfl rfl rfl (RdC.here (a := a2)) hl2 (by omega) (by omega) (by omega) (by omega) rfl rfl (fun a3 h3 => ?_)))))) | (apply sw_seq) | ((fail_if_success (refine g_reg (id := 6) ?_)); apply sw_region) | (refine sw_cd rfl ?_; ((apply gd_dec_t <;> intro hq <;> (try (exfalso; omega))))) | (apply at_thn)))
    all_goals (skip)
    have e5 : ((pn + 1 : Nat) : Int).toNat - (1 : Int).toNat = pn := by omega
    have e6 : c2 - (1 : Int).toNat = c2 - 1 := rfl
    rw [e5, e6]
    rw [e5] at h3
    repeat' ((first | (apply g_sl; (first | (apply ks_nil; refine sl_nil ?_) | (apply ks_fn; ((first | refine c_callv rfl rfl rfl (cC _ _ _ _ inferInstance) rfl rfl ?_ | (refine c_call rfl rfl rfl (sc_pick PickOwn.here (cS _)) rfl rfl ?_; rintro _ _ ⟨rfl, rfl⟩)))))) | (apply g_atso; refine so_back (k := 0) (fun _ hw => hw.subs (by repeat ((first | refine Subs.cons (by repeat constructor) ?_ | exact Subs.sub (by repeat ((first | exact List.Sublist.refl _ | refine List.Sublist.cons _ ?_))))))) ?_) | (apply g_sot; (first | (refine sot_skip rfl ?_) | (refine sot_take rfl rfl rfl rfl (by kernel_rfl) (by decide +kernel) (by decide +kernel) ?_; ((first | (apply ky_move; refine sy_val (y_move rfl rfl) ?_) | (apply ky_load; ((refine sy_load rfl ?_; (first | refine ld_cell rfl ?_ | refine ld_part rfl rfl ?_)))) | (apply ky_field; (refine sy_val (c_field0 rfl rfl) ?_)) | (apply ky_nilc; refine sy_val (y_nilCheck rfl rfl) ?_)))) | (refine sot_next rfl ?_) | (refine so_done (by decide +kernel) ?_) | (refine sot_all (by kernel_rfl) ?_))) | (apply g_soa; (first | (refine soa_end rfl) | (refine soa_no (by decide +kernel) ?_) | (refine soa_yes rfl ?_ ?_))) | (apply at_inb) | ((refine g_reg (id := 6) ?_; refine c_drawno (.blk tb 172 (.int .i64 s.w :: .int .i64 s.h :: .slice (some ⟨gb, 0, none⟩) gn gc :: .int .i64 s.row :: .int .i64 s.col :: .bool false :: .int .i64 s.top :: .int .i64 s.bot :: .int .i64 s.pf :: .int .i64 s.pr :: .int .i64 s.pb :: .int .i64 s.modes :: .int .u64 (s.st 0) :: .int .u64 (s.st 1) :: .int .u64 (s.st 2) :: .int .u64 (s.st 3) :: .int .i64 s.p0 :: .int .i64 s.p1 :: .int .i64 s.sh :: .int .i64 s.sr :: .int .i64 s.sc :: .int .i64 s.spf :: .int .i64 s.spr :: .int .i64 s.spb :: .bool s.so :: .int .i64 s.sp0 :: .int .i64 s.sp1 :: .int .i64 s.ssh :: .int .i64 s.w :: .int .i64 s.h :: .slice oa on oc :: .string s.ti :: .slice a3 pn (c2 - 1) :: .string t :: []) :: .own 126 1 a2 (pn + 1) c2 (X.map rxV ++ [Value.slice ra s.w rc]) :: .own 104 4 ra s.w rc (qds R) :: K) (fun _ hw => hw.subs (by repeat ((first | refine Subs.cons (by repeat constructor) ?_ | exact Subs.sub (by repeat ((first | exact List.Sublist.refl _ | refine List.Sublist.cons _ ?_))))))) ?_))))
    have hX3 : ((X.map (rxV (α := Qd)) ++ [Value.slice ra s.w rc]).drop ((1 : Int).toNat * 1)).take (pn * 1) = ((X ++ [((ra, rc, R) : Rx Qd)]).drop 1).map rxV := by
      rw [hRx, show [rxV ((ra, rc, R) : Rx Qd)] = [((ra, rc, R) : Rx Qd)].map rxV from rfl, ← List.map_append, show (1 : Int).toNat * 1 = 1 from rfl, ← List.map_drop, List.take_of_length_le (by rw [List.length_map, List.length_drop, List.length_append, ← hpn]; simp)]
    rw [hX3] at h3
    have hp3 : (upR s).past = (s.past ++ [R]).drop 1 := by unfold upR pastPush; dsimp only; rw [hRd, if_pos (by rw [List.length_append, ← hX, List.length_map]; simp; omega)]
    have hl3 : ((X ++ [((ra, rc, R) : Rx Qd)]).drop 1).length = pn := by rw [List.length_drop, List.length_append, ← hpn]; simp
    refine e_scf (.blk tb 172 (trmC (upR s) (some ⟨gb, 0, none⟩) gn gc oa on oc a3 pn (c2 - 1) t) :: .own 104 4 (some ⟨gb, 0, none⟩) gn gc (qds C') :: .own 126 1 a2 (pn + 1) c2 (X.map rxV ++ [Value.slice ra s.w rc]) :: .own 104 4 ra s.w rc (qds R) :: K) (.inl rfl) rfl (fun _ hw => hw.subs (by repeat ((first | refine Subs.cons (by repeat constructor) ?_ | exact Subs.sub (by repeat ((exact List.Sublist.refl _))))))) ⟨[.own 126 1 a2 (pn + 1) c2 (X.map rxV ++ [Value.slice ra s.w rc]), .own 104 4 ra s.w rc (qds R)], a3, c2 - 1, (X ++ [((ra, rc, R) : Rx Qd)]).drop 1, rfl, by rw [hl3]; rfl, h3, ?_, by rw [List.map_drop, List.map_append, hX, hp3]; rfl, ?_⟩
    · exact ((hr.app (E := [_, _])).snoc (Sl.own (e := 104) (sz := 4) (n := s.w) (vs := qds R) (by simp) rfl hrl.symm)).sub fun y hy => List.mem_of_mem_drop hy
    · rw [hl3]; exact ⟨fun w hw => by
        have := CapC.here (a := a2) (m := pn + 1) (c := c2) (H := .own 126 1 a2 (pn + 1) c2 (X.map rxV ++ [Value.slice ra s.w rc]) :: .own 104 4 ra s.w rc (qds R) :: Kr) w hw
        omega⟩
end Go.Proofs.YtmbfechiallppaaGreatDoor
end
section
namespace Go.Proofs.YtmbfechiallppaaGreatDoor
open Go.RowKit Go.Fw
def linesL : List Int := [160, 9670, 9618, 9225, 9228, 9229, 9226, 176, 177, 9252, 9227, 9496, 9488, 9484, 9492, 9532, 9146, 9147, 9472, 9148, 9149, 9500, 9508, 9524, 9516, 9474, 8804, 8805, 960, 8800, 163, 183]
def linesC : Array Value := (ints linesL).toArray
def linesP : List (Nat × Value) := (ints linesL).zipIdx.map fun (x, i) => (i, x)
def pageOf (p : Int) (b : Nat) : Int :=
  if p = 2 then b else if 127 < b then 65533 else if p = 4 ∧ b = 35 then 163 else if p = 3 ∧ 95 ≤ b ∧ b ≤ 126 then linesL.getD (b - 95) 0 else b
theorem built_lines : Tryz.prog.built 336 linesP = some linesC := by kernel_rfl
theorem size_lines : (Tryz.prog.info? 336).map (·.size) = some linesC.size := by kernel_rfl
theorem one_lines : linesC.all (·.oneCell') = true := by kernel_rfl
theorem len_lines : linesC.size = 32 := rfl
theorem linesC_get (k : Nat) (hk : k < 32) : linesC[k]? = some (.int .i64 (linesL.getD k 0)) := by
  have hl : k < linesL.length := hk
  unfold linesC ints
  simp [List.getD, List.getElem?_eq_getElem hl]
set_option maxRecDepth 100000 in
set_option maxHeartbeats 1000000 in
theorem pageOf_2 (b : Nat) (w : World) (_hb : b < 256) :
    Calls Tryz.prog 223 #[.int .i64 2, .int .u8 b] w fun e w' => e = .returned (.int .i64 (b)) ∧ Below w.heap.size w w' := by
  have B1 := Lib.hid built_lines
  have B2 := Lib.hid size_lines
  have B3 := Lib.hid one_lines
  have B4 := Lib.hid len_lines
  generalize linesC = C at *
  have hbl : Below w.heap.size w (w.alloc (.cells C 336)) := (Below.refl _ _).alloc (Nat.le_refl _) _
  go_enter Tryz.func223, Tryz.ntmps223
  go_wp2_with ((first | ((with_reducible refine fw_build rfl 336 _ rfl linesP C ?_ B1.out ?_); (focus rfl)) | ((with_reducible refine fw_store_new rfl 336 _ _ rfl _ w.heap.size _ C rfl ?_ ?_ ?_ B2.out ?_ B3.out ?_); (focus rfl); (focus rfl); (focus rfl); (focus (rw [B4.out]; rfl)))))
  go_ret
  exact ⟨rfl, hbl⟩
set_option maxRecDepth 100000 in
set_option maxHeartbeats 1000000 in
theorem pageOf_hi (p : Int) (b : Nat) (w : World) (_hb : b < 256) (h2 : ¬ p = 2) (h : 127 < b) :
    Calls Tryz.prog 223 #[.int .i64 p, .int .u8 b] w fun e w' => e = .returned (.int .i64 (65533)) ∧ Below w.heap.size w w' := by
  have B1 := Lib.hid built_lines
  have B2 := Lib.hid size_lines
  have B3 := Lib.hid one_lines
  have B4 := Lib.hid len_lines
  generalize linesC = C at *
  have hbl : Below w.heap.size w (w.alloc (.cells C 336)) := (Below.refl _ _).alloc (Nat.le_refl _) _
  go_enter Tryz.func223, Tryz.ntmps223
  go_wp2_with ((first | ((with_reducible refine fw_build rfl 336 _ rfl linesP C ?_ B1.out ?_); (focus rfl)) | ((with_reducible refine fw_store_new rfl 336 _ _ rfl _ w.heap.size _ C rfl ?_ ?_ ?_ B2.out ?_ B3.out ?_); (focus rfl); (focus rfl); (focus rfl); (focus (rw [B4.out]; rfl)))))
  go_ret
  exact ⟨rfl, hbl⟩
set_option maxRecDepth 100000 in
set_option maxHeartbeats 1000000 in
theorem pageOf_435 (w : World) :
    Calls Tryz.prog 223 #[.int .i64 4, .int .u8 35] w fun e w' => e = .returned (.int .i64 (163)) ∧ Below w.heap.size w w' := by
  have B1 := Lib.hid built_lines
  have B2 := Lib.hid size_lines
  have B3 := Lib.hid one_lines
  have B4 := Lib.hid len_lines
  generalize linesC = C at *
  have hbl : Below w.heap.size w (w.alloc (.cells C 336)) := (Below.refl _ _).alloc (Nat.le_refl _) _
  go_enter Tryz.func223, Tryz.ntmps223
  go_wp2_with ((first | ((with_reducible refine fw_build rfl 336 _ rfl linesP C ?_ B1.out ?_); (focus rfl)) | ((with_reducible refine fw_store_new rfl 336 _ _ rfl _ w.heap.size _ C rfl ?_ ?_ ?_ B2.out ?_ B3.out ?_); (focus rfl); (focus rfl); (focus rfl); (focus (rw [B4.out]; rfl)))))
  go_ret
  exact ⟨rfl, hbl⟩
set_option maxRecDepth 100000 in
set_option maxHeartbeats 1000000 in
theorem pageOf_4 (b : Nat) (w : World) (_hb : b < 256) (h : ¬ 127 < b) (h35 : ¬ b = 35) :
    Calls Tryz.prog 223 #[.int .i64 4, .int .u8 b] w fun e w' => e = .returned (.int .i64 (b)) ∧ Below w.heap.size w w' := by
  have B1 := Lib.hid built_lines
  have B2 := Lib.hid size_lines
  have B3 := Lib.hid one_lines
  have B4 := Lib.hid len_lines
  generalize linesC = C at *
  have hbl : Below w.heap.size w (w.alloc (.cells C 336)) := (Below.refl _ _).alloc (Nat.le_refl _) _
  go_enter Tryz.func223, Tryz.ntmps223
  go_wp2_with ((first | ((with_reducible refine fw_build rfl 336 _ rfl linesP C ?_ B1.out ?_); (focus rfl)) | ((with_reducible refine fw_store_new rfl 336 _ _ rfl _ w.heap.size _ C rfl ?_ ?_ ?_ B2.out ?_ B3.out ?_); (focus rfl); (focus rfl); (focus rfl); (focus (rw [B4.out]; rfl)))))
  go_ret
  exact ⟨rfl, hbl⟩
set_option maxRecDepth 100000 in
set_option maxHeartbeats 1000000 in
theorem pageOf_3 (b : Nat) (w : World) (h1 : 95 ≤ b) (h2 : b ≤ 126) :
    Calls Tryz.prog 223 #[.int .i64 3, .int .u8 b] w fun e w' => e = .returned (.int .i64 (linesL.getD (b - 95) 0)) ∧ Below w.heap.size w w' := by
  have B1 := Lib.hid built_lines
  have B2 := Lib.hid size_lines
  have B3 := Lib.hid one_lines
  have B4 := Lib.hid len_lines
  have hx := linesC_get (b - 95) (by omega)
  generalize linesC = C at *
  have hbl : Below w.heap.size w (w.alloc (.cells C 336)) := (Below.refl _ _).alloc (Nat.le_refl _) _
  obtain ⟨x, hX⟩ : ∃ x, x = linesL.getD (b - 95) 0 := ⟨_, rfl⟩
  rw [← hX] at hx ⊢
  clear hX
  go_enter Tryz.func223, Tryz.ntmps223
  go_wp2_with ((first | ((with_reducible refine fw_build rfl 336 _ rfl linesP C ?_ B1.out ?_); (focus rfl)) | ((with_reducible refine fw_store_new rfl 336 _ _ rfl _ w.heap.size _ C rfl ?_ ?_ ?_ B2.out ?_ B3.out ?_); (focus rfl); (focus rfl); (focus rfl); (focus (rw [B4.out]; rfl)))))
  go_ret
  exact ⟨rfl, hbl⟩
set_option maxRecDepth 100000 in
set_option maxHeartbeats 1000000 in
theorem pageOf_3lo (b : Nat) (w : World) (h : b < 95) :
    Calls Tryz.prog 223 #[.int .i64 3, .int .u8 b] w fun e w' => e = .returned (.int .i64 (b)) ∧ Below w.heap.size w w' := by
  have B1 := Lib.hid built_lines
  have B2 := Lib.hid size_lines
  have B3 := Lib.hid one_lines
  have B4 := Lib.hid len_lines
  generalize linesC = C at *
  have hbl : Below w.heap.size w (w.alloc (.cells C 336)) := (Below.refl _ _).alloc (Nat.le_refl _) _
  go_enter Tryz.func223, Tryz.ntmps223
  go_wp2_with ((first | ((with_reducible refine fw_build rfl 336 _ rfl linesP C ?_ B1.out ?_); (focus rfl)) | ((with_reducible refine fw_store_new rfl 336 _ _ rfl _ w.heap.size _ C rfl ?_ ?_ ?_ B2.out ?_ B3.out ?_); (focus rfl); (focus rfl); (focus rfl); (focus (rw [B4.out]; rfl)))))
  go_ret
  exact ⟨rfl, hbl⟩
set_option maxRecDepth 100000 in
set_option maxHeartbeats 1000000 in
theorem pageOf_3hi (b : Nat) (w : World) (h : b = 127) :
    Calls Tryz.prog 223 #[.int .i64 3, .int .u8 b] w fun e w' => e = .returned (.int .i64 (b)) ∧ Below w.heap.size w w' := by
  have B1 := Lib.hid built_lines
  have B2 := Lib.hid size_lines
  have B3 := Lib.hid one_lines
  have B4 := Lib.hid len_lines
  generalize linesC = C at *
  have hbl : Below w.heap.size w (w.alloc (.cells C 336)) := (Below.refl _ _).alloc (Nat.le_refl _) _
  subst h
  go_enter Tryz.func223, Tryz.ntmps223
  go_wp2_with ((first | ((with_reducible refine fw_build rfl 336 _ rfl linesP C ?_ B1.out ?_); (focus rfl)) | ((with_reducible refine fw_store_new rfl 336 _ _ rfl _ w.heap.size _ C rfl ?_ ?_ ?_ B2.out ?_ B3.out ?_); (focus rfl); (focus rfl); (focus rfl); (focus (rw [B4.out]; rfl)))))
  go_ret
  exact ⟨rfl, hbl⟩
set_option maxRecDepth 100000 in
set_option maxHeartbeats 1000000 in
theorem pageOf_else (p : Int) (b : Nat) (w : World) (_hb : b < 256) (h2 : ¬ p = 2) (h3 : ¬ p = 3) (h4 : ¬ p = 4) (h : ¬ 127 < b) :
    Calls Tryz.prog 223 #[.int .i64 p, .int .u8 b] w fun e w' => e = .returned (.int .i64 (b)) ∧ Below w.heap.size w w' := by
  have B1 := Lib.hid built_lines
  have B2 := Lib.hid size_lines
  have B3 := Lib.hid one_lines
  have B4 := Lib.hid len_lines
  generalize linesC = C at *
  have hbl : Below w.heap.size w (w.alloc (.cells C 336)) := (Below.refl _ _).alloc (Nat.le_refl _) _
  go_enter Tryz.func223, Tryz.ntmps223
  go_wp2_with ((first | ((with_reducible refine fw_build rfl 336 _ rfl linesP C ?_ B1.out ?_); (focus rfl)) | ((with_reducible refine fw_store_new rfl 336 _ _ rfl _ w.heap.size _ C rfl ?_ ?_ ?_ B2.out ?_ B3.out ?_); (focus rfl); (focus rfl); (focus rfl); (focus (rw [B4.out]; rfl)))))
  go_ret
  exact ⟨rfl, hbl⟩
theorem pageOf_any (p : Int) (b : Nat) (w : World) (hb : b < 256) :
    Calls Tryz.prog 223 #[.int .i64 p, .int .u8 b] w fun e w' => e = .returned (.int .i64 (pageOf p b)) ∧ Below w.heap.size w w' := by
  by_cases h2 : p = 2
  · rw [show pageOf p b = b from by unfold pageOf; rw [if_pos h2]]; subst h2; exact pageOf_2 b w hb
  · by_cases h127 : 127 < b
    · rw [show pageOf p b = 65533 from by unfold pageOf; rw [if_neg h2, if_pos h127]]; exact pageOf_hi p b w hb h2 h127
    · by_cases h4 : p = 4
      · by_cases h35 : b = 35
        · rw [show pageOf p b = 163 from by unfold pageOf; rw [if_neg h2, if_neg h127, if_pos ⟨h4, h35⟩]]; subst h4; subst h35; exact pageOf_435 w
        · rw [show pageOf p b = b from by unfold pageOf; rw [if_neg h2, if_neg h127, if_neg (fun h => h35 h.2), if_neg (by omega)]]; subst h4; exact pageOf_4 b w hb h127 h35
      · by_cases h3 : p = 3
        · by_cases h95 : 95 ≤ b ∧ b ≤ 126
          · rw [show pageOf p b = linesL.getD (b - 95) 0 from by unfold pageOf; rw [if_neg h2, if_neg h127, if_neg (fun h => h4 h.1), if_pos ⟨h3, h95⟩]]
            subst h3
            exact pageOf_3 b w h95.1 h95.2
          · rw [show pageOf p b = b from by unfold pageOf; rw [if_neg h2, if_neg h127, if_neg (fun h => h4 h.1), if_neg (fun h => h95 h.2)]]
            subst h3
            rcases (show b < 95 ∨ b = 127 by omega) with h | h
            · exact pageOf_3lo b w h
            · exact pageOf_3hi b w h
        · rw [show pageOf p b = b from by unfold pageOf; rw [if_neg h2, if_neg h127, if_neg (fun h => h4 h.1), if_neg (fun h => h3 h.1)]]; exact pageOf_else p b w hb h2 h3 h4 h127
set_option maxRecDepth 100000 in
theorem pageKnown_any (p : Int) (w : World) :
    Calls Tryz.prog 77 #[.int .i64 p] w fun e w' => e = .returned (.bool (decide (1 ≤ p ∧ p ≤ 4))) ∧ w = w' := by
  by_cases h1 : 1 ≤ p
  · by_cases h2 : p ≤ 4
    all_goals
      go_enter Tryz.func77, Tryz.ntmps77
      go_wp2
      go_ret
      exact ⟨ret_bool (by simp [h1, h2]), rfl⟩
  · go_enter Tryz.func77, Tryz.ntmps77
    go_wp2
    go_ret
    exact ⟨ret_bool (by simp; omega), rfl⟩
theorem pageKnown_t (p : Int) (w : World) (h : 1 ≤ p ∧ p ≤ 4) :
    Calls Tryz.prog 77 #[.int .i64 p] w fun e w' => e = .returned (.bool true) ∧ w = w' :=
  (pageKnown_any p w).mono fun e w' ⟨h1, h2⟩ => ⟨by rw [h1]; simp [h], h2⟩
end Go.Proofs.YtmbfechiallppaaGreatDoor
end
section
namespace Go.Proofs.YtmbfechiallppaaGreatDoor
open Go.RowKit Go.Fw
set_option maxRecDepth 100000 in
theorem pageRune_yes (p : Int) (b : Nat) (w : World) (hb : b < 256) (hp : 1 ≤ p ∧ p ≤ 4) :
    Calls Tryz.prog 161 #[.int .i64 p, .int .u8 b] w fun e w' => e = .returned (.tuple #[.int .i64 (pageOf p b), .int .i64 0]) ∧ Below w.heap.size w w' := by
  go_enter Tryz.func161, Tryz.ntmps161
  go_wp2_with (go_at_call 77; refine (pageKnown_t _ _ hp).mono ?_; rintro e w' ⟨rfl, rfl⟩)
  refine (pageOf_any p b _ hb).mono ?_
  rintro e w1 ⟨rfl, hb1⟩
  go_wp2_with fail
  go_ret2
  exact ⟨rfl, hb1⟩
end Go.Proofs.YtmbfechiallppaaGreatDoor
end
section
namespace Go.Fw
open Go Go.RowKit Go.Sx
/-- Level and key of a function, of 38 numbers. -/
def kLv (L : List Int) (f : Nat) : Int := L.getD f 0
def kCh (L : List Int) (f : Nat) : Int := L.getD (19 + f) 0
def kSet (L : List Int) (f : Nat) (x y : Int) : List Int := (L.set f x).set (19 + f) y
theorem kSet_len (L : List Int) (f : Nat) (x y : Int) : (kSet L f x y).length = L.length := by simp [kSet]
/-- Numbers of bytes. -/
def Oct (x : Int) : Prop := 0 ≤ x ∧ x ≤ 255
def keyOk (L : List Int) : Bool := (List.range 19).all fun j => decide (kLv L j ≤ 2)
def keysE (L : List Int) : Int := if keyOk L = true ∧ kLv L 0 = 0 ∧ kCh L 0 = 0 then 0 else 4
/-- A triple: the keys behind it, and what is said. -/
def tripS (L : List Int) (f g c : Int) : List Int × List Int :=
  if ¬ (1 ≤ f ∧ f ≤ 18) then (if 128 ≤ g then (L, []) else (L, [f, 0, 0]))
  else if g % 4 = kLv L f.toNat ∧ c = kCh L f.toNat then (L, [])
  else if 128 ≤ g then (if g % 4 = 3 then (L, []) else (kSet L f.toNat (g % 4) c, []))
  else if g % 4 = 0 then (kSet L f.toNat 0 c, [f, 128, c])
  else if g % 4 = 3 then (L, [f, kLv L f.toNat, kCh L f.toNat])
  else if kLv L f.toNat = 1 ∧ g % 4 = 1 then (kSet L f.toNat 0 0, [f, 0, 0])
  else if kLv L f.toNat = 1 then (L, [f, 1, kCh L f.toNat])
  else (kSet L f.toNat (g % 4) c, [f, 128 + g % 4, c])
theorem oct_getD {L : List Int} (h : ∀ x ∈ L, Oct x) (k : Nat) : Oct (L.getD k 0) := by
  rcases Nat.lt_or_ge k L.length with hk | hk
  · have e : L.getD k 0 = L[k] := by simp [List.getD, List.getElem?_eq_getElem hk]
    rw [e]; exact h _ (List.getElem_mem hk)
  · have e : L.getD k 0 = 0 := by simp [List.getD, List.getElem?_eq_none hk]
    rw [e]; exact ⟨by omega, by omega⟩
/-- The first i triples of a message. -/
def runS (L D : List Int) : Nat → List Int × List Int
  | 0 => (L, [])
  | i + 1 => ((tripS (runS L D i).1 (D.getD (3 * i) 0) (D.getD (3 * i + 1) 0) (D.getD (3 * i + 2) 0)).1, (runS L D i).2 ++ (tripS (runS L D i).1 (D.getD (3 * i) 0) (D.getD (3 * i + 1) 0) (D.getD (3 * i + 2) 0)).2)
theorem octs_set (L : List Int) (k : Nat) (v : Int) : (octs L).set k (.int .u8 v) = octs (L.set k v) := by simp [octs, List.map_set]
theorem octs_at (L : List Int) (k : Nat) (h : k < L.length) : (octs L)[k]? = some (.int .u8 (L.getD k 0)) := by
  simp [octs, List.getD, List.getElem?_eq_getElem h]
theorem octs_len (L : List Int) : (octs L).length = L.length := by simp [octs]
theorem keysE_bad {L : List Int} {j : Nat} (hj : j < 19) (h : ¬ kLv L j ≤ 2) : keysE L = 4 := by
  unfold keysE keyOk
  rw [if_neg]
  rintro ⟨h1, -⟩
  rw [List.all_eq_true] at h1
  exact h (by simpa using h1 j (List.mem_range.2 hj))
theorem keysE_end {L : List Int} (h : ∀ j, j < 19 → kLv L j ≤ 2) : keysE L = if kLv L 0 = 0 ∧ kCh L 0 = 0 then 0 else 4 := by
  unfold keysE keyOk
  have : ((List.range 19).all fun j => decide (kLv L j ≤ 2)) = true := by
    rw [List.all_eq_true]
    exact fun j hj => by simpa using h j (List.mem_range.1 hj)
  rw [this]
  simp
end Go.Fw
end
section
namespace Go.Proofs.YtmbfechiallppaaGreatDoor
open Go Go.RowKit Go.Fw Go.Sx
set_option maxRecDepth 100000
set_option maxHeartbeats 1000000
attribute [local irreducible] SW SL SQ AtQ SV SC BB LD PK Yields SO SOT SOA SY
abbrev keysV (L : List Int) : Value := .agg (octs L).toArray
theorem take?_take : ∀ (l : List Value) (k : Nat), k ≤ l.length → take? l k = some (l.take k)
  | l, 0, _ => by simp [take?]
  | [], k + 1, h => by simp at h
  | x :: l, k + 1, h => by
    unfold take?
    rw [take?_take l k (by simpa using h)]
    rfl
theorem keys_part0 (L : List Int) (h : L.length = 38) : take? ((octs L).drop 0) 19 = some (octs (L.take 19)) := by
  rw [List.drop_zero, take?_take _ _ (by rw [octs_len]; omega)]
  simp [octs, List.map_take]
theorem keys_b (L : List Int) (h : L.length = 38) : Nat.beq (octs L).length 38 = true := by rw [octs_len, h]; rfl
theorem keys_lv (L : List Int) (h : L.length = 38) (f : Int) (hf : 0 ≤ f ∧ f ≤ 18) : (octs L)[0 + f.toNat * 1]? = some (.int .u8 (kLv L f.toNat)) := by
  rw [show 0 + f.toNat * 1 = f.toNat from by omega]
  exact octs_at L _ (by omega)
theorem keys_ch (L : List Int) (h : L.length = 38) (f : Int) (hf : 0 ≤ f ∧ f ≤ 18) : (octs L)[19 + f.toNat * 1]? = some (.int .u8 (kCh L f.toNat)) := by
  rw [show 19 + f.toNat * 1 = 19 + f.toNat from by omega]
  exact octs_at L _ (by omega)
theorem slcCheck_sv (G : Ctx) (H : List Ent) (L : List Int) (hL : L.length = 38) : SV Tryz.prog G 54 [keysV L] H (.int .i64 (keysE L)) := by
  have hp := keys_part0 L hL
  have h0 := keys_lv L hL 0 ⟨by omega, by omega⟩
  have h1 := keys_ch L hL 0 ⟨by omega, by omega⟩
  have hj : ∀ j : Nat, j < 19 → (octs (L.take 19))[(j : Int).toNat]? = some (.int .u8 (kLv L j)) := fun j hj => by
    rw [Int.toNat_natCast, octs_at _ _ (by rw [List.length_take]; omega)]
    unfold kLv
    simp only [List.getD_eq_getElem?_getD, List.getElem?_take_of_lt hj]
  have Hj := Lib.hid hj
  clear hj
  refine sv_enter1 Tryz.func54 rfl rfl rfl rfl rfl ?_
  repeat' ((first | (apply g_sl; (first | (apply ks_nil; refine sl_nil ?_) | (apply ks_move; refine s_move rfl rfl ?_) | (apply ks_load; ((refine s_load rfl rfl ?_; refine ld_part hp rfl ?_))) | (apply ks_asgn; refine s_asgn rfl rfl ?_) | (apply ks_field; (refine s_field (c_field0 rfl rfl) rfl ?_)) | (apply ks_box; refine c_box rfl rfl rfl rfl rfl rfl (fun _ => ?_)))) | (apply sw_seq) | (apply sw_block) | (apply sw_region) | (apply at_thn)))
  rename_i b
  refine sw_loopg (α := Nat) (fun j => [(1, .pointer (some ⟨b, 0, none⟩)), (6, .agg (octs (L.take 19)).toArray), (7, .int .i64 j)]) (fun _ => .blk b 50 (octs L) :: H)
    (fun j => j ≤ 19 ∧ ∀ i, i < j → kLv L i ≤ 2) (fun j => 19 - j) 0 ⟨Nat.zero_le _, fun i hi => absurd hi (Nat.not_lt_zero _)⟩ (by repeat ((first | exact Le.nil _ | refine Le.cons (by (rfl)) ?_))) (fun _ hw => hw.subs (by repeat ((first | refine Subs.cons (by repeat constructor) ?_ | exact Subs.sub (by repeat ((exact List.Sublist.refl _))))))) ?_
  rintro j ⟨hj, hs⟩
  have Hs := Lib.hid hs
  clear hs
  by_cases hlt : (j : Int) < 19
  · have hv := Hj.out j (by omega)
    repeat' ((first | (apply g_sl; (first | (apply ks_nil; refine sl_nil ?_) | (apply ks_move; refine s_move rfl rfl ?_) | (apply ks_bin; refine s_bin rfl rfl rfl ?_; (((first | (apply kb_add; (refine bb_add ⟨by omega, by omega⟩ ?_)) | refine bb_of rfl ?_)))) | (apply ks_asgn; refine s_asgn rfl rfl ?_) | (apply ks_index; ((refine s_index (c_indexArr rfl rfl rfl (by omega) (by omega) hv) rfl ?_))))) | (apply sw_seq) | (apply sw_skip) | (apply sw_ret) | (apply sw_block) | (apply sw_region) | (refine sw_cd rfl ?_; ((apply gd_dec_t <;> intro hq <;> (try (exfalso; omega))))) | (apply at_thn) | (apply at_thn_ret) | (apply at_inb) | (apply at_inb_ret)))
    · refine e_sv (by (exact .inr rfl)) rfl (by repeat ((first | exact List.Sublist.refl _ | refine List.Sublist.cons _ ?_))) ?_
      rw [keysE_bad (j := j) (by omega) (by omega)]; rfl
    · refine at_meet (j + 1) ⟨⟨by omega, fun i hi => ?_⟩, by omega⟩ (by repeat ((first | exact Le.nil _ | refine Le.cons (by (rfl)) ?_))) (fun _ hw => hw.subs (by repeat ((first | refine Subs.cons (by repeat constructor) ?_ | exact Subs.sub (by repeat ((exact List.Sublist.refl _)))))))
      rcases Nat.lt_or_ge i j with h | h
      · exact Hs.out i h
      · obtain rfl : i = j := by omega
        omega
  · obtain rfl : j = 19 := by omega
    have he := keysE_end Hs.out
    repeat' ((first | (apply g_sl; (first | (apply ks_nil; refine sl_nil ?_) | (apply ks_move; refine s_move rfl rfl ?_) | (apply ks_bin; refine s_bin rfl rfl rfl ?_; ((((refine bb_of rfl ?_))))) | (apply ks_load; (((refine s_load rfl rfl ?_; (first | refine ld_cell h0 ?_ | refine ld_cell h1 ?_))))) | (apply ks_asgn; refine s_asgn rfl rfl ?_) | (apply ks_pick; refine s_pick rfl rfl ?_; (first | (apply kp_t; refine pk_t rfl ?_) | (apply kp_f; refine pk_f rfl ?_))) | (apply ks_field; (refine s_field (c_field0 rfl rfl) rfl ?_)) | (apply ks_indexA; (((refine s_indexA (c_indexP rfl rfl rfl (by omega) (by omega)) rfl ?_)))) | (apply ks_guard; ((refine sl_gd rfl rfl rfl rfl ?_; (first | (apply gd_t) | (apply gd_tf) | (apply gd_bne_f <;> intro hq <;> (try (exfalso; omega))))))))) | (apply sw_seq) | (apply sw_skip) | (apply sw_ret) | (apply sw_exit) | (apply sw_region) | (refine sw_cd rfl ?_; (first | (apply gd_t) | (apply gd_ft) | (apply gd_bne_t <;> intro hq <;> (try (exfalso; omega))))) | (apply at_thn) | (apply at_thn_ret) | (apply at_thn_exit) | (apply at_inb_exit)))
    all_goals rw [show Int.toNat 0 = 0 from rfl] at *
    · refine e_sv (by (exact .inr rfl)) rfl (by repeat ((first | exact List.Sublist.refl _ | refine List.Sublist.cons _ ?_))) ?_
      rw [he, if_neg (by omega)]; rfl
    · refine e_sv (by (exact .inr rfl)) rfl (by repeat ((first | exact List.Sublist.refl _ | refine List.Sublist.cons _ ?_))) ?_
      rw [he, if_pos (by omega)]; rfl
    · refine e_sv (by (exact .inr rfl)) rfl (by repeat ((first | exact List.Sublist.refl _ | refine List.Sublist.cons _ ?_))) ?_
      rw [he, if_neg (by omega)]; rfl
end Go.Proofs.YtmbfechiallppaaGreatDoor
end
section
namespace Go.Sx
open Go Go.RowKit Go.Fw
section
variable {P : Program} {G : Ctx} {n : Sz} {Q : Post} {s : Fm} {H : List Ent}
/-- A region that draws its order and changes one row that is held: all else stands. -/
theorem c_drawnoP {id : Nat} {l : List Oper} [h : Wide P] {a : Option Addr} {e : TypeId} {sz m c : Nat} {xs : List Value} {H' : List Ent} [hp : PickOwn H a e sz m c xs H'] (hk : SOT P G n l.toArray Q H' l.length [] s H 0) : SW P G n (.region id l.toArray true) Q s H := c_drawno H' (fun _ hw => (hw.pick hp.here).drop) hk
/-- The same, of a block. -/
theorem c_drawnoB {id : Nat} {l : List Oper} [h : Wide P] {b : Nat} {t : TypeId} {cs : List Value} {H' : List Ent} [hp : PickBlk H b t cs H'] (hk : SOT P G n l.toArray Q H' l.length [] s H 0) : SW P G n (.region id l.toArray true) Q s H := c_drawno H' (fun _ hw => (hw.pick hp.here).drop) hk
end
end Go.Sx
namespace Go.Proofs.YtmbfechiallppaaGreatDoor
open Go Go.RowKit Go.Fw Go.Sx
set_option maxRecDepth 100000
set_option maxHeartbeats 2000000
/-- A rune put where the cursor is. -/
def putS (s : Scr) (c : Int) : Scr := { s with C := rowC s.C s.w s.row.toNat (mendQ refWidth (putQ refWidth (rowQ s.w s.C s.row.toNat) s.col.toNat c s.pf s.pr s.pb)), col := (if s.col + 1 > (s.w : Int) - 1 then (s.w : Int) - 1 else s.col + 1), late := decide (s.col + 1 > (s.w : Int) - 1) }
/-- At the row's beginning. -/
def homeS (s : Scr) : Scr := { s with late := false, col := 0 }
/-- Down by a row, or all up. -/
def indexS (s : Scr) : Scr := if s.row = s.bot - 1 then upR s else downS s
/-- A rune printed. -/
def printS (s : Scr) (c : Int) : Scr := if s.late = true then putS (indexS (homeS s)) c else putS s c
/-- A terminal that holds a screen, whatever lies past. -/
def TmP (G : Ctx) (K Kr : List Ent) (tb gb gn gc : Nat) (oa : Option Addr) (on oc : Nat) (t : ByteArray) (s : Scr) (v : Value) (H' : List Ent) : Prop :=
  ∃ (E : List Ent) (pa' : Option Addr) (pc' : Nat) (X' : List (Rx Qd)), v = resV [] ∧ H' = .blk tb 172 (trmC s (some ⟨gb, 0, none⟩) gn gc oa on oc pa' X'.length pc' t) :: .own 104 4 (some ⟨gb, 0, none⟩) gn gc (qds s.C) :: (E ++ K) ∧ RdC G (E ++ Kr) pa' (X'.map rxV) ∧ RdX qds G (E ++ Kr) X' ∧ X'.map (·.2.2) = s.past ∧ CapC G (E ++ Kr) pa' X'.length pc'
attribute [local irreducible] SW SL SQ AtQ SV SC BB LD PK Yields SO SOT SOA SY
theorem pageRune_sv (G : Ctx) (H : List Ent) (p : Int) (b : Nat) (hb : b < 256) (hp : 1 ≤ p ∧ p ≤ 4) : SV Tryz.prog G 161 [.int .i64 p, .int .u8 b] H (.tuple #[.int .i64 (pageOf p b), .int .i64 0]) :=
  sv_of_calls (callee_of Tryz.func161 rfl rfl) fun w _ => pageRune_yes p b w hb hp
theorem pageAs (b : Nat) (hb : b < 128) : pageOf 1 b = b := by
  unfold pageOf
  rw [if_neg (by decide), if_neg (by omega), if_neg (fun h => absurd h.1 (by decide)), if_neg (fun h => absurd h.1 (by decide))]
theorem putInC_sc (G : Ctx) (H : List Ent) (C : List Qd) (b w h n c k col : Nat) (r x y z : Int) (hg : GrOk w h C) (hn : n = C.length) (hnc : n ≤ c) (hk : k < h) (hcol : col < w) (hcol2 : refWidth r = 2 → col + 1 < w) : SC Tryz.prog G 167 [gridV w h (some ⟨b, 0, none⟩) n c, .int .i64 k, .int .i64 col, .int .i64 r, penV x y z] (.own 104 4 (some ⟨b, 0, none⟩) n c (qds C) :: H) fun v H' => v = .tuple #[] ∧ H' = .own 104 4 (some ⟨b, 0, none⟩) n c (qds (rowC C w k (mendQ refWidth (putQ refWidth (rowQ w C k) col r x y z)))) :: H := by
  have hr := row_mul (w := w) (h := h) (k := k) (n := C.length) hk hg.len
  have hs := hg.size
  have e : C.take (k * w) ++ rowQ w C k ++ C.drop (k * w + w) = C := by
    unfold rowQ
    rw [List.append_assoc, ← List.drop_drop, List.take_append_drop, List.take_append_drop]
  have := putIn_sc G H (C.take (k * w)) (rowQ w C k) (C.drop (k * w + w)) b w h n c k col r x y z (by rw [List.length_take]; omega) (rowQ_len hk hg.len) (by rw [e, hn]) (by rw [hn]; exact hg.len1) hnc hs.1.1 (by omega) hcol hcol2
  rw [← qds_app, ← qds_app, e, ← qds_app, ← qds_app] at this
  exact this
theorem tIs_svL (G : Ctx) (H : List Ent) (tb : Nat) (cs : List Value) (m0 m : Int) (h1 : 0 ≤ m0 ∧ m0 ≤ 2047) (h2 : 0 ≤ m ∧ m ≤ 2047) [hb : HasBlk H tb 172 cs] (hc : cs[11]? = some (.int .i64 m0)) : SV Tryz.prog G 164 [.pointer (some ⟨tb, 0, none⟩), .int .i64 m] H (.bool (iand m0 m != 0)) := by
  refine sv_enter2 Tryz.func164 rfl rfl rfl rfl rfl ?_
  repeat' ((first | (apply g_sl; (first | (apply ks_nil; refine sl_nil ?_) | (apply ks_move; refine s_move rfl rfl ?_) | (apply ks_bin; refine s_bin rfl rfl rfl ?_; ((((first | (apply kb_and; (refine bb_and (by (omega)) (by (omega)) (by (omega)) (by (omega)) ?_)) | refine bb_of rfl ?_))))) | (apply ks_load; (((refine s_load rfl rfl ?_; refine ld_cell hc ?_)))) | (apply ks_asgn; refine s_asgn rfl rfl ?_) | (apply ks_field; (refine s_field (c_field0 rfl rfl) rfl ?_)) | (apply ks_nilc; refine s_nilc (y_nilCheck rfl rfl) rfl ?_))) | (apply sw_seq) | (apply sw_ret) | (apply sw_region) | (apply at_thn)))
  refine e_sv (by (exact .inr rfl)) rfl (by repeat ((exact List.Sublist.refl _))) ?_
  rfl
theorem print_1 (G : Ctx) (K Kr : List Ent) (s : Scr) (c : Int) (tb gb gn gc : Nat) (oa : Option Addr) (on oc : Nat) (pa : Option Addr) (pn pc : Nat) (t : ByteArray) (X : List (Rx Qd)) (hc : 0 ≤ c ∧ c ≤ 127) (hw : refWidth c = 1) (hl : s.late = false) (hg : GrOk s.w s.h s.C) (hgn : gn = s.C.length) (hgc : gn ≤ gc) (hrow : 0 ≤ s.row ∧ s.row < s.h) (hcol : 0 ≤ s.col ∧ s.col < s.w) (hm2 : 0 ≤ s.modes ∧ s.modes ≤ 2047) (hmi : iand s.modes 1 = 0) (hmw : iand s.modes 4 ≠ 0) (hsh : s.sh = 0) (hp0 : s.p0 = 1)
    (hX : X.map (·.2.2) = s.past) (hr : RdX qds G Kr X) (hpn : pn = X.length) :
    SC Tryz.prog G 119 [.pointer (some ⟨tb, 0, none⟩), .int .i64 c] (.blk tb 172 (trmC s (some ⟨gb, 0, none⟩) gn gc oa on oc pa pn pc t) :: .own 104 4 (some ⟨gb, 0, none⟩) gn gc (qds s.C) :: .own 126 1 pa pn pc (X.map rxV) :: K) (TmP G K Kr tb gb gn gc oa on oc t (putS s c)) := by
  have cP := fun H => pageRune_sv G H 1 c.toNat (by omega) (by omega)
  rw [pageAs _ (by omega), Int.toNat_of_nonneg hc.1] at cP
  have cW := fun H => widthOf_sv G H c
  rw [hw] at cW
  have hm1 : (iand s.modes 1 != 0) = false := by rw [hmi]; rfl
  have hm4 : (iand s.modes 4 != 0) = true := by simpa using hmw
  have cI1 := fun (H : List Ent) (cs : List Value) (_ : HasBlk H tb 172 cs) (hc : cs[11]? = some (.int .i64 s.modes)) => tIs_svL G H tb cs s.modes 1 hm2 (by omega) hc
  have cI4 := fun (H : List Ent) (cs : List Value) (_ : HasBlk H tb 172 cs) (hc : cs[11]? = some (.int .i64 s.modes)) => tIs_svL G H tb cs s.modes 4 hm2 (by omega) hc
  rw [hm1] at cI1
  rw [hm4] at cI4
  have cQ := fun (H : List Ent) => putInC_sc G H s.C gb s.w s.h gn gc s.row.toNat s.col.toNat c s.pf s.pr s.pb hg hgn hgc (by omega) (by omega) (by intro h2; rw [hw] at h2; cases h2)
  rw [Int.toNat_of_nonneg hrow.1, Int.toNat_of_nonneg hcol.1] at cQ
  have hpu : (putS s c).C = rowC s.C s.w s.row.toNat (mendQ refWidth (putQ refWidth (rowQ s.w s.C s.row.toNat) s.col.toNat c s.pf s.pr s.pb)) := rfl
  unfold TmP
  rw [hpu]
  generalize rowC s.C s.w s.row.toNat (mendQ refWidth (putQ refWidth (rowQ s.w s.C s.row.toNat) s.col.toNat c s.pf s.pr s.pb)) = C' at *
  have hs := hg.size
  have hlt : Value.bool s.late = .bool false := by rw [hl]
  have hshv : Value.int .i64 s.sh = .int .i64 0 := by rw [hsh]
  have hp0v : Value.int .i64 s.p0 = .int .i64 1 := by rw [hp0]
  unfold trmC
  rw [hlt, hshv, hp0v]
  refine sc_enter2 Tryz.func119 rfl rfl rfl rfl rfl ?_
  repeat' ((first | (apply g_sl; (first | (apply ks_nil; refine sl_nil ?_) | (apply ks_move; refine s_move rfl rfl ?_) | (apply ks_bin; refine s_bin rfl rfl rfl ?_; ((((first | (apply kb_add; (refine bb_add ⟨by omega, by omega⟩ ?_)) | refine bb_of rfl ?_))))) | (apply ks_load; ((refine s_load rfl rfl ?_; (refine ld_cell rfl ?_)))) | (apply ks_pick; refine s_pick rfl rfl ?_; (first | (apply kp_t; refine pk_t rfl ?_) | (apply kp_f; refine pk_f rfl ?_))) | (apply ks_field; (refine s_field (c_field0 rfl rfl) rfl ?_)) | (apply ks_nilc; refine s_nilc (y_nilCheck rfl rfl) rfl ?_) | (apply ks_fn; ((first | refine c_callv rfl rfl rfl (cI1 _ _ inferInstance rfl) rfl rfl ?_ | refine c_callv rfl rfl rfl (cI4 _ _ inferInstance rfl) rfl rfl ?_ | (refine c_call rfl rfl rfl (sc_pick PickOwn.here (cQ _)) rfl rfl ?_; rintro _ _ ⟨rfl, rfl⟩)))) | (apply ks_store; ((refine c_store rfl rfl rfl rfl rfl rfl rfl ?_))) | (apply ks_guard; ((refine sl_gd rfl rfl rfl rfl ?_; (first | (apply gd_t) | (apply gd_ft) | (apply gd_dec_t <;> intro hq <;> (try (exfalso; omega))))))))) | (apply g_sq; (first | (apply kq_nil; refine sq_nil ?_) | (apply kq_move; refine q_move rfl rfl ?_) | (apply kq_bin; refine q_bin rfl rfl rfl ?_; (((((apply kb_sub; (refine bb_sub ⟨by omega, by omega⟩ ?_))))))) | (apply kq_load; ((refine q_load rfl rfl ?_; (refine ld_cell rfl ?_)))) | (apply kq_asgn; refine q_asgn rfl rfl ?_) | (apply kq_field; (refine q_field (c_field0 rfl rfl) rfl ?_)) | (apply kq_extr; refine q_extr (y_extract rfl rfl rfl) rfl ?_) | (apply kq_conv; ((refine q_conv (c_conv (k := .u8) rfl rfl ⟨by omega, by omega⟩) rfl ?_))) | (apply kq_indexA; (((refine q_indexA (c_indexP rfl rfl rfl (by omega) (by omega)) rfl ?_)))) | (apply kq_nilc; refine q_nilc (y_nilCheck rfl rfl) rfl ?_) | (apply kq_fn; ((first | refine c_callq rfl rfl rfl (cP _) rfl rfl ?_ | refine c_callq rfl rfl rfl (cW _) rfl rfl ?_))))) | (apply g_atso; refine so_back (k := 0) (fun _ hw => hw.subs (by repeat ((first | refine Subs.cons (by repeat constructor) ?_ | exact Subs.sub (by repeat ((first | exact List.Sublist.refl _ | refine List.Sublist.cons _ ?_))))))) ?_) | (apply g_sot; (first | (refine sot_skip rfl ?_) | (refine sot_take rfl rfl rfl rfl (by kernel_rfl) (by decide +kernel) (by decide +kernel) ?_; ((first | (apply ky_move; refine sy_val (y_move rfl rfl) ?_) | (apply ky_load; ((refine sy_load rfl ?_; (first | refine ld_cell rfl ?_ | refine ld_part rfl rfl ?_)))) | (apply ky_field; (refine sy_val (c_field0 rfl rfl) ?_)) | (apply ky_nilc; refine sy_val (y_nilCheck rfl rfl) ?_)))) | (refine sot_next rfl ?_) | (refine so_done (by decide +kernel) ?_) | (refine sot_all (by kernel_rfl) ?_))) | (apply g_soa; (first | (refine soa_end rfl) | (refine soa_no (by decide +kernel) ?_) | (refine soa_yes rfl ?_ ?_))) | (apply sw_seq) | (apply sw_skip) | ((fail_if_success (refine g_reg (id := 12) ?_)); apply sw_region) | (refine sw_cd rfl ?_; (first | (apply gd_ft) | (apply gd_dec_t <;> intro hq <;> (try (exfalso; omega))))) | (apply at_thn) | ((refine g_reg (id := 13) ?_; refine c_drawnoP (a := some ⟨gb, 0, none⟩) ?_)) | ((fail_if_success (refine g_reg (id := 12) ?_)); refine c_drawn (by kernel_rfl) ?_)))
  all_goals (skip)
  all_goals
    rename_i hq
    refine e_scf _ (.inl rfl) rfl (fun _ hw => hw) ⟨[.own 126 1 pa pn pc (X.map rxV)], pa, pc, X, rfl, ?_, inferInstanceAs (RdC G (.own 126 1 pa pn pc (X.map rxV) :: Kr) pa _), hr.cons, by rw [hX]; rfl, by rw [← hpn]; exact inferInstanceAs (CapC G (.own 126 1 pa pn pc (X.map rxV) :: Kr) pa pn pc)⟩
    have e3 : (putS s c).p0 = 1 := hp0
    have e4 : (putS s c).sh = 0 := hsh
    first
      | (have e1 : (putS s c).col = (s.w : Int) - 1 := if_pos hq
         have e2 : (putS s c).late = true := decide_eq_true hq
         rw [e1, e2, e3, e4, ← hpn]; rfl)
      | (have e1 : (putS s c).col = s.col + 1 := if_neg hq
         have e2 : (putS s c).late = false := decide_eq_false hq
         rw [e1, e2, e3, e4, ← hpn]; rfl)
theorem print_2 (G : Ctx) (K Kr : List Ent) (s : Scr) (c : Int) (tb gb gn gc : Nat) (oa : Option Addr) (on oc : Nat) (pa : Option Addr) (pn pc : Nat) (t : ByteArray) (X : List (Rx Qd)) (hc : 0 ≤ c ∧ c ≤ 127) (hw : refWidth c = 1) (hl : s.late = true) (hg : GrOk s.w s.h s.C) (hgn : gn = s.C.length) (hgc : gn ≤ gc) (hrow : 0 ≤ s.row ∧ s.row < s.h) (hm2 : 0 ≤ s.modes ∧ s.modes ≤ 2047) (hmi : iand s.modes 1 = 0) (hmw : iand s.modes 4 ≠ 0) (hmo : iand s.modes 256 = 0) (hsh : s.sh = 0) (hp0 : s.p0 = 1)
    (hpen : penB 0 0 s.pb = true) (ht : s.top = 0) (hb : s.bot = s.h) (hX : X.map (·.2.2) = s.past) (hr : RdX qds G Kr X) (hpn : pn = X.length) (hpl : pn ≤ 40) :
    SC Tryz.prog G 119 [.pointer (some ⟨tb, 0, none⟩), .int .i64 c] (.blk tb 172 (trmC s (some ⟨gb, 0, none⟩) gn gc oa on oc pa pn pc t) :: .own 104 4 (some ⟨gb, 0, none⟩) gn gc (qds s.C) :: .own 126 1 pa pn pc (X.map rxV) :: K) (TmP G K Kr tb gb gn gc oa on oc t (putS (indexS (homeS s)) c)) := by
  have hs := hg.size
  have cP := fun H => pageRune_sv G H 1 c.toNat (by omega) (by omega)
  rw [pageAs _ (by omega), Int.toNat_of_nonneg hc.1] at cP
  have cW := fun H => widthOf_sv G H c
  rw [hw] at cW
  have hpg : ∀ cs : List Value, cs[16]? = some (.int .i64 s.p0) → cs[16 + s.sh.toNat * 1]? = some (.int .i64 1) := fun cs h => by rw [hsh]; rw [hp0] at h; exact h
  have hcl : clampI 0 0 ((s.w : Int) - 1) = 0 := by unfold clampI; omega
  have cC := fun H => tColumn_sc G H s 0 tb (some ⟨gb, 0, none⟩) gn gc oa on oc pa pn pc t (by omega)
  rw [hcl, show ({ s with late := false, col := 0 } : Scr) = homeS s from rfl] at cC
  -- down by a row, or all up
  have cX : SC Tryz.prog G 163 [.pointer (some ⟨tb, 0, none⟩)] (.blk tb 172 (trmC (homeS s) (some ⟨gb, 0, none⟩) gn gc oa on oc pa pn pc t) :: .own 104 4 (some ⟨gb, 0, none⟩) gn gc (qds s.C) :: .own 126 1 pa pn pc (X.map rxV) :: K) (TmP G K Kr tb gb gn gc oa on oc t (indexS (homeS s))) := by
    by_cases h1 : s.row = s.bot - 1
    · have e : indexS (homeS s) = upR (homeS s) := if_pos h1
      rw [e]
      exact index_a G K Kr (homeS s) tb gb gc oa on oc pa pn pc t X hg gn hgn hgc h1 ht (by show 1 ≤ s.bot ∧ s.bot ≤ (s.h : Int); omega) hmo hm2 hX hr hpn hpl
    · have e : indexS (homeS s) = downS (homeS s) := if_neg h1
      rw [e]
      refine (index_c G (.own 104 4 (some ⟨gb, 0, none⟩) gn gc (qds s.C) :: .own 126 1 pa pn pc (X.map rxV) :: K) (homeS s) tb (some ⟨gb, 0, none⟩) gn gc oa on oc pa pn pc t h1 (by show 0 ≤ s.row ∧ s.row < (s.h : Int) - 1; omega) hs.2.2 (by show 0 ≤ s.bot ∧ s.bot ≤ 1000; omega)).mono ?_
      rintro v H' ⟨rfl, rfl⟩
      exact ⟨[.own 126 1 pa pn pc (X.map rxV)], pa, pc, X, rfl, by rw [← hpn]; rfl, inferInstanceAs (RdC G (.own 126 1 pa pn pc (X.map rxV) :: Kr) pa _), hr.cons, by rw [hX]; rfl, by rw [← hpn]; exact inferInstanceAs (CapC G (.own 126 1 pa pn pc (X.map rxV) :: Kr) pa pn pc)⟩
  -- what it is then
  have f1 : (indexS (homeS s)).late = false := by unfold indexS; split <;> rfl
  have f2 : (indexS (homeS s)).col = 0 := by unfold indexS; split <;> rfl
  have f3 : (indexS (homeS s)).modes = s.modes := by unfold indexS; split <;> rfl
  have f4 : (indexS (homeS s)).sh = 0 := by rw [← hsh]; unfold indexS; split <;> rfl
  have f5 : (indexS (homeS s)).p0 = 1 := by rw [← hp0]; unfold indexS; split <;> rfl
  have f6 : (indexS (homeS s)).w = s.w ∧ (indexS (homeS s)).h = s.h := by unfold indexS; split <;> exact ⟨rfl, rfl⟩
  have f7 : GrOk s.w s.h (indexS (homeS s)).C := by
    unfold indexS
    split
    · exact hg.scroll 1 0 0 s.pb (by show s.bot.toNat ≤ s.h; omega) hpen
    · exact hg
  have f8 : 0 ≤ (indexS (homeS s)).row ∧ (indexS (homeS s)).row < s.h := by
    unfold indexS
    split
    · exact hrow
    · rename_i h1
      show 0 ≤ s.row + 1 ∧ s.row + 1 < (s.h : Int)
      have h1 : ¬ s.row = s.bot - 1 := h1
      omega
  generalize indexS (homeS s) = s2 at *
  obtain ⟨f6a, f6b⟩ := f6
  rw [← f6a, ← f6b] at f7
  rw [← f6b] at f8
  have hgn2 : gn = s2.C.length := by rw [hgn, hg.len, f7.len, f6a, f6b]
  have hm1 : (iand s2.modes 1 != 0) = false := by rw [f3, hmi]; rfl
  have hm4 : (iand s2.modes 4 != 0) = true := by rw [f3]; simpa using hmw
  have hm22 : 0 ≤ s2.modes ∧ s2.modes ≤ 2047 := by rw [f3]; exact hm2
  have cI1 := fun (H : List Ent) (cs : List Value) (_ : HasBlk H tb 172 cs) (hc : cs[11]? = some (.int .i64 s2.modes)) => tIs_svL G H tb cs s2.modes 1 hm22 (by omega) hc
  have cI4 := fun (H : List Ent) (cs : List Value) (_ : HasBlk H tb 172 cs) (hc : cs[11]? = some (.int .i64 s2.modes)) => tIs_svL G H tb cs s2.modes 4 hm22 (by omega) hc
  rw [hm1] at cI1
  rw [hm4] at cI4
  have cQ := fun (H : List Ent) => putInC_sc G H s2.C gb s2.w s2.h gn gc s2.row.toNat s2.col.toNat c s2.pf s2.pr s2.pb f7 hgn2 hgc (by omega) (by omega) (by intro h2; rw [hw] at h2; cases h2)
  rw [Int.toNat_of_nonneg f8.1, f2] at cQ
  have hpu : (putS s2 c).C = rowC s2.C s2.w s2.row.toNat (mendQ refWidth (putQ refWidth (rowQ s2.w s2.C s2.row.toNat) s2.col.toNat c s2.pf s2.pr s2.pb)) := rfl
  rw [f2] at hpu
  refine sc_enter2 Tryz.func119 rfl rfl rfl rfl rfl ?_
  repeat' ((first | (apply g_sl; (first | (apply ks_nil; refine sl_nil ?_) | (apply ks_move; refine s_move rfl rfl ?_) | (apply ks_bin; refine s_bin rfl rfl rfl ?_; ((((refine bb_of rfl ?_))))) | (apply ks_load; ((refine s_load rfl rfl ?_; (refine ld_cell rfl ?_)))) | (apply ks_pick; refine s_pick rfl rfl ?_; (first | (apply kp_t; refine pk_t rfl ?_) | (apply kp_f; refine pk_f rfl ?_))) | (apply ks_field; (refine s_field (c_field0 rfl rfl) rfl ?_)) | (apply ks_nilc; refine s_nilc (y_nilCheck rfl rfl) rfl ?_) | (apply ks_fn; ((first | (refine c_call rfl rfl rfl (cC _) rfl rfl ?_; rintro _ _ ⟨rfl, rfl⟩) | (refine c_call rfl rfl rfl cX rfl rfl ?_; rintro _ _ ⟨E, pa2, pc2, X2, rfl, rfl, r1, r2, r3, r4⟩)))) | (apply ks_guard; ((refine sl_gd rfl rfl rfl rfl ?_; (first | (apply gd_t) | (apply gd_dec_t <;> intro hq <;> (try (exfalso; omega))))))))) | (apply g_sq; (first | (apply kq_nil; refine sq_nil ?_) | (apply kq_move; refine q_move rfl rfl ?_) | (apply kq_bin; refine q_bin rfl rfl rfl ?_; (((((apply kb_sub; (refine bb_sub ⟨by omega, by omega⟩ ?_))))))) | (apply kq_load; (first | (refine q_load rfl rfl ?_; (refine ld_cell rfl ?_)) | ((refine q_load rfl rfl ?_; refine ld_cell (hpg _ rfl) ?_)))) | (apply kq_asgn; refine q_asgn rfl rfl ?_) | (apply kq_field; (refine q_field (c_field0 rfl rfl) rfl ?_)) | (apply kq_extr; refine q_extr (y_extract rfl rfl rfl) rfl ?_) | (apply kq_conv; ((refine q_conv (c_conv (k := .u8) rfl rfl ⟨by omega, by omega⟩) rfl ?_))) | (apply kq_indexA; (((refine q_indexA (c_indexP rfl rfl rfl (by omega) (by omega)) rfl ?_)))) | (apply kq_nilc; refine q_nilc (y_nilCheck rfl rfl) rfl ?_) | (apply kq_fn; ((first | refine c_callq rfl rfl rfl (cP _) rfl rfl ?_ | refine c_callq rfl rfl rfl (cW _) rfl rfl ?_))))) | (apply sw_seq) | (apply sw_skip) | ((fail_if_success (refine g_reg (id := 7) ?_)); apply sw_region) | (refine sw_cd rfl ?_; (first | (apply gd_dec_t <;> intro hq <;> (try (exfalso; omega))) | (apply gd_raw_t <;> intro hq))) | (apply at_thn) | ((fail_if_success (refine g_reg (id := 7) ?_)); refine c_drawn (by kernel_rfl) ?_)))
  · clear cC cX cP cW hpg hcl
    have hlt : Value.bool s2.late = .bool false := by rw [f1]
    have hshv : Value.int .i64 s2.sh = .int .i64 0 := by rw [f4]
    have hp0v : Value.int .i64 s2.p0 = .int .i64 1 := by rw [f5]
    have hcv : Value.int .i64 s2.col = .int .i64 0 := by rw [f2]
    have hcolu : (putS s2 c).col = if (0 : Int) + 1 > (s2.w : Int) - 1 then (s2.w : Int) - 1 else 0 + 1 := by unfold putS; dsimp only; rw [f2]
    have hlatu : (putS s2 c).late = decide ((0 : Int) + 1 > (s2.w : Int) - 1) := by unfold putS; dsimp only; rw [f2]
    have e3 : (putS s2 c).p0 = 1 := f5
    have e4 : (putS s2 c).sh = 0 := f4
    have hpast : (putS s2 c).past = s2.past := rfl
    unfold TmP
    rw [hpu]
    generalize rowC s2.C s2.w s2.row.toNat (mendQ refWidth (putQ refWidth (rowQ s2.w s2.C s2.row.toNat) (0 : Int).toNat c s2.pf s2.pr s2.pb)) = C' at *
    have hsv : (s.w : Int) = s2.w := by rw [f6a]
    rw [hsv]
    unfold trmC
    rw [hlt, hshv, hp0v, hcv]
    repeat' ((first | (apply g_sl; (first | (apply ks_nil; refine sl_nil ?_) | (apply ks_move; refine s_move rfl rfl ?_) | (apply ks_bin; refine s_bin rfl rfl rfl ?_; (((first | (apply kb_add; (refine bb_add ⟨by omega, by omega⟩ ?_)) | refine bb_of rfl ?_)))) | (apply ks_load; ((refine s_load rfl rfl ?_; (refine ld_cell rfl ?_)))) | (apply ks_pick; refine s_pick rfl rfl ?_; ((apply kp_f; refine pk_f rfl ?_))) | (apply ks_field; (refine s_field (c_field0 rfl rfl) rfl ?_)) | (apply ks_nilc; refine s_nilc (y_nilCheck rfl rfl) rfl ?_) | (apply ks_fn; ((first | refine c_callv rfl rfl rfl (cI1 _ _ inferInstance rfl) rfl rfl ?_ | refine c_callv rfl rfl rfl (cI4 _ _ inferInstance rfl) rfl rfl ?_ | (refine c_call rfl rfl rfl (sc_pick PickOwn.here (cQ _)) rfl rfl ?_; rintro _ _ ⟨rfl, rfl⟩)))) | (apply ks_store; ((refine c_store rfl rfl rfl rfl rfl rfl rfl ?_))) | (apply ks_guard; ((refine sl_gd rfl rfl rfl rfl ?_; ((apply gd_ft))))))) | (apply g_atso; refine so_back (k := 0) (fun _ hw => hw.subs (by repeat ((first | refine Subs.cons (by repeat constructor) ?_ | exact Subs.sub (by repeat ((first | exact List.Sublist.refl _ | refine List.Sublist.cons _ ?_))))))) ?_) | (apply g_sot; (first | (refine sot_skip rfl ?_) | (refine sot_take rfl rfl rfl rfl (by kernel_rfl) (by decide +kernel) (by decide +kernel) ?_; ((first | (apply ky_move; refine sy_val (y_move rfl rfl) ?_) | (apply ky_load; ((refine sy_load rfl ?_; (first | refine ld_cell rfl ?_ | refine ld_part rfl rfl ?_)))) | (apply ky_field; (refine sy_val (c_field0 rfl rfl) ?_)) | (apply ky_nilc; refine sy_val (y_nilCheck rfl rfl) ?_)))) | (refine sot_next rfl ?_) | (refine so_done (by decide +kernel) ?_) | (refine sot_all (by kernel_rfl) ?_))) | (apply g_soa; (first | (refine soa_end rfl) | (refine soa_no (by decide +kernel) ?_) | (refine soa_yes rfl ?_ ?_))) | (apply sw_seq) | (apply sw_skip) | (apply sw_region) | (refine sw_cd rfl ?_; (first | (apply gd_ft) | (apply gd_dec_t <;> intro hq <;> (try (exfalso; omega))))) | (apply at_thn) | ((refine g_reg (id := 13) ?_; refine c_drawnoP (a := some ⟨gb, 0, none⟩) ?_))))
    all_goals (skip)
    all_goals
      rename_i hq
      refine e_scf _ (.inl rfl) rfl (fun _ hw => hw) ⟨E, pa2, pc2, X2, rfl, ?_, r1, r2, r3, r4⟩
      rw [hcolu, hlatu]
      first
        | (have h0 : (0 : Int) + 1 > (s2.w : Int) - 1 := hq
           rw [if_pos h0, decide_eq_true h0, e3, e4]; rfl)
        | (have h0 : ¬ (0 : Int) + 1 > (s2.w : Int) - 1 := hq
           rw [if_neg h0, decide_eq_false h0, e3, e4]; rfl)
  · exact absurd (hl.symm.trans hq) (by decide)
end Go.Proofs.YtmbfechiallppaaGreatDoor
end
section
namespace Go.Proofs.YtmbfechiallppaaGreatDoor
open Go Go.RowKit Go.Fw Go.Sx
set_option maxRecDepth 100000
set_option maxHeartbeats 1000000
/-- An act: kind, code, mark, inter, args, text. -/
abbrev Ac := Int × Int × Int × ByteArray × Rx Int × ByteArray
def acC (x : Ac) : List Value := [.int .i64 x.1, .int .i64 x.2.1, .int .i64 x.2.2.1, .string x.2.2.2.1, .slice x.2.2.2.2.1.1 x.2.2.2.2.1.2.2.length x.2.2.2.2.1.2.1, .string x.2.2.2.2.2]
abbrev acV (k c m : Int) (i : ByteArray) (a : Option Addr) (n cp : Nat) (t : ByteArray) : Value := .agg #[.int .i64 k, .int .i64 c, .int .i64 m, .string i, .slice a n cp, .string t]
instance : En acC 6 := ⟨fun _ => rfl⟩
def acs (X : List Ac) : List Value := X.flatMap acC
theorem acs_len (L : List Ac) : (acs L).length = L.length * 6 := fm_len L
theorem acs_snoc (L : List Ac) (x : Ac) : acs (L ++ [x]) = acs L ++ acC x := fm_snoc L x
theorem acs_one (L : List Ac) : (acs L).all (·.oneCell') = true := fm_one L fun _ => rfl
abbrev nA : Rx Int := (none, 0, [])
abbrev e0 : ByteArray := ⟨#[]⟩
abbrev dA : Ac := (6, 0, 0, e0, nA, e0)
/-- The act that final emits. -/
def finA (i : ByteArray) (y : Ac) : Ac := if i.size = 3 then dA else y
def moreU (i : ByteArray) (x : Int) : ByteArray := if i.size < 3 then i ++ strOfNums [x] else i
def argU (g : ByteArray) (x : Int) : ByteArray := if g.size < 100 then g ++ strOfNums [x] else g
/-- A parser: state, mark, inter, args, text. -/
abbrev Ps := Int × Int × ByteArray × ByteArray × ByteArray
/-- What a machine holds. -/
def mcH (b : Nat) (p : Ps) (X : List Ac) (a : Option Addr) (c : Nat) (K : List Ent) : List Ent :=
  .blk b 167 [.int .i64 p.1, .int .i64 p.2.1, .string p.2.2.1, .string p.2.2.2.1, .string p.2.2.2.2, .slice a X.length c] :: .own 174 6 a X.length c (acs X) :: K
attribute [local irreducible] SW SL SQ AtQ SV SC BB LD PK Yields SO SOT SOA SY SP SPT SPA
theorem mEmit_sc (G : Ctx) (K : List Ent) (b : Nat) (s m : Int) (i g t : ByteArray) (X : List Ac) (a : Option Addr) (c : Nat) (k cd mk : Int) (it : ByteArray) (r : Rx Int) (tx : ByteArray) (hX : X.length ≤ 10000000) : SC Tryz.prog G 111 [.pointer (some ⟨b, 0, none⟩), acV k cd mk it r.1 r.2.2.length r.2.1 tx] (mcH b (s, m, i, g, t) X a c K) (fun v H' => ∃ a' c', v = resV [] ∧ H' = mcH b (s, m, i, g, t) (X ++ [(k, cd, mk, it, r, tx)]) a' c' K) := by
  have hlx := acs_len X
  have hone := acs_one X
  unfold mcH
  dsimp only
  rw [acs_snoc, List.length_append, show [(k, cd, mk, it, r, tx)].length = 1 from rfl]
  generalize acs X = vs at *
  generalize X.length = n at *
  refine sc_enter2 Tryz.func111 rfl rfl rfl rfl rfl ?_
  repeat' ((first | (apply g_sl; (first | (apply ks_nil; refine sl_nil ?_) | (apply ks_box; refine c_box rfl rfl rfl rfl rfl rfl (fun _ => ?_)))) | (apply sw_seq) | ((fail_if_success (refine g_reg (id := 1) ?_)); apply sw_region) | (apply at_thn)))
  rename_i bx
  refine c_phase 8 (.blk bx 174 [.int .i64 k, .int .i64 cd, .int .i64 mk, .string it, .slice r.1 r.2.2.length r.2.1, .string tx] :: .blk b 167 [.int .i64 s, .int .i64 m, .string i, .string g, .string t, .slice a n c] :: K) (.blk bx 174 [.int .i64 k, .int .i64 cd, .int .i64 mk, .string it, .slice r.1 r.2.2.length r.2.1, .string tx] :: K) (fun _ hw => hw.subs (by repeat ((first | refine Subs.cons (by repeat constructor) ?_ | exact Subs.sub (by repeat ((first | exact List.Sublist.refl _ | refine List.Sublist.cons _ ?_))))))) rfl ?_
  repeat' ((first | (apply g_sl; (first | (apply ks_nil; refine sl_nil ?_) | (apply ks_nilc; refine s_nilc (y_nilCheck rfl rfl) rfl ?_) | (apply ks_bi; ((refine c_append rfl rfl rfl rfl (by (rfl)) (by (rfl)) (by omega) rfl rfl (fun _ _ => ?_)))) | (apply ks_store; ((refine c_store rfl rfl rfl rfl rfl rfl rfl ?_))) | (apply ks_bs; ((refine c_bsA rfl rfl rfl rfl rfl rfl rfl rfl rfl (fun _ => ?_)))))) | (apply g_atso; refine so_back (k := 0) (fun _ hw => hw.subs (by repeat ((first | refine Subs.cons (by repeat constructor) ?_ | exact Subs.sub (by repeat ((first | exact List.Sublist.refl _ | refine List.Sublist.cons _ ?_))))))) ?_) | (apply g_atsp; refine sp_back (k := 0) (fun _ hw => hw.subs (by repeat ((first | refine Subs.cons (by repeat constructor) ?_ | exact Subs.sub (by repeat ((first | exact List.Sublist.refl _ | refine List.Sublist.cons _ ?_))))))) ?_) | (apply g_sot; (first | (refine sot_skip rfl ?_) | (refine sot_take rfl rfl rfl rfl (by kernel_rfl) (by decide +kernel) (by decide +kernel) ?_; (((apply ky_field; (refine sy_val (c_field0 rfl rfl) ?_))))) | (refine sot_next rfl ?_) | (refine so_done (by decide +kernel) ?_) | (refine sot_all (by kernel_rfl) ?_))) | (apply g_soa; (first | (refine soa_end rfl) | (refine soa_no (by decide +kernel) ?_) | (refine soa_yes rfl ?_ ?_))) | (apply g_spt; (first | (refine spt_skip rfl ?_) | (refine spt_take rfl rfl rfl rfl (by kernel_rfl) (by decide +kernel) (by decide +kernel) (by decide +kernel) ?_; ((first | (apply ky_move; refine sy_val (y_move rfl rfl) ?_) | (apply ky_load; ((refine sy_load rfl ?_; (first | refine ld_cell rfl ?_ | refine ld_whole rfl ?_)))) | (apply ky_field; (refine sy_val (c_field0 rfl rfl) ?_)) | (apply ky_nilc; refine sy_val (y_nilCheck rfl rfl) ?_)))) | (refine spt_next rfl ?_) | (refine spt_all (by kernel_rfl) ?_))) | (apply g_spa; (first | (refine spa_end rfl) | (refine spa_no (by decide +kernel) ?_) | (refine spa_st rfl rfl ?_ ?_) | (refine spa_yes rfl rfl ?_ ?_)))))
  rename_i b2 a2 c2
  exact e_scf (.blk b 167 [.int .i64 s, .int .i64 m, .string i, .string g, .string t, .slice a2 (n + 1) c2] :: .own 174 6 a2 (n + 1) c2 (vs ++ acC (k, cd, mk, it, r, tx)) :: K) (.inl rfl) rfl (fun _ hw => hw.subs (by repeat ((first | refine Subs.cons (by repeat constructor) ?_ | exact Subs.sub (by repeat ((first | exact List.Sublist.refl _ | refine List.Sublist.cons _ ?_))))))) ⟨a2, c2, rfl, rfl⟩
theorem mEnter_sc (G : Ctx) (K : List Ent) (b : Nat) (s m : Int) (i g t : ByteArray) (X : List Ac) (a : Option Addr) (c : Nat) (n : Int) : SC Tryz.prog G 112 [.pointer (some ⟨b, 0, none⟩), .int .i64 n] (mcH b (s, m, i, g, t) X a c K) (fun v H' => v = resV [] ∧ H' = mcH b (n, 0, e0, e0, e0) X a c K) := by
  unfold mcH
  dsimp only
  refine sc_enter2 Tryz.func112 rfl rfl rfl rfl rfl ?_
  repeat' ((first | (apply g_sl; (first | (apply ks_nil; refine sl_nil ?_) | (apply ks_move; refine s_move rfl rfl ?_) | (apply ks_field; (refine s_field (c_field0 rfl rfl) rfl ?_)) | (apply ks_build; (refine s_build (c_build rfl rfl rfl) rfl ?_)) | (apply ks_nilc; refine s_nilc (y_nilCheck rfl rfl) rfl ?_) | (apply ks_store; ((refine c_storep (off := 0) rfl rfl rfl rfl rfl rfl (Nat.le_of_ble_eq_true rfl) rfl ?_))))) | (apply sw_region)))
  exact e_scf (.blk b 167 [.int .i64 n, .int .i64 0, .string e0, .string e0, .string e0, .slice a X.length c] :: .own 174 6 a X.length c (acs X) :: K) (.inl rfl) rfl (fun _ hw => hw.subs (by repeat ((first | refine Subs.cons (by repeat constructor) ?_ | exact Subs.sub (by repeat ((exact List.Sublist.refl _))))))) ⟨rfl, rfl⟩
theorem mIgnore_sc (G : Ctx) (K : List Ent) (b : Nat) (s m : Int) (i g t : ByteArray) (X : List Ac) (a : Option Addr) (c : Nat) : SC Tryz.prog G 159 [.pointer (some ⟨b, 0, none⟩)] (mcH b (s, m, i, g, t) X a c K) (fun v H' => v = resV [] ∧ H' = mcH b (6, 0, e0, e0, e0) X a c K) := by
  unfold mcH
  dsimp only
  refine sc_enter1 Tryz.func159 rfl rfl rfl rfl rfl ?_
  repeat' ((first | (apply g_sl; (first | (apply ks_nil; refine sl_nil ?_) | (apply ks_move; refine s_move rfl rfl ?_) | (apply ks_field; (refine s_field (c_field0 rfl rfl) rfl ?_)) | (apply ks_build; (refine s_build (c_build rfl rfl rfl) rfl ?_)) | (apply ks_nilc; refine s_nilc (y_nilCheck rfl rfl) rfl ?_) | (apply ks_store; ((refine c_storep (off := 0) rfl rfl rfl rfl rfl rfl (Nat.le_of_ble_eq_true rfl) rfl ?_))))) | (apply sw_region)))
  exact e_scf (.blk b 167 [.int .i64 6, .int .i64 0, .string e0, .string e0, .string e0, .slice a X.length c] :: .own 174 6 a X.length c (acs X) :: K) (.inl rfl) rfl (fun _ hw => hw.subs (by repeat ((first | refine Subs.cons (by repeat constructor) ?_ | exact Subs.sub (by repeat ((exact List.Sublist.refl _))))))) ⟨rfl, rfl⟩
theorem pWithin_sv (G : Ctx) (H : List Ent) (n l h : Int) : SV Tryz.prog G 94 [.int .i64 n, .int .i64 l, .int .i64 h] H (.bool (decide (l ≤ n ∧ n ≤ h))) := by
  refine sv_enter3 Tryz.func94 rfl rfl rfl rfl rfl ?_
  repeat' ((first | (apply g_sl; (first | (apply ks_nil; refine sl_nil ?_) | (apply ks_move; refine s_move rfl rfl ?_) | (apply ks_bin; refine s_bin rfl rfl rfl ?_; (((refine bb_of rfl ?_)))) | (apply ks_asgn; refine s_asgn rfl rfl ?_) | (apply ks_pick; refine s_pick rfl rfl ?_; (first | (apply kp_t; refine pk_t rfl ?_) | (apply kp_f; refine pk_f rfl ?_))) | (apply ks_guard; ((refine sl_gd rfl rfl rfl rfl ?_; (first | (apply gd_t) | (apply gd_ft) | (apply gd_dec_t <;> intro hq <;> (try (exfalso; omega))))))))) | (apply sw_seq) | (apply sw_ret) | (apply sw_region) | (apply at_thn)))
  all_goals refine e_sv (by (exact .inr rfl)) rfl (by repeat ((exact List.Sublist.refl _))) ?_
  · exact congrArg Value.bool (decide_eq_decide.2 ⟨fun h2 => ⟨hq, h2⟩, fun h2 => h2.2⟩)
  · exact congrArg Value.bool (decide_eq_false (fun h2 => hq h2.1)).symm
theorem mDrop_sc (G : Ctx) (K : List Ent) (b : Nat) (s m : Int) (i g t : ByteArray) (X : List Ac) (a : Option Addr) (c : Nat) (n : Int) (hX : X.length ≤ 10000000) : SC Tryz.prog G 113 [.pointer (some ⟨b, 0, none⟩), .int .i64 n] (mcH b (s, m, i, g, t) X a c K) (fun v H' => ∃ a' c', v = resV [] ∧ H' = mcH b (n, 0, e0, e0, e0) (X ++ [(6, 0, 0, e0, nA, e0)]) a' c' K) := by
  have c1 := mEmit_sc G K b s m i g t X a c 6 0 0 e0 nA e0 hX
  have c2 := fun a c => mEnter_sc G K b s m i g t (X ++ [(6, 0, 0, e0, nA, e0)]) a c n
  refine sc_enter2 Tryz.func113 rfl rfl rfl rfl rfl ?_
  repeat' ((first | (apply g_sl; (first | (apply ks_nil; refine sl_nil ?_) | (apply ks_move; refine s_move rfl rfl ?_) | (apply ks_build; (refine s_build (c_build rfl rfl rfl) rfl ?_)) | (apply ks_fn; ((first | (refine c_call rfl rfl rfl c1 rfl rfl ?_; rintro _ _ ⟨a1, k1, rfl, rfl⟩) | (refine c_call rfl rfl rfl (c2 _ _) rfl rfl ?_; rintro _ _ ⟨rfl, rfl⟩)))))) | (apply sw_seq) | (apply sw_region) | (apply at_thn)))
  exact e_scf _ (.inl rfl) rfl (fun _ hw => hw) ⟨a1, k1, rfl, rfl⟩
theorem mFinal_sc (G : Ctx) (K : List Ent) (b : Nat) (s m : Int) (i g t : ByteArray) (X : List Ac) (a : Option Addr) (c : Nat) (k cd mk : Int) (it : ByteArray) (r : Rx Int) (tx : ByteArray) (hX : X.length ≤ 10000000) : SC Tryz.prog G 158 [.pointer (some ⟨b, 0, none⟩), acV k cd mk it r.1 r.2.2.length r.2.1 tx] (mcH b (s, m, i, g, t) X a c K) (fun v H' => ∃ a' c', v = resV [] ∧ H' = mcH b (0, 0, e0, e0, e0) (X ++ [finA i (k, cd, mk, it, r, tx)]) a' c' K) := by
  have c1 := fun K => mEmit_sc G K b s m i g t X a c 6 0 0 e0 nA e0 hX
  have c2 := fun K => mEmit_sc G K b s m i g t X a c k cd mk it r tx hX
  have c3 := fun K X a c => mEnter_sc G K b s m i g t X a c 0
  unfold mcH at *
  dsimp only at *
  refine sc_enter2 Tryz.func158 rfl rfl rfl rfl rfl ?_
  repeat' ((first | (apply g_sl; (first | (apply ks_nil; refine sl_nil ?_) | (apply ks_move; refine s_move rfl rfl ?_) | (apply ks_bin; refine s_bin rfl rfl rfl ?_; ((((refine bb_of rfl ?_))))) | (apply ks_load; ((refine s_load rfl rfl ?_; (first | refine ld_cell rfl ?_ | refine ld_whole rfl ?_)))) | (apply ks_field; (refine s_field (c_field0 rfl rfl) rfl ?_)) | (apply ks_build; (refine s_build (c_build rfl rfl rfl) rfl ?_)) | (apply ks_nilc; refine s_nilc (y_nilCheck rfl rfl) rfl ?_) | (apply ks_fn; ((first | (refine sl_heap (fun _ hw => hw.drop) ?_; (first | (refine c_call rfl rfl rfl (c1 _) rfl rfl ?_; rintro _ _ ⟨a1, k1, rfl, rfl⟩) | (refine c_call rfl rfl rfl (c2 _) rfl rfl ?_; rintro _ _ ⟨a1, k1, rfl, rfl⟩))) | (refine c_call rfl rfl rfl (c3 _ _ _ _) rfl rfl ?_; rintro _ _ ⟨rfl, rfl⟩)))) | (apply ks_bi; ((refine s_call (c_len_str rfl rfl) rfl ?_))) | (apply ks_store; ((refine c_storew rfl rfl rfl rfl rfl rfl rfl rfl ?_))) | (apply ks_box; refine c_box rfl rfl rfl rfl rfl rfl (fun _ => ?_)))) | (apply sw_seq) | (apply sw_skip) | (apply sw_region) | (refine sw_cd rfl ?_; ((apply gd_dec_t <;> intro hq <;> (try (exfalso; omega))))) | (apply at_thn)))
  · unfold finA
    rw [if_pos (by omega)]
    exact e_scf _ (.inl rfl) rfl (fun _ hw => hw) ⟨_, _, rfl, rfl⟩
  · unfold finA
    rw [if_neg (by omega)]
    exact e_scf _ (.inl rfl) rfl (fun _ hw => hw) ⟨_, _, rfl, rfl⟩
theorem mMore_sc (G : Ctx) (K : List Ent) (b : Nat) (s m : Int) (i g t : ByteArray) (X : List Ac) (a : Option Addr) (c : Nat) (x : Int) (hx : 0 ≤ x ∧ x ≤ 127) : SC Tryz.prog G 157 [.pointer (some ⟨b, 0, none⟩), .int .i64 x] (mcH b (s, m, i, g, t) X a c K) (fun v H' => v = resV [] ∧ H' = mcH b (s, m, moreU i x, g, t) X a c K) := by
  unfold mcH
  dsimp only
  have hcat : ∀ (i : ByteArray), i.size < 3 → i.size + (strOfNums [x]).size ≤ 9223372036854775807 := fun i h => by rw [strOfNums_size]; simp; omega
  refine sc_enter2 Tryz.func157 rfl rfl rfl rfl rfl ?_
  repeat' ((first | (apply g_sl; (first | (apply ks_nil; refine sl_nil ?_) | (apply ks_move; refine s_move rfl rfl ?_) | (apply ks_bin; refine s_bin rfl rfl rfl ?_; ((first | (refine bb_cat (hcat _ (by omega)) ?_) | ((refine bb_of rfl ?_))))) | (apply ks_load; ((refine s_load rfl rfl ?_; (refine ld_cell rfl ?_)))) | (apply ks_field; (refine s_field (c_field0 rfl rfl) rfl ?_)) | (apply ks_conv; ((first | (refine s_conv (c_conv (k := .i32) rfl rfl ⟨by omega, by omega⟩) rfl ?_) | (refine s_conv (c_convIs rfl rfl (by omega) (by omega)) rfl ?_)))) | (apply ks_nilc; refine s_nilc (y_nilCheck rfl rfl) rfl ?_) | (apply ks_bi; ((refine s_call (c_len_str rfl rfl) rfl ?_))) | (apply ks_store; ((refine c_store rfl rfl rfl rfl rfl rfl rfl ?_))))) | (apply sw_seq) | (apply sw_skip) | (apply sw_region) | (refine sw_cd rfl ?_; ((apply gd_dec_t <;> intro hq <;> (try (exfalso; omega))))) | (apply at_thn)))
  · unfold moreU
    rw [if_pos (by omega)]
    exact e_scf _ (.inl rfl) rfl (fun _ hw => hw) ⟨rfl, rfl⟩
  · unfold moreU
    rw [if_neg (by omega)]
    exact e_scf _ (.inl rfl) rfl (fun _ hw => hw) ⟨rfl, rfl⟩
end Go.Proofs.YtmbfechiallppaaGreatDoor
end
section
namespace Go.Proofs.YtmbfechiallppaaGreatDoor
open Go Go.RowKit Go.Fw Go.Sx
set_option maxRecDepth 100000
set_option maxHeartbeats 2000000
/-- What a fresh screen keeps, whatever is typed: its size, its modes, its pages. -/
structure Pln (s : Scr) : Prop where
  g : GrOk s.w s.h s.C
  row : 0 ≤ s.row ∧ s.row < s.h
  col : 0 ≤ s.col ∧ s.col < s.w
  modes : s.modes = 12
  sh : s.sh = 0
  p0 : s.p0 = 1
  pen : s.pf = 0 ∧ s.pr = 0 ∧ s.pb = 0
  top : s.top = 0
  bot : s.bot = s.h
  past : s.past.length ≤ 40
theorem m12 : iand 12 1 = 0 ∧ iand 12 4 = 4 ∧ iand 12 256 = 0 ∧ iand 12 128 = 0 := by
  refine ⟨?_, ?_, ?_, ?_⟩ <;> (rw [iand_eq]; decide)
theorem pen0 : penB 0 0 0 = true := by decide +kernel
attribute [local irreducible] SW SL SQ AtQ SV SC BB LD PK Yields SO SOT SOA SY
/-- What a terminal holds ahead of an act. -/
def tmH (tb gb gn gc : Nat) (oa : Option Addr) (on oc : Nat) (pa : Option Addr) (pn pc : Nat) (t : ByteArray) (X : List (Rx Qd)) (s : Scr) (K : List Ent) : List Ent :=
  .blk tb 172 (trmC s (some ⟨gb, 0, none⟩) gn gc oa on oc pa pn pc t) :: .own 104 4 (some ⟨gb, 0, none⟩) gn gc (qds s.C) :: .own 126 1 pa pn pc (X.map rxV) :: K
theorem index_sc (G : Ctx) (K Kr : List Ent) (s : Scr) (tb gb gn gc : Nat) (oa : Option Addr) (on oc : Nat) (pa : Option Addr) (pn pc : Nat) (t : ByteArray) (X : List (Rx Qd)) (hs : Pln s) (hgn : gn = s.C.length) (hgc : gn ≤ gc) (hX : X.map (·.2.2) = s.past) (hr : RdX qds G Kr X) (hpn : pn = X.length) :
    SC Tryz.prog G 163 [.pointer (some ⟨tb, 0, none⟩)] (tmH tb gb gn gc oa on oc pa pn pc t X s K) (TmP G K Kr tb gb gn gc oa on oc t (indexS s)) := by
  have hz := hs.g.size
  have hpl : pn ≤ 40 := by rw [hpn]; have := congrArg List.length hX; rw [List.length_map] at this; rw [this]; exact hs.past
  have hbb := hs.bot
  have hro := hs.row
  unfold tmH
  by_cases h1 : s.row = s.bot - 1
  · have e : indexS s = upR s := if_pos h1
    rw [e]
    exact index_a G K Kr s tb gb gc oa on oc pa pn pc t X hs.g gn hgn hgc h1 hs.top (by omega) (by rw [hs.modes]; exact m12.2.2.1) (by rw [hs.modes]; decide) hX hr hpn hpl
  · have e : indexS s = downS s := if_neg h1
    rw [e]
    refine (index_c G (.own 104 4 (some ⟨gb, 0, none⟩) gn gc (qds s.C) :: .own 126 1 pa pn pc (X.map rxV) :: K) s tb (some ⟨gb, 0, none⟩) gn gc oa on oc pa pn pc t h1 (by omega) hz.2.2 (by omega)).mono ?_
    rintro v H' ⟨rfl, rfl⟩
    exact ⟨[.own 126 1 pa pn pc (X.map rxV)], pa, pc, X, rfl, by rw [← hpn]; rfl, inferInstanceAs (RdC G (.own 126 1 pa pn pc (X.map rxV) :: Kr) pa _), hr.cons, by rw [hX]; rfl, by rw [← hpn]; exact inferInstanceAs (CapC G (.own 126 1 pa pn pc (X.map rxV) :: Kr) pa pn pc)⟩
theorem control13_sc (G : Ctx) (K Kr : List Ent) (s : Scr) (tb gb gn gc : Nat) (oa : Option Addr) (on oc : Nat) (pa : Option Addr) (pn pc : Nat) (t : ByteArray) (X : List (Rx Qd)) (hs : Pln s) (hX : X.map (·.2.2) = s.past) (hr : RdX qds G Kr X) (hpn : pn = X.length) :
    SC Tryz.prog G 120 [.pointer (some ⟨tb, 0, none⟩), .int .i64 13] (tmH tb gb gn gc oa on oc pa pn pc t X s K) (TmP G K Kr tb gb gn gc oa on oc t (homeS s)) := by
  have hz := hs.g.size
  have hcl : clampI 0 0 ((s.w : Int) - 1) = 0 := by unfold clampI; omega
  have cC := fun H => tColumn_sc G H s 0 tb (some ⟨gb, 0, none⟩) gn gc oa on oc pa pn pc t (by omega)
  rw [hcl, show ({ s with late := false, col := 0 } : Scr) = homeS s from rfl] at cC
  unfold tmH TmP
  refine sc_enter2 Tryz.func120 rfl rfl rfl rfl rfl ?_
  repeat' ((first | (apply g_sl; (first | (apply ks_nil; refine sl_nil ?_) | (apply ks_move; refine s_move rfl rfl ?_) | (apply ks_bin; refine s_bin rfl rfl rfl ?_; (((refine bb_of rfl ?_)))) | (apply ks_asgn; refine s_asgn rfl rfl ?_) | (apply ks_fn; ((refine c_call rfl rfl rfl (cC _) rfl rfl ?_; rintro _ _ ⟨rfl, rfl⟩))))) | (apply sw_seq) | (apply sw_block) | (apply sw_region) | (refine sw_cd rfl ?_; (first | (apply gd_t) | (apply gd_ft))) | (apply at_thn) | (apply at_inb)))
  all_goals (skip)
  refine e_scf _ (by (exact .inl rfl)) rfl (fun _ hw => hw) ⟨[.own 126 1 pa pn pc (X.map rxV)], pa, pc, X, rfl, by rw [← hpn]; rfl, inferInstanceAs (RdC G (.own 126 1 pa pn pc (X.map rxV) :: Kr) pa _), hr.cons, by rw [hX]; rfl, by rw [← hpn]; exact inferInstanceAs (CapC G (.own 126 1 pa pn pc (X.map rxV) :: Kr) pa pn pc)⟩
theorem control10_sc (G : Ctx) (K Kr : List Ent) (s : Scr) (tb gb gn gc : Nat) (oa : Option Addr) (on oc : Nat) (pa : Option Addr) (pn pc : Nat) (t : ByteArray) (X : List (Rx Qd)) (hs : Pln s) (hgn : gn = s.C.length) (hgc : gn ≤ gc) (hX : X.map (·.2.2) = s.past) (hr : RdX qds G Kr X) (hpn : pn = X.length) :
    SC Tryz.prog G 120 [.pointer (some ⟨tb, 0, none⟩), .int .i64 10] (tmH tb gb gn gc oa on oc pa pn pc t X s K) (TmP G K Kr tb gb gn gc oa on oc t (indexS s)) := by
  have cX := index_sc G K Kr s tb gb gn gc oa on oc pa pn pc t X hs hgn hgc hX hr hpn
  have f3 : (indexS s).modes = 12 := by rw [← hs.modes]; unfold indexS; split <;> rfl
  have cI := fun (H : List Ent) (cs : List Value) (_ : HasBlk H tb 172 cs) (hc : cs[11]? = some (.int .i64 (indexS s).modes)) => tIs_svL G H tb cs (indexS s).modes 128 (by rw [f3]; decide) (by omega) hc
  have hm : (iand (indexS s).modes 128 != 0) = false := by rw [f3, m12.2.2.2]; rfl
  rw [hm] at cI
  generalize indexS s = s2 at *
  unfold TmP at *
  refine sc_enter2 Tryz.func120 rfl rfl rfl rfl rfl ?_
  repeat' ((first | (apply g_sl; (first | (apply ks_nil; refine sl_nil ?_) | (apply ks_move; refine s_move rfl rfl ?_) | (apply ks_bin; refine s_bin rfl rfl rfl ?_; (((refine bb_of rfl ?_)))) | (apply ks_asgn; refine s_asgn rfl rfl ?_) | (apply ks_fn; ((first | (refine c_call rfl rfl rfl cX rfl rfl ?_; rintro _ _ ⟨E, pa2, pc2, X2, rfl, rfl, r1, r2, r3, r4⟩) | refine c_callv rfl rfl rfl (cI _ _ inferInstance rfl) rfl rfl ?_))))) | (apply sw_seq) | (apply sw_skip) | (apply sw_block) | (apply sw_region) | (refine sw_cd rfl ?_; (first | (apply gd_t) | (apply gd_ft))) | (apply at_thn) | (apply at_inb)))
  all_goals (skip)
  exact e_scf _ (by (exact .inl rfl)) rfl (fun _ hw => hw) ⟨E, pa2, pc2, X2, rfl, rfl, r1, r2, r3, r4⟩
/-- An act done. -/
def actS (s : Scr) (k c : Int) : Scr := if k = 1 then printS s c else if c = 13 then homeS s else indexS s
theorem print_sc (G : Ctx) (K Kr : List Ent) (s : Scr) (c : Int) (tb gb gn gc : Nat) (oa : Option Addr) (on oc : Nat) (pa : Option Addr) (pn pc : Nat) (t : ByteArray) (X : List (Rx Qd)) (hc : 0 ≤ c ∧ c ≤ 127) (hw : refWidth c = 1) (hs : Pln s) (hgn : gn = s.C.length) (hgc : gn ≤ gc) (hX : X.map (·.2.2) = s.past) (hr : RdX qds G Kr X) (hpn : pn = X.length) :
    SC Tryz.prog G 119 [.pointer (some ⟨tb, 0, none⟩), .int .i64 c] (tmH tb gb gn gc oa on oc pa pn pc t X s K) (TmP G K Kr tb gb gn gc oa on oc t (printS s c)) := by
  have hpl : pn ≤ 40 := by rw [hpn]; have := congrArg List.length hX; rw [List.length_map] at this; rw [this]; exact hs.past
  have e1 : iand s.modes 1 = 0 := by rw [hs.modes]; exact m12.1
  have e4 : iand s.modes 4 ≠ 0 := by rw [hs.modes, m12.2.1]; decide
  have eo : iand s.modes 256 = 0 := by rw [hs.modes]; exact m12.2.2.1
  have em : 0 ≤ s.modes ∧ s.modes ≤ 2047 := by rw [hs.modes]; decide
  unfold tmH printS
  cases hl : s.late with
  | false =>
    rw [if_neg (by simp)]
    exact print_1 G K Kr s c tb gb gn gc oa on oc pa pn pc t X hc hw hl hs.g hgn hgc hs.row hs.col em e1 e4 hs.sh hs.p0 hX hr hpn
  | true =>
    rw [if_pos rfl]
    exact print_2 G K Kr s c tb gb gn gc oa on oc pa pn pc t X hc hw hl hs.g hgn hgc hs.row em e1 e4 eo hs.sh hs.p0 (by rw [hs.pen.2.2]; exact pen0) hs.top hs.bot hX hr hpn hpl
theorem act_sc (G : Ctx) (K Kr : List Ent) (s : Scr) (k c m : Int) (i x : ByteArray) (aa : Option Addr) (an ac : Nat) (tb gb gn gc : Nat) (oa : Option Addr) (on oc : Nat) (pa : Option Addr) (pn pc : Nat) (t : ByteArray) (X : List (Rx Qd)) (hk : (k = 1 ∧ (0 ≤ c ∧ c ≤ 127) ∧ refWidth c = 1) ∨ (k = 2 ∧ (c = 13 ∨ c = 10))) (hs : Pln s) (hgn : gn = s.C.length) (hgc : gn ≤ gc) (hX : X.map (·.2.2) = s.past) (hr : RdX qds G Kr X) (hpn : pn = X.length) :
    SC Tryz.prog G 73 [.pointer (some ⟨tb, 0, none⟩), acV k c m i aa an ac x] (tmH tb gb gn gc oa on oc pa pn pc t X s K) (TmP G K Kr tb gb gn gc oa on oc t (actS s k c)) := by
  unfold actS
  have key : ∀ (f : Nat) (s2 : Scr) (_ : ∀ K' : List Ent, SC Tryz.prog G f [.pointer (some ⟨tb, 0, none⟩), .int .i64 c] (tmH tb gb gn gc oa on oc pa pn pc t X s K') (TmP G K' Kr tb gb gn gc oa on oc t s2)) (_ : (k = 1 ∧ f = 119) ∨ (k = 2 ∧ f = 120)), SC Tryz.prog G 73 [.pointer (some ⟨tb, 0, none⟩), acV k c m i aa an ac x] (tmH tb gb gn gc oa on oc pa pn pc t X s K) (TmP G K Kr tb gb gn gc oa on oc t s2) := by
    intro f s2 hf hf2
    have fin : ∀ (b : Nat) (cs : List Value) (v : Value) (H' : List Ent), TmP G (.blk b 174 cs :: K) Kr tb gb gn gc oa on oc t s2 v H' → TmP G K Kr tb gb gn gc oa on oc t s2 v H' := by
      rintro b cs v H' ⟨E, pa2, pc2, X2, e1, e2, r1, r2, r3, r4⟩
      have e : E ++ (.blk b 174 cs :: K) = (E ++ [.blk b 174 cs]) ++ K := by rw [List.append_assoc]; rfl
      have hh : ∀ w, Holds G ((E ++ [.blk b 174 cs]) ++ Kr) w → Holds G (E ++ Kr) w := fun w hw => hw.sub (by
        rw [List.append_assoc]
        exact (List.Sublist.refl E).append (List.sublist_append_right _ _))
      rw [e] at e2
      exact ⟨_, pa2, pc2, X2, e1, e2, ⟨fun w hw => r1.here w (hh w hw)⟩, r2.mono hh, r3, ⟨fun w hw => r4.here w (hh w hw)⟩⟩
    rcases hf2 with ⟨rfl, rfl⟩ | ⟨rfl, rfl⟩
    · unfold tmH
      refine sc_enter2 Tryz.func73 rfl rfl rfl rfl rfl ?_
      repeat' ((first | (apply g_sl; (first | (apply ks_nil; refine sl_nil ?_) | (apply ks_bin; refine s_bin rfl rfl rfl ?_; (((refine bb_of rfl ?_)))) | (apply ks_load; ((refine s_load rfl rfl ?_; (refine ld_cell rfl ?_)))) | (apply ks_asgn; refine s_asgn rfl rfl ?_) | (apply ks_field; (refine s_field (c_field0 rfl rfl) rfl ?_)) | (apply ks_box; refine c_box rfl rfl rfl rfl rfl rfl (fun _ => ?_)))) | (apply sw_seq) | (apply sw_block) | ((fail_if_success (refine g_reg (id := 2) ?_)); apply sw_region) | (refine sw_cd rfl ?_; ((apply gd_t))) | (apply at_thn)))
      all_goals (skip)
      rename_i b
      have hf' := hf (.blk b 174 [.int .i64 1, .int .i64 c, .int .i64 m, .string i, .slice aa an ac, .string x] :: K)
      refine sw_le (fun _ _ h => h) (H' := tmH tb gb gn gc oa on oc pa pn pc t X s (.blk b 174 [.int .i64 1, .int .i64 c, .int .i64 m, .string i, .slice aa an ac, .string x] :: K)) (by unfold tmH; exact (fun _ hw => hw.subs (by repeat ((first | refine Subs.cons (by repeat constructor) ?_ | exact Subs.sub (by repeat ((exact List.Sublist.refl _)))))))) ?_
      unfold tmH at hf' ⊢
      repeat' ((first | (apply g_sl; (first | (apply ks_nil; refine sl_nil ?_) | (apply ks_move; refine s_move rfl rfl ?_) | (apply ks_load; ((refine s_load rfl rfl ?_; (refine ld_cell rfl ?_)))) | (apply ks_field; (refine s_field (c_field0 rfl rfl) rfl ?_)) | (apply ks_fn; ((refine c_call rfl rfl rfl hf' rfl rfl ?_; intro v H' hT))))) | (apply sw_region) | (apply at_inb)))
      all_goals (skip)
      have hv : v = resV [] := by obtain ⟨_, _, _, _, e, _⟩ := hT; exact e
      subst hv
      exact e_scf _ (by (exact .inl rfl)) rfl (fun _ hw => hw) (fin _ _ _ _ hT)
    · unfold tmH
      refine sc_enter2 Tryz.func73 rfl rfl rfl rfl rfl ?_
      repeat' ((first | (apply g_sl; (first | (apply ks_nil; refine sl_nil ?_) | (apply ks_bin; refine s_bin rfl rfl rfl ?_; (((refine bb_of rfl ?_)))) | (apply ks_load; ((refine s_load rfl rfl ?_; (refine ld_cell rfl ?_)))) | (apply ks_asgn; refine s_asgn rfl rfl ?_) | (apply ks_field; (refine s_field (c_field0 rfl rfl) rfl ?_)) | (apply ks_box; refine c_box rfl rfl rfl rfl rfl rfl (fun _ => ?_)))) | (apply sw_seq) | (apply sw_block) | ((fail_if_success (refine g_reg (id := 4) ?_)); apply sw_region) | (refine sw_cd rfl ?_; (first | (apply gd_t) | (apply gd_ft))) | (apply at_thn)))
      all_goals (skip)
      rename_i b
      have hf' := hf (.blk b 174 [.int .i64 2, .int .i64 c, .int .i64 m, .string i, .slice aa an ac, .string x] :: K)
      refine sw_le (fun _ _ h => h) (H' := tmH tb gb gn gc oa on oc pa pn pc t X s (.blk b 174 [.int .i64 2, .int .i64 c, .int .i64 m, .string i, .slice aa an ac, .string x] :: K)) (by unfold tmH; exact (fun _ hw => hw.subs (by repeat ((first | refine Subs.cons (by repeat constructor) ?_ | exact Subs.sub (by repeat ((exact List.Sublist.refl _)))))))) ?_
      unfold tmH at hf' ⊢
      repeat' ((first | (apply g_sl; (first | (apply ks_nil; refine sl_nil ?_) | (apply ks_move; refine s_move rfl rfl ?_) | (apply ks_load; ((refine s_load rfl rfl ?_; (refine ld_cell rfl ?_)))) | (apply ks_field; (refine s_field (c_field0 rfl rfl) rfl ?_)) | (apply ks_fn; ((refine c_call rfl rfl rfl hf' rfl rfl ?_; intro v H' hT))))) | (apply sw_region) | (apply at_inb)))
      all_goals (skip)
      have hv : v = resV [] := by obtain ⟨_, _, _, _, e, _⟩ := hT; exact e
      subst hv
      exact e_scf _ (by (exact .inl rfl)) rfl (fun _ hw => hw) (fin _ _ _ _ hT)
  rcases hk with ⟨rfl, h1, h2⟩ | ⟨rfl, rfl | rfl⟩
  · rw [if_pos rfl]
    exact key _ _ (fun K' => print_sc G K' Kr s c tb gb gn gc oa on oc pa pn pc t X h1 h2 hs hgn hgc hX hr hpn) (.inl ⟨rfl, rfl⟩)
  · rw [if_neg (by decide), if_pos rfl]
    exact key _ _ (fun K' => control13_sc G K' Kr s tb gb gn gc oa on oc pa pn pc t X hs hX hr hpn) (.inr ⟨rfl, rfl⟩)
  · rw [if_neg (by decide), if_neg (by decide)]
    exact key _ _ (fun K' => control10_sc G K' Kr s tb gb gn gc oa on oc pa pn pc t X hs hgn hgc hX hr hpn) (.inr ⟨rfl, rfl⟩)
theorem act13_sc (G : Ctx) (K : List Ent) (s : Scr) (m : Int) (i x : ByteArray) (aa : Option Addr) (an ac : Nat) (tb gb gn gc : Nat) (oa : Option Addr) (on oc : Nat) (pa : Option Addr) (pn pc : Nat) (t : ByteArray) (X : List (Rx Qd)) (hs : Pln s) :
    SC Tryz.prog G 73 [.pointer (some ⟨tb, 0, none⟩), acV 2 13 m i aa an ac x] (tmH tb gb gn gc oa on oc pa pn pc t X s K) fun v H' => v = resV [] ∧ H' = tmH tb gb gn gc oa on oc pa pn pc t X (homeS s) K := by
  have hz := hs.g.size
  have hcl : clampI 0 0 ((s.w : Int) - 1) = 0 := by unfold clampI; omega
  have cC := fun H => tColumn_sc G H s 0 tb (some ⟨gb, 0, none⟩) gn gc oa on oc pa pn pc t (by omega)
  rw [hcl, show ({ s with late := false, col := 0 } : Scr) = homeS s from rfl] at cC
  have cK : ∀ H, SC Tryz.prog G 120 [.pointer (some ⟨tb, 0, none⟩), .int .i64 13] (.blk tb 172 (trmC s (some ⟨gb, 0, none⟩) gn gc oa on oc pa pn pc t) :: H) fun v H' => v = resV [] ∧ H' = .blk tb 172 (trmC (homeS s) (some ⟨gb, 0, none⟩) gn gc oa on oc pa pn pc t) :: H := by
    intro H
    refine sc_enter2 Tryz.func120 rfl rfl rfl rfl rfl ?_
    repeat' ((first | (apply g_sl; (first | (apply ks_nil; refine sl_nil ?_) | (apply ks_move; refine s_move rfl rfl ?_) | (apply ks_bin; refine s_bin rfl rfl rfl ?_; (((refine bb_of rfl ?_)))) | (apply ks_asgn; refine s_asgn rfl rfl ?_) | (apply ks_fn; ((refine c_call rfl rfl rfl (cC _) rfl rfl ?_; rintro _ _ ⟨rfl, rfl⟩))))) | (apply sw_seq) | (apply sw_block) | (apply sw_region) | (refine sw_cd rfl ?_; (first | (apply gd_t) | (apply gd_ft))) | (apply at_thn) | (apply at_inb)))
    all_goals (skip)
    exact e_scf _ (by (exact .inl rfl)) rfl (fun _ hw => hw) ⟨rfl, rfl⟩
  have hC : (homeS s).C = s.C := rfl
  unfold tmH
  rw [hC]
  refine sc_enter2 Tryz.func73 rfl rfl rfl rfl rfl ?_
  repeat' ((first | (apply g_sl; (first | (apply ks_nil; refine sl_nil ?_) | (apply ks_move; refine s_move rfl rfl ?_) | (apply ks_bin; refine s_bin rfl rfl rfl ?_; (((refine bb_of rfl ?_)))) | (apply ks_load; ((refine s_load rfl rfl ?_; (refine ld_cell rfl ?_)))) | (apply ks_asgn; refine s_asgn rfl rfl ?_) | (apply ks_field; (refine s_field (c_field0 rfl rfl) rfl ?_)) | (apply ks_fn; ((refine c_call rfl rfl rfl (sc_pick PickBlk.here (cK _)) rfl rfl ?_; rintro _ _ ⟨rfl, rfl⟩))) | (apply ks_box; refine c_box rfl rfl rfl rfl rfl rfl (fun _ => ?_)))) | (apply sw_seq) | (apply sw_block) | (apply sw_region) | (refine sw_cd rfl ?_; (first | (apply gd_t) | (apply gd_ft))) | (apply at_thn) | (apply at_inb)))
  all_goals (skip)
  exact e_scf (.blk tb 172 (trmC (homeS s) (some ⟨gb, 0, none⟩) gn gc oa on oc pa pn pc t) :: .own 104 4 (some ⟨gb, 0, none⟩) gn gc (qds s.C) :: .own 126 1 pa pn pc (X.map rxV) :: K) (by (exact .inl rfl)) rfl (fun _ hw => hw.subs (by repeat ((first | refine Subs.cons (by repeat constructor) ?_ | exact Subs.sub (by repeat ((first | exact List.Sublist.refl _ | refine List.Sublist.cons _ ?_))))))) ⟨rfl, rfl⟩
end Go.Proofs.YtmbfechiallppaaGreatDoor
end
section
namespace Go.Proofs.YtmbfechiallppaaGreatDoor
open Go Go.RowKit Go.Fw Go.Sx
set_option maxRecDepth 100000
set_option maxHeartbeats 1000000
structure Fre (s : Scr) : Prop where
  pl : Pln s
  o : GrOk s.w s.h s.D
  late : s.late = true → s.col = (s.w : Int) - 1
  p1 : s.p1 = 1
  sv : s.sr = 0 ∧ s.sc = 0 ∧ s.spf = 0 ∧ s.spr = 0 ∧ s.spb = 0 ∧ s.sp0 = 1 ∧ s.sp1 = 1 ∧ s.ssh = 0
  ti : s.ti = ⟨#[]⟩
  rows : ∀ r ∈ s.past, GrOk r.length 1 r
theorem GrOk.row {w h k : Nat} {C : List Qd} (g : GrOk w h C) (hk : k < h) : GrOk (rowQ w C k).length 1 (rowQ w C k) := by
  have hl := rowQ_len hk g.len
  refine ⟨⟨by rw [hl]; exact g.size.1, by decide, by decide⟩, by omega, fun j hj i hi => ?_⟩
  have hj0 : j = 0 := by omega
  subst hj0
  have e : rowQ (rowQ w C k).length (rowQ w C k) 0 = rowQ w C k := by
    show ((rowQ w C k).drop (0 * (rowQ w C k).length)).take (rowQ w C k).length = _
    rw [Nat.zero_mul, List.drop_zero, List.take_length]
  rw [e]
  exact g.cell k hk i (by omega)
theorem GrOk.putRow {w h k : Nat} {C : List Qd} (g : GrOk w h C) (hk : k < h) {R' : List Qd} (hR' : R'.length = w) (ho : ∀ i, i < w → cellOk R' i = true) : GrOk w h (rowC C w k R') := by
  have hr := row_mul (w := w) (h := h) (k := k) (n := C.length) hk g.len
  have e : C = C.take (k * w) ++ rowQ w C k ++ C.drop (k * w + w) := by
    unfold rowQ
    rw [List.append_assoc, ← List.drop_drop, List.take_append_drop, List.take_append_drop]
  unfold rowC
  exact g.put hk e (by rw [List.length_take]; omega) (rowQ_len hk g.len) hR' ho
theorem Fre.home {s : Scr} (f : Fre s) : Fre (homeS s) := by
  have hz := f.pl.g.size
  exact ⟨⟨f.pl.g, f.pl.row, by show (0 : Int) ≤ 0 ∧ (0 : Int) < s.w; omega, f.pl.modes, f.pl.sh, f.pl.p0, f.pl.pen, f.pl.top, f.pl.bot, f.pl.past⟩, f.o, (fun h => by cases h), f.p1, f.sv, f.ti, f.rows⟩
theorem Fre.index {s : Scr} (f : Fre s) : Fre (indexS s) := by
  have hz := f.pl.g.size
  have hro := f.pl.row
  have hb := f.pl.bot
  unfold indexS
  split
  · rename_i h1
    have hp : (upR s).past = pastPush s.past (rowQ s.w s.C 0) := rfl
    have hpl : (upR s).past.length ≤ 40 := by
      have := f.pl.past
      rw [hp]; unfold pastPush
      split
      · rw [List.length_drop, List.length_append]; simp; omega
      · omega
    have hpr : ∀ r ∈ (upR s).past, GrOk r.length 1 r := by
      have h2 : ∀ r ∈ s.past ++ [rowQ s.w s.C 0], GrOk r.length 1 r := fun r hr => by
        rcases List.mem_append.1 hr with h | h
        · exact f.rows r h
        · rw [List.mem_singleton] at h; rw [h]; exact f.pl.g.row (by omega)
      rw [hp]; unfold pastPush
      split
      · exact fun r hr => h2 r (List.mem_of_mem_drop hr)
      · exact h2
    exact ⟨⟨f.pl.g.scroll 1 0 0 s.pb (by omega) (by rw [f.pl.pen.2.2]; exact pen0), f.pl.row, f.pl.col, f.pl.modes, f.pl.sh, f.pl.p0, f.pl.pen, f.pl.top, f.pl.bot, hpl⟩, f.o, (fun h => by cases h), f.p1, f.sv, f.ti, hpr⟩
  · rename_i h1
    exact ⟨⟨f.pl.g, by show 0 ≤ s.row + 1 ∧ s.row + 1 < (s.h : Int); omega, f.pl.col, f.pl.modes, f.pl.sh, f.pl.p0, f.pl.pen, f.pl.top, f.pl.bot, f.pl.past⟩, f.o, (fun h => by cases h), f.p1, f.sv, f.ti, f.rows⟩
theorem Fre.put {s : Scr} (f : Fre s) {c : Int} (hw : refWidth c = 1) : Fre (putS s c) := by
  have hz := f.pl.g.size
  have hro := f.pl.row
  have hco := f.pl.col
  have hk : s.row.toNat < s.h := by omega
  have hlen : (putQ refWidth (rowQ s.w s.C s.row.toNat) s.col.toNat c s.pf s.pr s.pb).length = s.w := by rw [putQ_len, rowQ_len hk f.pl.g.len]
  have hpen : penB s.pf s.pr s.pb = true := by rw [f.pl.pen.1, f.pl.pen.2.1, f.pl.pen.2.2]; exact pen0
  have hc := mend_cels (putQ_cels (c := s.col.toNat) (f.pl.g.cels hk) hpen (by rw [hw]; decide))
  rw [hlen] at hc
  have hg := f.pl.g.putRow hk (R' := mendQ refWidth (putQ refWidth (rowQ s.w s.C s.row.toNat) s.col.toNat c s.pf s.pr s.pb)) (by rw [mendQ_len, hlen]) hc
  refine ⟨⟨hg, f.pl.row, ?_, f.pl.modes, f.pl.sh, f.pl.p0, f.pl.pen, f.pl.top, f.pl.bot, f.pl.past⟩, f.o, ?_, f.p1, f.sv, f.ti, f.rows⟩
  · show 0 ≤ (if s.col + 1 > (s.w : Int) - 1 then (s.w : Int) - 1 else s.col + 1) ∧ (if s.col + 1 > (s.w : Int) - 1 then (s.w : Int) - 1 else s.col + 1) < (s.w : Int)
    split <;> omega
  · intro h
    have h : s.col + 1 > (s.w : Int) - 1 := of_decide_eq_true h
    show (if s.col + 1 > (s.w : Int) - 1 then (s.w : Int) - 1 else s.col + 1) = (s.w : Int) - 1
    rw [if_pos h]
theorem Fre.act {s : Scr} (f : Fre s) {k c : Int} (hk : (k = 1 ∧ (0 ≤ c ∧ c ≤ 127) ∧ refWidth c = 1) ∨ (k = 2 ∧ (c = 13 ∨ c = 10))) : Fre (actS s k c) := by
  unfold actS
  rcases hk with ⟨rfl, h1, h2⟩ | ⟨rfl, rfl | rfl⟩
  · rw [if_pos rfl]
    unfold printS
    split
    · exact f.home.index.put h2
    · exact f.put h2
  · rw [if_neg (by decide), if_pos rfl]; exact f.home
  · rw [if_neg (by decide), if_neg (by decide)]; exact f.index
theorem act_size (s : Scr) (k c : Int) : (actS s k c).w = s.w ∧ (actS s k c).h = s.h ∧ (actS s k c).D = s.D := by
  unfold actS printS indexS
  split
  · split
    · unfold putS; dsimp only; split <;> exact ⟨rfl, rfl, rfl⟩
    · exact ⟨rfl, rfl, rfl⟩
  · split
    · exact ⟨rfl, rfl, rfl⟩
    · split <;> exact ⟨rfl, rfl, rfl⟩
theorem Fre.new {w h : Nat} (hs : (1 ≤ w ∧ w ≤ 160) ∧ (1 ≤ h ∧ h ≤ 60)) : Fre (newS w h) := by
  exact ⟨⟨GrOk.new hs, by show (0 : Int) ≤ 0 ∧ (0 : Int) < h; omega, by show (0 : Int) ≤ 0 ∧ (0 : Int) < w; omega, rfl, rfl, rfl, ⟨rfl, rfl, rfl⟩, rfl, rfl, Nat.zero_le _⟩, GrOk.new hs, (fun h => by cases h), rfl, ⟨rfl, rfl, rfl, rfl, rfl, rfl, rfl, rfl⟩, rfl, fun r hr => nomatch hr⟩
end Go.Proofs.YtmbfechiallppaaGreatDoor
end
section
namespace Go.Proofs.YtmbfechiallppaaGreatDoor
open Go Go.RowKit Go.Fw Go.Sx
set_option maxRecDepth 100000
set_option maxHeartbeats 2000000
attribute [local irreducible] SW SL SQ AtQ SV SC BB LD PK Yields SO SOT SOA SY
theorem bbLe {x y : Operand} {K : Value → Prop} {p q : Int} (h : p ≤ q) (hk : K (.bool true)) : BB Tryz.prog .leq 3 x y (.int .i64 p) (.int .i64 q) K := bb_of (v := .bool (decide (p ≤ q))) rfl (by rw [decide_eq_true h]; exact hk)
theorem bbEq {x y : Operand} {K : Value → Prop} {p q : Int} (h : p = q) (hk : K (.bool true)) : BB Tryz.prog .eql 3 x y (.int .i64 p) (.int .i64 q) K := bb_of (v := .bool (p == q)) rfl (by rw [show (p == q) = true from beq_iff_eq.2 h]; exact hk)
theorem bbEqE {x y : Operand} {K : Value → Prop} {p q : Int} (h : p = q) (hk : K (.bool true)) : BB Tryz.prog .eql 56 x y (.int .i64 p) (.int .i64 q) K := bb_of (v := .bool (p == q)) rfl (by rw [show (p == q) = true from beq_iff_eq.2 h]; exact hk)
theorem known1_sv (G : Ctx) (H : List Ent) (p : Int) (hp : p = 1) : SV Tryz.prog G 77 [.int .i64 p] H (.bool true) := by
  subst hp
  refine sv_enter1 Tryz.func77 rfl rfl rfl rfl rfl ?_
  repeat' ((first | (apply g_sl; (first | (apply ks_nil; refine sl_nil ?_) | (apply ks_move; refine s_move rfl rfl ?_) | (apply ks_bin; refine s_bin rfl rfl rfl ?_; (((refine bb_of rfl ?_)))) | (apply ks_asgn; refine s_asgn rfl rfl ?_) | (apply ks_pick; refine s_pick rfl rfl ?_; ((apply kp_t; refine pk_t rfl ?_))) | (apply ks_guard; ((refine sl_gd rfl rfl rfl rfl ?_; ((apply gd_t))))))) | (apply sw_seq) | (apply sw_ret) | (apply sw_region) | (apply at_thn)))
  all_goals ((refine e_sv (by (exact .inr rfl)) rfl (by repeat ((exact List.Sublist.refl _))) ?_; rfl))
theorem within_sv (G : Ctx) (H : List Ent) (n lo hi : Int) (h : lo ≤ n ∧ n ≤ hi) : SV Tryz.prog G 75 [.int .i64 n, .int .i64 lo, .int .i64 hi] H (.bool true) := by
  refine sv_enter3 Tryz.func75 rfl rfl rfl rfl rfl ?_
  repeat' ((first | (apply g_sl; (first | (apply ks_nil; refine sl_nil ?_) | (apply ks_move; refine s_move rfl rfl ?_) | (apply ks_bin; refine s_bin rfl rfl rfl ?_; (((refine bb_of rfl ?_)))) | (apply ks_asgn; refine s_asgn rfl rfl ?_) | (apply ks_pick; refine s_pick rfl rfl ?_; ((apply kp_t; refine pk_t rfl ?_))) | (apply ks_guard; ((refine sl_gd rfl rfl rfl rfl ?_; (first | (apply gd_t) | (apply gd_dec_t <;> intro hq <;> (try (exfalso; omega))))))))) | (apply sw_seq) | (apply sw_ret) | (apply sw_region) | (apply at_thn)))
  all_goals (skip)
  refine e_sv (by (exact .inr rfl)) rfl (by repeat ((exact List.Sublist.refl _))) ?_
  simp [resV]; omega
theorem past_sv (G : Ctx) (H : List Ent) (X : List (Rx Qd)) {vs : List Value} (pa : Option Addr) (n pc : Nat) [h1 : RdC G H pa vs] (hv : vs = X.map rxV) (hr : RdX qds G H X) (hn : n = X.length) (hm : n ≤ 40) (hg : ∀ x ∈ X, GrOk x.2.2.length 1 x.2.2) : SV Tryz.prog G 78 [.slice pa n pc] H (.bool true) := by
  have hlx : vs.length = n * 1 := by rw [hv, List.length_map, hn, Nat.mul_one]
  have hel : ∀ (k : Nat) x, X[k]? = some x → take? (vs.drop ((k : Int).toNat * 1)) 1 = some [rxV x] := fun k x hx => by
    subst hv
    rw [Int.toNat_natCast, Nat.mul_one]
    have hlt := (List.getElem?_eq_some_iff.1 hx).1
    refine takeq_of rfl ?_
    rw [List.drop_eq_getElem_cons (by rw [List.length_map]; exact hlt), List.take_succ_cons, List.take_zero, List.getElem_map, (List.getElem?_eq_some_iff.1 hx).2]
  have Hn := Lib.hid hn
  clear hn
  refine sv_enter1 Tryz.func78 rfl rfl rfl rfl rfl ?_
  repeat' ((first | (apply g_sl; (first | (apply ks_nil; refine sl_nil ?_) | (apply ks_move; refine s_move rfl rfl ?_) | (apply ks_asgn; refine s_asgn rfl rfl ?_) | (apply ks_bi; (refine s_call (c_len rfl rfl) rfl ?_)))) | (apply sw_seq) | (apply sw_block) | ((fail_if_success (refine g_reg (id := 2) ?_)); apply sw_region) | (apply at_thn)))
  refine sw_loopg (α := Nat) (fun k => [(0, .slice pa n pc), (5, .slice pa n pc), (6, .int .i64 n), (7, .int .i64 k)]) (fun _ => H)
    (fun k => k ≤ n) (fun k => n - k) 0 (Nat.zero_le _) (by repeat ((first | exact Le.nil _ | refine Le.cons (by (rfl)) ?_))) (fun _ hw => hw.subs (by repeat ((exact Subs.sub (by repeat ((exact List.Sublist.refl _))))))) ?_
  intro k hk
  by_cases hlt : (k : Int) < n
  · obtain ⟨x, hx⟩ := get_of (X := X) (k := k) (by rw [← Hn.out]; omega)
    have e1 := hel k x hx
    have hsl := hr.at hx
    have hgx := hg x (List.mem_of_getElem? hx)
    refine sw_here fun w0 hw0 => ?_
    have hcap := (hsl w0 hw0).1
    clear hw0 w0
    obtain ⟨a, c, R⟩ := x
    dsimp only at hcap hgx
    haveI := hsl.rd
    dsimp only at this
    have hll := hgx.len1
    have cG := fun (H : List Ent) [RdC G H a (qds R)] => gridCheck_sv G H R (R.length : Int) ((1 : Nat) : Int) a R.length c rfl rfl (by omega) hcap
    rw [hgx.e] at cG
    have e1 : take? (vs.drop ((k : Int).toNat * 1)) 1 = some [.slice a R.length c] := e1
    clear hel hv hr hg hx hsl hgx
    repeat' ((first | (apply g_sl; (first | (apply ks_nil; refine sl_nil ?_) | (apply ks_move; refine s_move rfl rfl ?_) | (apply ks_bin; refine s_bin rfl rfl rfl ?_; ((((first | (apply kb_add; (refine bb_add ⟨by omega, by omega⟩ ?_)) | refine bb_of rfl ?_))))) | (apply ks_load; (first | (refine s_load rfl rfl ?_; (refine ld_cell rfl ?_)) | ((refine s_load rfl rfl ?_; refine ld_elems e1 rfl ?_)))) | (apply ks_field; (refine s_field (c_field0 rfl rfl) rfl ?_)) | (apply ks_build; (refine s_build (c_build rfl rfl rfl) rfl ?_)) | (apply ks_indexA; (((refine s_indexA (c_indexAddr rfl rfl rfl hlx (by omega) (by omega)) rfl ?_)))) | (apply ks_fn; (refine c_callv rfl rfl rfl (cG _) rfl rfl ?_)) | (apply ks_bi; ((refine s_call (c_len rfl rfl) rfl ?_))) | (apply ks_store; ((refine c_storew rfl rfl rfl rfl rfl rfl rfl rfl ?_))) | (apply ks_alloc; refine c_alloc rfl rfl rfl rfl (fun _ => ?_)))) | (apply sw_seq) | (apply sw_skip) | (apply sw_block) | (apply sw_region) | (refine sw_cd rfl ?_; (first | (apply gd_ft) | (apply gd_dec_t <;> intro hq <;> (try (exfalso; omega))))) | (apply at_thn) | (apply at_inb)))
    all_goals (skip)
    exact at_meet (k + 1) ⟨by omega, by omega⟩ (by repeat ((first | exact Le.nil _ | refine Le.cons (by (rfl)) ?_))) (fun _ hw => hw.subs (by repeat ((exact Subs.sub (by repeat ((first | exact List.Sublist.refl _ | refine List.Sublist.cons _ ?_)))))))
  · obtain rfl : k = n := by omega
    repeat' ((first | (apply g_sl; (first | (apply ks_nil; refine sl_nil ?_) | (apply ks_move; refine s_move rfl rfl ?_) | (apply ks_bin; refine s_bin rfl rfl rfl ?_; (((refine bb_of rfl ?_)))) | (apply ks_asgn; refine s_asgn rfl rfl ?_) | (apply ks_bi; (refine s_call (c_len rfl rfl) rfl ?_)))) | (apply sw_seq) | (apply sw_ret) | (apply sw_exit) | (apply sw_region) | (refine sw_cd rfl ?_; ((apply gd_dec_t <;> intro hq <;> (try (exfalso; omega))))) | (apply at_thn) | (apply at_thn_exit) | (apply at_inb_exit)))
    all_goals (skip)
    refine e_sv (by (exact .inr rfl)) rfl (by repeat ((exact List.Sublist.refl _))) ?_
    simp [resV]; omega
theorem scrCheck_sv (G : Ctx) (H : List Ent) (s : Scr) (f : Fre s) (X : List (Rx Qd)) (ga : Option Addr) (gn gc : Nat) (oa : Option Addr) (on oc : Nat) (pa : Option Addr) (pn pc : Nat) [h1 : RdC G H ga (qds s.C)] [h2 : RdC G H oa (qds s.D)] [h3 : RdC G H pa (X.map rxV)] (hgn : gn = s.C.length) (hgc : gn ≤ gc) (hon : on = s.D.length) (hoc : on ≤ oc) (hpn : pn = X.length) (hX : X.map (·.2.2) = s.past) (hr : RdX qds G H X) :
    SV Tryz.prog G 40 [.agg (scnC s ga gn gc oa on oc pa pn pc).toArray] H (.int .i64 0) := by
  have hz := f.pl.g.size
  have hro := f.pl.row
  have hco := f.pl.col
  have hto := f.pl.top
  have hbo := f.pl.bot
  have hsv := f.sv
  have hti : s.ti.size = 0 := by rw [f.ti]; rfl
  have hpl : pn ≤ 40 := by rw [hpn]; have := congrArg List.length hX; rw [List.length_map] at this; rw [this]; exact f.pl.past
  have cC := fun (H : List Ent) [RdC G H ga (qds s.C)] => gridCheck_sv G H s.C (s.w : Int) (s.h : Int) ga gn gc rfl hgn (by have := f.pl.g.len1; omega) hgc
  rw [f.pl.g.e] at cC
  have cD := fun (H : List Ent) [RdC G H oa (qds s.D)] => gridCheck_sv G H s.D (s.w : Int) (s.h : Int) oa on oc rfl hon (by have := f.o.len1; omega) hoc
  rw [f.o.e] at cD
  have cP := fun (H : List Ent) => penCheck_sv G H s.pf s.pr s.pb
  rw [if_pos (by rw [f.pl.pen.1, f.pl.pen.2.1, f.pl.pen.2.2]; exact pen0)] at cP
  have cP2 := fun (H : List Ent) => penCheck_sv G H s.spf s.spr s.spb
  rw [if_pos (by rw [hsv.2.2.1, hsv.2.2.2.1, hsv.2.2.2.2.1]; exact pen0)] at cP2
  have cK := fun (H : List Ent) (p : Int) (hp : p = 1) => known1_sv G H p hp
  have hp0 := f.pl.p0
  have hp1 := f.p1
  have hsp0 := hsv.2.2.2.2.2.1
  have hsp1 := hsv.2.2.2.2.2.2.1
  have hmo := f.pl.modes
  have hsh := f.pl.sh
  have hssh := hsv.2.2.2.2.2.2.2
  have hsr := hsv.1
  have hsc := hsv.2.1
  have cW := fun (H : List Ent) (n lo hi : Int) (h : lo ≤ n ∧ n ≤ hi) => within_sv G H n lo hi h
  have cX := fun (H : List Ent) (_ : RdC G H pa (X.map rxV)) (hr : RdX qds G H X) => past_sv G H X pa pn pc rfl hr hpn hpl (fun x hx => f.rows _ (by rw [← hX]; exact List.mem_map_of_mem hx))
  have hla : s.late = false ∨ (s.late = true ∧ s.col = (s.w : Int) - 1) := by
    cases hl : s.late with
    | false => exact .inl rfl
    | true => exact .inr ⟨rfl, f.late hl⟩
  have hone : ∀ k : Nat, k < 2 → True := fun _ _ => trivial
  clear hX hone hsv
  unfold scnC
  refine sv_enter1 Tryz.func40 rfl rfl rfl rfl rfl ?_
  repeat' ((first | (apply g_sl; (first | (apply ks_nil; refine sl_nil ?_) | (apply ks_asgn; refine s_asgn rfl rfl ?_) | (apply ks_box; refine c_box rfl rfl rfl rfl rfl rfl (fun _ => ?_)))) | (apply sw_seq) | ((fail_if_success (refine g_reg (id := 1) ?_)); apply sw_region) | (apply at_thn)))
  rename_i b
  refine sw_cut1 (α := Nat × Nat) (fun g => [(1, .pointer (some ⟨b, 0, none⟩)), (3, .pointer (some ⟨g.1, 0, none⟩)), (4, .pointer (some ⟨g.2, 0, none⟩))])
    (fun g => .blk g.1 28 [.int .i64 s.w, .int .i64 s.h, .slice ga gn gc] :: .blk g.2 28 [.int .i64 s.w, .int .i64 s.h, .slice oa on oc] :: .blk b 40 (scnC s ga gn gc oa on oc pa pn pc) :: H) (fun _ => True) ?_ ?_
  · repeat' ((first | (apply g_sl; (first | (apply ks_nil; refine sl_nil ?_) | (apply ks_store; ((refine c_storew rfl rfl rfl rfl rfl rfl rfl rfl ?_))) | (apply ks_alloc; refine c_alloc rfl rfl rfl rfl (fun _ => ?_)))) | (apply g_atso; refine so_back (k := 0) (fun _ hw => hw.subs (by repeat ((first | refine Subs.cons (by repeat constructor) ?_ | exact Subs.sub (by repeat ((first | exact List.Sublist.refl _ | refine List.Sublist.cons _ ?_))))))) ?_) | (apply g_sot; (first | (refine sot_skip rfl ?_) | (refine sot_take rfl rfl rfl rfl (by kernel_rfl) (by decide +kernel) (by decide +kernel) ?_; ((first | (apply ky_load; ((refine sy_load rfl ?_; (refine ld_part rfl rfl ?_)))) | (apply ky_field; (refine sy_val (c_field0 rfl rfl) ?_))))) | (refine sot_next rfl ?_) | (refine so_done (by decide +kernel) ?_) | (refine sot_all (by kernel_rfl) ?_))) | (apply g_soa; (first | (refine soa_end rfl) | (refine soa_no (by decide +kernel) ?_) | (refine soa_yes rfl ?_ ?_))) | ((refine g_reg (id := 1) ?_; refine c_drawno _ (fun _ hw => hw) ?_))))
    all_goals
      rename_i b1 b2
      first
        | (refine at_meet (b1, b2) trivial ?_ ?_
           focus (repeat ((first | exact Le.nil _ | refine Le.cons rfl ?_)))
           exact (fun _ hw => hw.subs (by repeat (first | refine Subs.cons (by repeat constructor) ?_ | exact Subs.sub (by repeat (first | exact List.Sublist.refl _ | exact List.nil_sublist _ | refine List.Sublist.cons _ ?_))))))
        | (refine at_meet (b2, b1) trivial ?_ ?_
           focus (repeat ((first | exact Le.nil _ | refine Le.cons rfl ?_)))
           exact (fun _ hw => hw.subs (by repeat (first | refine Subs.cons (by repeat constructor) ?_ | exact Subs.sub (by repeat (first | exact List.Sublist.refl _ | exact List.nil_sublist _ | refine List.Sublist.cons _ ?_))))))
  rintro ⟨b1, b2⟩ -
  dsimp only
  unfold scnC
  rcases hla with hl | ⟨hl, hlc⟩
  all_goals
    rw [hl]
    repeat' ((first | (apply g_sl; (first | (apply ks_nil; refine sl_nil ?_) | (apply ks_move; refine s_move rfl rfl ?_) | (apply ks_bin; refine s_bin rfl rfl rfl ?_; ((first | (refine bbLe (by omega) ?_) | (refine bbEq (by omega) ?_) | (refine bbEqE (by omega) ?_) | (((apply kb_sub; (refine bb_sub ⟨by omega, by omega⟩ ?_))))))) | (apply ks_load; ((refine s_load rfl rfl ?_; (first | refine ld_cell rfl ?_ | refine ld_whole rfl ?_ | refine ld_part rfl rfl ?_)))) | (apply ks_asgn; refine s_asgn rfl rfl ?_) | (apply ks_pick; refine s_pick rfl rfl ?_; (first | (apply kp_t; refine pk_t rfl ?_) | (apply kp_f; refine pk_f rfl ?_))) | (apply ks_field; (first | refine s_field (c_field0 rfl rfl) rfl ?_ | refine s_field (c_field rfl rfl) rfl ?_)) | (apply ks_un; refine s_un (y_un rfl rfl rfl) rfl ?_) | (apply ks_fn; ((first | refine c_callv rfl rfl rfl (cC _) rfl rfl ?_ | refine c_callv rfl rfl rfl (cD _) rfl rfl ?_ | refine c_callv rfl rfl rfl (cW _ _ _ _ (by omega)) rfl rfl ?_ | refine c_callv rfl rfl rfl (cP _) rfl rfl ?_ | refine c_callv rfl rfl rfl (cP2 _) rfl rfl ?_))) | (apply ks_guard; ((refine sl_gd rfl rfl rfl rfl ?_; (first | (apply gd_t) | (apply gd_tf))))))) | (apply sw_seq) | (apply sw_block) | ((fail_if_success (refine g_reg (id := 7) ?_)); apply sw_region) | (apply at_thn)))
    refine sw_loopN 3 (srd_succ ?_)
    repeat' ((first | (apply g_sl; (first | (apply ks_nil; refine sl_nil ?_) | (apply ks_move; refine s_move rfl rfl ?_) | (apply ks_bin; refine s_bin rfl rfl rfl ?_; ((first | (refine bbLe (by omega) ?_) | ((first | (apply kb_add; (refine bb_add ⟨by omega, by omega⟩ ?_)) | refine bb_of rfl ?_))))) | (apply ks_load; ((refine s_load rfl rfl ?_; (refine ld_cell rfl ?_)))) | (apply ks_asgn; refine s_asgn rfl rfl ?_) | (apply ks_pick; refine s_pick rfl rfl ?_; ((apply kp_t; refine pk_t rfl ?_))) | (apply ks_field; (first | refine s_field (c_field0 rfl rfl) rfl ?_ | refine s_field (c_field rfl rfl) rfl ?_)) | (apply ks_un; refine s_un (y_un rfl rfl rfl) rfl ?_) | (apply ks_indexA; (((refine s_indexA (c_indexP rfl rfl rfl (by omega) (by omega)) rfl ?_)))) | (apply ks_fn; ((first | refine c_callv rfl rfl rfl (cW _ _ _ _ (by omega)) rfl rfl ?_ | refine c_callv rfl rfl rfl (cK _ _ (by omega)) rfl rfl ?_ | refine c_callv rfl rfl rfl (cX _ inferInstance hr.cons.cons.cons) rfl rfl ?_))) | (apply ks_bi; ((refine s_call (c_len_str rfl rfl) rfl ?_))) | (apply ks_guard; ((refine sl_gd rfl rfl rfl rfl ?_; ((apply gd_t))))))) | (apply sw_seq) | (apply at_srd) | (apply sw_skip) | (apply sw_ret) | (apply sw_exit) | (apply sw_block) | (apply sw_region) | (refine sw_cd rfl ?_; (first | (apply gd_t) | (apply gd_ft))) | (apply at_thn) | (apply at_thn_exit) | (apply at_inb) | (apply at_inb_exit)))
    all_goals (skip)
    refine e_sv (by (exact .inr rfl)) rfl (by repeat ((first | exact List.Sublist.refl _ | refine List.Sublist.cons _ ?_))) ?_
    rfl
end Go.Proofs.YtmbfechiallppaaGreatDoor
end
section
namespace Go.Proofs.YtmbfechiallppaaGreatDoor
open Go Go.RowKit Go.Fw Go.Sx
set_option maxRecDepth 100000
set_option maxHeartbeats 2000000
attribute [local irreducible] SW SL SQ AtQ SV SC BB LD PK Yields SO SOT SOA SY
/-- A screen's copy, with rows of its own. -/
def ClnP (G : Ctx) (H : List Ent) (s : Scr) (gn on : Nat) (v : Value) (H' : List Ent) : Prop :=
  ∃ (gb gc ob oc : Nat) (pa : Option Addr) (pc : Nat) (Y : List (Rx Qd)) (E : List Ent), v = .agg (scnC s (some ⟨gb, 0, none⟩) gn gc (some ⟨ob, 0, none⟩) on oc pa Y.length pc).toArray ∧
    H' = .own 104 4 (some ⟨gb, 0, none⟩) gn gc (qds s.C) :: .own 126 1 pa Y.length pc (Y.map rxV) :: (E ++ (.own 104 4 (some ⟨ob, 0, none⟩) on oc (qds s.D) :: H)) ∧ RdX qds G E Y ∧ Y.map (·.2.2) = s.past ∧ gn ≤ gc ∧ on ≤ oc
theorem scrClone_sc (G : Ctx) (H : List Ent) (s : Scr) (f : Fre s) (X : List (Rx Qd)) (ga : Option Addr) (gn gc : Nat) (oa : Option Addr) (on oc : Nat) (pa : Option Addr) (pn pc : Nat) [h1 : RdC G H ga (qds s.C)] [h2 : RdC G H oa (qds s.D)] [h3 : RdC G H pa (X.map rxV)] (hgn : gn = s.C.length) (hon : on = s.D.length) (hpn : pn = X.length) (hX : X.map (·.2.2) = s.past) (hr : RdX qds G H X) :
    SC Tryz.prog G 56 [.agg (scnC s ga gn gc oa on oc pa pn pc).toArray] H (ClnP G H s gn on) := by
  have hz := f.pl.g.size
  have hl1 := f.pl.g.len1
  have hl2 := f.o.len1
  have hg0 : 0 < gn := by rw [hgn, f.pl.g.len]; exact Nat.mul_pos (by omega) (by omega)
  have ho0 : 0 < on := by rw [hon, f.o.len]; exact Nat.mul_pos (by omega) (by omega)
  have hpl : pn ≤ 40 := by rw [hpn]; have := congrArg List.length hX; rw [List.length_map] at this; rw [this]; exact f.pl.past
  have cC := fun (H : List Ent) [RdC G H ga (qds s.C)] => sc_some (gridClone_sc G H s.C (s.w : Int) (s.h : Int) ga gn gc rfl hgn (by omega)) hg0
  have cD := fun (H : List Ent) [RdC G H oa (qds s.D)] => sc_some (gridClone_sc G H s.D (s.w : Int) (s.h : Int) oa on oc rfl hon (by omega)) ho0
  have hlx : (X.map (rxV (α := Qd))).length = pn * 1 := by rw [List.length_map, hpn, Nat.mul_one]
  have hXl : s.past.length = pn := by rw [← hX, List.length_map, hpn]
  have Hn := Lib.hid hpn
  have HXl := Lib.hid hXl
  have hrows := f.rows
  clear hpn hXl hgn hon hl1 hl2 f
  refine sc_enter1 Tryz.func56 rfl rfl rfl rfl rfl ?_
  repeat' ((first | (apply g_sl; (first | (apply ks_nil; refine sl_nil ?_) | (apply ks_box; refine c_box rfl rfl rfl rfl rfl rfl (fun _ => ?_)) | (apply ks_alloc; refine c_alloc rfl rfl rfl rfl (fun _ => ?_)))) | (apply sw_seq) | ((fail_if_success (refine g_reg (id := 1) ?_)); apply sw_region) | (apply at_thn)))
  rename_i b b0
  refine sw_cut1 (α := Nat × Nat × Nat × Nat) (fun g => [(1, .pointer (some ⟨b, 0, none⟩)), (2, .pointer (some ⟨b0, 0, none⟩))])
    (fun g => .blk b 40 (scnC s (some ⟨g.1, 0, none⟩) gn g.2.1 (some ⟨g.2.2.1, 0, none⟩) on g.2.2.2 pa pn pc) :: .blk b0 40 scnZ :: .own 104 4 (some ⟨g.1, 0, none⟩) gn g.2.1 (qds s.C) :: .own 104 4 (some ⟨g.2.2.1, 0, none⟩) on g.2.2.2 (qds s.D) :: H) (fun g => gn ≤ g.2.1 ∧ on ≤ g.2.2.2) ?_ ?_
  · unfold scnC
    repeat' ((first | (apply g_sl; (first | (apply ks_nil; refine sl_nil ?_) | (apply ks_load; ((refine s_load rfl rfl ?_; (refine ld_part rfl rfl ?_)))) | (apply ks_fn; ((first | (refine c_call rfl rfl rfl (cC _) rfl rfl ?_; rintro _ _ ⟨gb2, gc2, hh1, rfl, rfl⟩) | (refine c_call rfl rfl rfl (cD _) rfl rfl ?_; rintro _ _ ⟨ob2, oc2, hh2, rfl, rfl⟩)))) | (apply ks_store; (((refine c_storepL rfl rfl rfl rfl rfl rfl rfl rfl rfl ?_)))))) | (apply g_atso; refine so_back (k := 0) (fun _ hw => hw.subs (by repeat ((first | refine Subs.cons (by repeat constructor) ?_ | exact Subs.sub (by repeat ((first | exact List.Sublist.refl _ | refine List.Sublist.cons _ ?_))))))) ?_) | (apply g_sot; (first | (refine sot_skip rfl ?_) | (refine sot_take rfl rfl rfl rfl (by kernel_rfl) (by decide +kernel) (by decide +kernel) ?_; (((apply ky_field; (refine sy_val (c_field0 rfl rfl) ?_))))) | (refine sot_next rfl ?_) | (refine so_done (by decide +kernel) ?_) | (refine sot_all (by kernel_rfl) ?_))) | (apply g_soa; (first | (refine soa_end rfl) | (refine soa_no (by decide +kernel) ?_) | (refine soa_yes rfl ?_ ?_))) | ((refine g_reg (id := 1) ?_; refine c_drawnoB (b := b) ?_))))
    all_goals exact at_meet (gb2, gc2, ob2, oc2) ⟨hh1, hh2⟩ (by repeat ((first | exact Le.nil _ | refine Le.cons (by (rfl)) ?_))) (fun _ hw => hw.subs (by repeat ((first | refine Subs.cons (by repeat constructor) ?_ | exact Subs.sub (by repeat ((exact List.Sublist.refl _)))))))
  rintro ⟨gb2, gc2, ob2, oc2⟩ ⟨hh1, hh2⟩
  dsimp only at hh1 hh2 ⊢
  clear cC cD
  unfold scnC
  repeat' ((first | (apply g_sl; (first | (apply ks_nil; refine sl_nil ?_) | (apply ks_move; refine s_move rfl rfl ?_) | (apply ks_load; ((refine s_load rfl rfl ?_; (refine ld_cell rfl ?_)))) | (apply ks_asgn; refine s_asgn rfl rfl ?_) | (apply ks_field; (refine s_field (c_field0 rfl rfl) rfl ?_)) | (apply ks_bi; (refine s_call (c_len rfl rfl) rfl ?_)))) | (apply sw_seq) | (apply sw_block) | ((fail_if_success (refine g_reg (id := 4) ?_)); apply sw_region) | (apply at_thn)))
  refine sw_loopg (α := (List (Rx Qd) × List Ent) × Option Addr × Nat) (fun g => [(1, .pointer (some ⟨b, 0, none⟩)), (2, .pointer (some ⟨b0, 0, none⟩)), (3, .slice g.2.1 g.1.1.length g.2.2), (15, .slice pa pn pc), (16, .int .i64 pn), (17, .int .i64 g.1.1.length)])
    (fun g => .own 126 1 g.2.1 g.1.1.length g.2.2 (g.1.1.map rxV) :: .blk b 40 (scnC s (some ⟨gb2, 0, none⟩) gn gc2 (some ⟨ob2, 0, none⟩) on oc2 pa pn pc) :: .blk b0 40 scnZ :: .own 104 4 (some ⟨gb2, 0, none⟩) gn gc2 (qds s.C) :: (g.1.2 ++ (.own 104 4 (some ⟨ob2, 0, none⟩) on oc2 (qds s.D) :: H)))
    (fun g => g.1.1.length ≤ pn ∧ g.1.1.map (·.2.2) = s.past.take g.1.1.length ∧ RdX qds G g.1.2 g.1.1) (fun g => pn - g.1.1.length) (([], []), none, 0) ⟨Nat.zero_le _, rfl, RdX.nil⟩ (by repeat ((first | exact Le.nil _ | refine Le.cons (by (rfl)) ?_))) (fun _ hw => hw.nilrow _ _) ?_
  rintro ⟨⟨Y, E⟩, a, c⟩ ⟨hi, hY, hYr⟩
  dsimp only at hi hY hYr ⊢
  have hone : (Y.map (rxV (α := Qd))).all (·.oneCell') = true := by simp [List.all_map, Function.comp_def, rxV, Value.oneCell']
  have hly : (Y.map (rxV (α := Qd))).length = Y.length * 1 := by rw [List.length_map, Nat.mul_one]
  generalize hYl : Y.length = k at *
  by_cases hlt : (k : Int) < pn
  · obtain ⟨x, hx⟩ := get_of (X := X) (k := k) (by rw [← Hn.out]; omega)
    have hsl := hr.at hx
    have hxp : s.past[k]? = some x.2.2 := by rw [← hX, List.getElem?_map, hx]; rfl
    have hgx := hrows _ (List.mem_of_getElem? hxp)
    have e1 : take? ((X.map (rxV (α := Qd))).drop ((k : Int).toNat * 1)) 1 = some [rxV x] := by
      rw [Int.toNat_natCast, Nat.mul_one]
      have hlt := (List.getElem?_eq_some_iff.1 hx).1
      refine takeq_of rfl ?_
      rw [List.drop_eq_getElem_cons (by rw [List.length_map]; exact hlt), List.take_succ_cons, List.take_zero, List.getElem_map, (List.getElem?_eq_some_iff.1 hx).2]
    obtain ⟨xa, xc, R⟩ := x
    have e1 : take? ((X.map (rxV (α := Qd))).drop ((k : Int).toNat * 1)) 1 = some [.slice xa R.length xc] := e1
    dsimp only at hgx hxp
    have hll := hgx.len1
    have hRl : R.length = R.length := rfl
    haveI hrd : RdC G H xa (qds R) := hsl.rd
    haveI hrd2 : ∀ E', RdC G (E' ++ (.own 104 4 (some ⟨ob2, 0, none⟩) on oc2 (qds s.D) :: H)) xa (qds R) := fun E' => ⟨fun w hw => hrd.here w ((hw.sub (List.sublist_append_right E' _)).drop)⟩
    haveI hrd3 : ∀ E', RdC G (E' ++ (.own 104 4 (some ⟨ob2, 0, none⟩) on oc2 (qds s.D) :: H)) pa (X.map rxV) := fun E' => ⟨fun w hw => h3.here w ((hw.sub (List.sublist_append_right E' _)).drop)⟩
    have cQ := fun (H : List Ent) [RdC G H xa (qds R)] => cloneQ_sc G H R xa R.length xc rfl rfl (by omega)
    have hsn : s.past.take (k + 1) = s.past.take k ++ [R] := by
      have hl2 := (List.getElem?_eq_some_iff.1 hxp).1
      rw [List.take_succ_eq_append_getElem hl2, (List.getElem?_eq_some_iff.1 hxp).2]
    clear hX hr hsl hgx hx hrows HXl hxp
    repeat' ((first | (apply g_sl; (first | (apply ks_nil; refine sl_nil ?_) | (apply ks_move; refine s_move rfl rfl ?_) | (apply ks_bin; refine s_bin rfl rfl rfl ?_; ((((first | (apply kb_add; (refine bb_add ⟨by omega, by omega⟩ ?_)) | refine bb_of rfl ?_))))) | (apply ks_load; (first | (refine s_load rfl rfl ?_; (refine ld_cell rfl ?_)) | ((refine s_load rfl rfl ?_; refine ld_elems e1 rfl ?_)))) | (apply ks_asgn; refine s_asgn rfl rfl ?_) | (apply ks_field; (refine s_field (c_field0 rfl rfl) rfl ?_)) | (apply ks_build; (refine s_build (c_build rfl rfl rfl) rfl ?_)) | (apply ks_indexA; (((refine s_indexA (c_indexAddr rfl rfl rfl hlx (by omega) (by omega)) rfl ?_)))) | (apply ks_fn; ((refine c_call rfl rfl rfl (cQ _) rfl rfl ?_; rintro _ _ ⟨na, nc, rfl, rfl⟩))) | (apply ks_bi; ((refine c_append rfl rfl rfl rfl (by (rfl)) (by (rfl)) (by omega) rfl rfl (fun _ _ => ?_)))) | (apply ks_store; ((refine c_storew rfl rfl rfl rfl rfl rfl rfl rfl ?_))) | (apply ks_alloc; refine c_alloc rfl rfl rfl rfl (fun _ => ?_)) | (apply ks_bs; ((refine c_bsA rfl rfl rfl rfl rfl rfl rfl rfl rfl (fun _ => ?_)))))) | (apply sw_seq) | (apply sw_skip) | (apply sw_block) | (apply sw_region) | (refine sw_cd rfl ?_; ((apply gd_dec_t <;> intro hq <;> (try (exfalso; omega))))) | (apply at_thn) | (apply at_inb)))
    rename_i b5 b6 a2 c2
    have hlen : (Y ++ [((na, nc, R) : Rx Qd)]).length = k + 1 := by rw [List.length_append, hYl]; rfl
    have hmap : (Y ++ [((na, nc, R) : Rx Qd)]).map (rxV (α := Qd)) = Y.map rxV ++ [.slice na R.length nc] := by rw [List.map_append]; rfl
    refine at_meet ((Y ++ [((na, nc, R) : Rx Qd)], .own 104 4 na R.length nc (qds R) :: E), a2, c2) ?_ ?_ ?_
    · dsimp only
      rw [hlen]
      refine ⟨⟨by omega, by rw [List.map_append, hY, hsn]; rfl, ?_⟩, by omega⟩
      exact hYr.cons.snoc (Sl.own (e := 104) (sz := 4) (n := R.length) (vs := qds R) List.mem_cons_self rfl rfl)
    · dsimp only
      rw [hlen]
      exact (by repeat ((first | exact Le.nil _ | refine Le.cons (by (rfl)) ?_)))
    · dsimp only
      rw [hlen, hmap]
      exact (fun _ hw => hw.subs (by repeat ((first | refine Subs.cons (by repeat constructor) ?_ | exact Subs.sub (by repeat ((first | exact List.Sublist.refl _ | refine List.Sublist.cons _ ?_)))))))
  · obtain rfl : k = pn := by omega
    have hYp : Y.map (·.2.2) = s.past := by rw [hY, List.take_of_length_le (by rw [HXl.out]; exact Nat.le_refl _)]
    unfold scnC
    repeat' ((first | (apply g_sl; (first | (apply ks_nil; refine sl_nil ?_) | (apply ks_move; refine s_move rfl rfl ?_) | (apply ks_bin; refine s_bin rfl rfl rfl ?_; ((((refine bb_of rfl ?_))))) | (apply ks_load; ((refine s_load rfl rfl ?_; (refine ld_whole rfl ?_)))) | (apply ks_field; (refine s_field (c_field0 rfl rfl) rfl ?_)) | (apply ks_store; ((first | refine c_store rfl rfl rfl rfl rfl rfl rfl ?_ | refine c_storew rfl rfl rfl rfl rfl rfl rfl rfl ?_))))) | (apply sw_seq) | (apply sw_ret) | (apply sw_exit) | (apply sw_region) | (refine sw_cd rfl ?_; ((apply gd_dec_t <;> intro hq <;> (try (exfalso; omega))))) | (apply at_thn) | (apply at_thn_exit) | (apply at_inb_exit)))
    refine e_scc (.own 104 4 (some ⟨gb2, 0, none⟩) gn gc2 (qds s.C) :: .own 126 1 a k c (Y.map rxV) :: (E ++ (.own 104 4 (some ⟨ob2, 0, none⟩) on oc2 (qds s.D) :: H))) (.inr rfl) rfl rfl rfl (fun _ hw => hw.subs (by repeat ((first | refine Subs.cons (by repeat constructor) ?_ | exact Subs.sub (by repeat ((first | exact List.Sublist.refl _ | refine List.Sublist.cons _ ?_))))))) ?_
    exact ⟨gb2, gc2, ob2, oc2, a, c, Y, E, by rw [hYl]; rfl, by rw [hYl], hYr, hYp, hh1, hh2⟩
end Go.Proofs.YtmbfechiallppaaGreatDoor
end
section
namespace Go.Sx
open Go Go.RowKit Go.Fw
/-- A block and two rows pulled to the front. -/
theorem sc_pull3 {P : Program} {G : Ctx} {f : FuncId} {args : List Value} {H H1 H2 H3 : List Ent} {tb : Nat} {t : TypeId} {cs : List Value} {a1 a2 : Option Addr} {e1 s1 n1 c1 e2 s2 n2 c2 : Nat} {x1 x2 : List Value} {R : Value → List Ent → Prop}
    [p1 : PickBlk H tb t cs H1] [p2 : PickOwn H1 a1 e1 s1 n1 c1 x1 H2] [p3 : PickOwn H2 a2 e2 s2 n2 c2 x2 H3] (h : SC P G f args (.blk tb t cs :: .own e1 s1 a1 n1 c1 x1 :: .own e2 s2 a2 n2 c2 x2 :: H3) R) : SC P G f args H R :=
  ⟨h.1, fun w hw => h.2 w ((hw.pick p1.here).perm (((p2.here.perm).trans ((p3.here.perm).cons _)).cons _))⟩
end Go.Sx
namespace Go.Proofs.YtmbfechiallppaaGreatDoor
open Go Go.RowKit Go.Fw Go.Sx
set_option maxRecDepth 100000
set_option maxHeartbeats 2000000
attribute [local irreducible] SW SL SQ AtQ SV SC BB LD PK Yields SO SOT SOA SY
theorem idx0_sv (G : Ctx) (H : List Ent) (a : Option Addr) (c : Nat) (f : Value) : SV Tryz.prog G 160 [.slice a 0 c, f] H (.int .i64 (-1)) := by
  refine sv_enter2 Tryz.func160 rfl rfl rfl rfl rfl ?_
  repeat' ((first | (apply g_sl; (first | (apply ks_nil; refine sl_nil ?_) | (apply ks_move; refine s_move rfl rfl ?_) | (apply ks_asgn; refine s_asgn rfl rfl ?_) | (apply ks_bi; (refine s_call (c_len rfl rfl) rfl ?_)))) | (apply sw_seq) | (apply sw_block) | ((fail_if_success (refine g_reg (id := 2) ?_)); apply sw_region) | (apply at_thn)))
  refine sw_loopN 1 (srd_succ ?_)
  repeat' ((first | (apply g_sl; (first | (apply ks_nil; refine sl_nil ?_) | (apply ks_bin; refine s_bin rfl rfl rfl ?_; (((refine bb_of rfl ?_)))) | (apply ks_asgn; refine s_asgn rfl rfl ?_))) | (apply sw_seq) | (apply sw_ret) | (apply sw_exit) | (apply sw_region) | (refine sw_cd rfl ?_; ((apply gd_ft))) | (apply at_thn) | (apply at_thn_exit) | (apply at_inb_exit)))
  refine e_sv (by (exact .inr rfl)) rfl (by repeat ((exact List.Sublist.refl _))) ?_
  rfl
theorem cont0_sv (G : Ctx) (H : List Ent) (a : Option Addr) (c : Nat) (f : Value) : SV Tryz.prog G 117 [.slice a 0 c, f] H (.bool false) := by
  have cI := fun H => idx0_sv G H a c f
  refine sv_enter2 Tryz.func117 rfl rfl rfl rfl rfl ?_
  repeat' ((first | (apply g_sl; (first | (apply ks_nil; refine sl_nil ?_) | (apply ks_move; refine s_move rfl rfl ?_) | (apply ks_bin; refine s_bin rfl rfl rfl ?_; (((refine bb_of rfl ?_)))) | (apply ks_asgn; refine s_asgn rfl rfl ?_) | (apply ks_fn; (refine c_callv rfl rfl rfl (cI _) rfl rfl ?_)))) | (apply sw_seq) | (apply sw_ret) | (apply sw_region) | (apply at_thn)))
  refine e_sv (by (exact .inr rfl)) rfl (by repeat ((exact List.Sublist.refl _))) ?_
  rfl
/-- Acts without numbers and texts. -/
def bare (y : Ac) : Prop := y.2.2.2.2.1.2.2 = [] ∧ y.2.2.2.2.2 = e0
theorem actions_sv (G : Ctx) (H : List Ent) (A : List Ac) {vs : List Value} (a : Option Addr) (n c : Nat) [h1 : RdC G H a vs] (hv : vs = acs A) (hn : n = A.length) (hm : n ≤ 1000000) (hb : ∀ y ∈ A, bare y) : SV Tryz.prog G 72 [.slice a n c] H (.int .i64 0) := by
  have hlx : vs.length = n * 6 := by rw [hv, acs_len, hn]
  have hel : ∀ (k : Nat) x, A[k]? = some x → take? (vs.drop ((k : Int).toNat * 6)) 6 = some (acC x) := fun k x hx => by subst hv; exact fm_elem hx
  have cF := fun (H : List Ent) (a : Option Addr) (c : Nat) => cont0_sv G H a c (.func (.func 118) #[] #[])
  have Hn := Lib.hid hn
  clear hn hv
  refine sv_enter1 Tryz.func72 rfl rfl rfl rfl rfl ?_
  repeat' ((first | (apply g_sl; (first | (apply ks_nil; refine sl_nil ?_) | (apply ks_move; refine s_move rfl rfl ?_) | (apply ks_asgn; refine s_asgn rfl rfl ?_) | (apply ks_bi; (refine s_call (c_len rfl rfl) rfl ?_)))) | (apply sw_seq) | (apply sw_block) | ((fail_if_success (refine g_reg (id := 2) ?_)); apply sw_region) | (apply at_thn)))
  refine sw_loopg (α := Nat) (fun k => [(0, .slice a n c), (5, .slice a n c), (6, .int .i64 n), (7, .int .i64 k)]) (fun _ => H)
    (fun k => k ≤ n) (fun k => n - k) 0 (Nat.zero_le _) (by repeat ((first | exact Le.nil _ | refine Le.cons (by (rfl)) ?_))) (fun _ hw => hw.subs (by repeat ((exact Subs.sub (by repeat ((exact List.Sublist.refl _))))))) ?_
  intro k hk
  by_cases hlt : (k : Int) < n
  · obtain ⟨x, hx⟩ := get_of (X := A) (k := k) (by rw [← Hn.out]; omega)
    have e1 := hel k x hx
    have hbx := hb x (List.mem_of_getElem? hx)
    obtain ⟨kk, cc, mm, ii, ⟨ra, rc, L⟩, tt⟩ := x
    obtain ⟨h2, h3⟩ := hbx
    dsimp only at h2 h3
    subst h2 h3
    have e1 : take? (vs.drop ((k : Int).toNat * 6)) 6 = some [.int .i64 kk, .int .i64 cc, .int .i64 mm, .string ii, .slice ra 0 rc, .string e0] := e1
    clear hel hb hx
    repeat' ((first | (apply g_sl; (first | (apply ks_nil; refine sl_nil ?_) | (apply ks_move; refine s_move rfl rfl ?_) | (apply ks_bin; refine s_bin rfl rfl rfl ?_; ((((first | (apply kb_add; (refine bb_add ⟨by omega, by omega⟩ ?_)) | refine bb_of rfl ?_))))) | (apply ks_load; (first | (refine s_load rfl rfl ?_; (refine ld_cell rfl ?_)) | ((refine s_load rfl rfl ?_; refine ld_elems e1 rfl ?_)))) | (apply ks_pick; refine s_pick rfl rfl ?_; ((apply kp_f; refine pk_f rfl ?_))) | (apply ks_field; (refine s_field (c_field0 rfl rfl) rfl ?_)) | (apply ks_indexA; (((refine s_indexA (c_indexAddr rfl rfl rfl hlx (by omega) (by omega)) rfl ?_)))) | (apply ks_fn; (refine c_callv rfl rfl rfl (cF _ _ _) rfl rfl ?_)) | (apply ks_bi; ((first | refine s_call (c_len rfl rfl) rfl ?_ | refine s_call (c_len_str rfl rfl) rfl ?_))) | (apply ks_store; ((refine c_storew rfl rfl rfl rfl rfl rfl rfl rfl ?_))) | (apply ks_alloc; refine c_alloc rfl rfl rfl rfl (fun _ => ?_)) | (apply ks_guard; ((refine sl_gd rfl rfl rfl rfl ?_; ((apply gd_t))))))) | (apply sw_seq) | (apply sw_skip) | (apply sw_block) | (apply sw_region) | (refine sw_cd rfl ?_; (first | (apply gd_ft) | (apply gd_dec_t <;> intro hq <;> (try (exfalso; omega))))) | (apply at_thn) | (apply at_inb)))
    all_goals (skip)
    all_goals (exact at_meet (k + 1) ⟨by omega, by omega⟩ (by repeat ((first | exact Le.nil _ | refine Le.cons (by (rfl)) ?_))) (fun _ hw => hw.subs (by repeat ((exact Subs.sub (by repeat ((first | exact List.Sublist.refl _ | refine List.Sublist.cons _ ?_))))))))
  · obtain rfl : k = n := by omega
    repeat' ((first | (apply g_sl; (first | (apply ks_nil; refine sl_nil ?_) | (apply ks_bin; refine s_bin rfl rfl rfl ?_; (((refine bb_of rfl ?_)))) | (apply ks_asgn; refine s_asgn rfl rfl ?_))) | (apply sw_seq) | (apply sw_ret) | (apply sw_exit) | (apply sw_region) | (refine sw_cd rfl ?_; ((apply gd_dec_t <;> intro hq <;> (try (exfalso; omega))))) | (apply at_thn) | (apply at_thn_exit) | (apply at_inb_exit)))
    all_goals (skip)
    refine e_sv (by (exact .inr rfl)) rfl (by repeat ((exact List.Sublist.refl _))) ?_
    rfl
/-- Where a screen's rows can be read. -/
structure ScRd (G : Ctx) (H : List Ent) (s : Scr) (ga : Option Addr) (gn gc : Nat) (oa : Option Addr) (on oc : Nat) (pa : Option Addr) (pn pc : Nat) (X : List (Rx Qd)) : Prop where
  g : RdC G H ga (qds s.C)
  o : RdC G H oa (qds s.D)
  p : RdC G H pa (X.map rxV)
  r : RdX qds G H X
  x : X.map (·.2.2) = s.past
  gn' : gn = s.C.length
  on' : on = s.D.length
  pn' : pn = X.length
  gc' : gn ≤ gc
  oc' : on ≤ oc
/-- What Run hands back. -/
def RunP (G : Ctx) (H : List Ent) (s' : Scr) (v : Value) (H' : List Ent) : Prop :=
  ∃ (ga : Option Addr) (gn gc : Nat) (oa : Option Addr) (on oc : Nat) (pa : Option Addr) (pn pc : Nat) (X : List (Rx Qd)) (E : List Ent), v = .tuple #[.agg (scnC s' ga gn gc oa on oc pa pn pc).toArray, .string ⟨#[]⟩, .int .i64 0] ∧ H' = E ++ H ∧ ScRd G E s' ga gn gc oa on oc pa pn pc X
theorem run_a (G : Ctx) (H : List Ent) (s : Scr) (f : Fre s) (X : List (Rx Qd)) (ga : Option Addr) (gn gc : Nat) (oa : Option Addr) (on oc : Nat) (pa : Option Addr) (pn pc : Nat) (hS : ScRd G H s ga gn gc oa on oc pa pn pc X) (k c m : Int) (ii : ByteArray) (ra : Option Addr) (rc : Nat) (aa : Option Addr) (ac : Nat) [h4 : RdC G H aa (acs [((k, c, m, ii, (ra, rc, []), e0) : Ac)])] (hk : (k = 1 ∧ (0 ≤ c ∧ c ≤ 127) ∧ refWidth c = 1) ∨ (k = 2 ∧ (c = 13 ∨ c = 10))) :
    SC Tryz.prog G 35 [.agg (scnC s ga gn gc oa on oc pa pn pc).toArray, .slice aa 1 ac] H (RunP G H (actS s k c)) := by
  obtain ⟨h1, h2, h3, hr, hX, hgn, hon, hpn, hgc, hoc⟩ := hS
  have cK := fun (H' : List Ent) (hh : ∀ w, Holds G H' w → Holds G H w) => by
    haveI : RdC G H' ga (qds s.C) := ⟨fun w hw => h1.here w (hh w hw)⟩
    haveI : RdC G H' oa (qds s.D) := ⟨fun w hw => h2.here w (hh w hw)⟩
    haveI : RdC G H' pa (X.map rxV) := ⟨fun w hw => h3.here w (hh w hw)⟩
    exact scrCheck_sv G H' s f X ga gn gc oa on oc pa pn pc hgn hgc hon hoc hpn hX (hr.mono hh)
  have cC := fun (H' : List Ent) (hh : ∀ w, Holds G H' w → Holds G H w) => by
    haveI : RdC G H' ga (qds s.C) := ⟨fun w hw => h1.here w (hh w hw)⟩
    haveI : RdC G H' oa (qds s.D) := ⟨fun w hw => h2.here w (hh w hw)⟩
    haveI : RdC G H' pa (X.map rxV) := ⟨fun w hw => h3.here w (hh w hw)⟩
    exact scrClone_sc G H' s f X ga gn gc oa on oc pa pn pc hgn hon hpn hX (hr.mono hh)
  have cA := fun (H' : List Ent) (h : RdC G H' aa (acs [((k, c, m, ii, (ra, rc, []), e0) : Ac)])) => actions_sv G H' [((k, c, m, ii, (ra, rc, []), e0) : Ac)] aa 1 ac rfl rfl (by decide) (fun y hy => by rw [List.mem_singleton] at hy; subst hy; exact ⟨rfl, rfl⟩)
  have e1 : take? ((acs [((k, c, m, ii, (ra, rc, []), e0) : Ac)]).drop ((0 : Int).toNat * 6)) 6 = some [.int .i64 k, .int .i64 c, .int .i64 m, .string ii, .slice ra 0 rc, .string e0] := rfl
  have hlx : (acs [((k, c, m, ii, (ra, rc, []), e0) : Ac)]).length = 1 * 6 := rfl
  generalize acs [((k, c, m, ii, (ra, rc, []), e0) : Ac)] = vs at *
  refine sc_enter2 Tryz.func35 rfl rfl rfl rfl rfl ?_
  repeat' ((first | (apply g_sl; (first | (apply ks_nil; refine sl_nil ?_) | (apply ks_move; refine s_move rfl rfl ?_) | (apply ks_bin; refine s_bin rfl rfl rfl ?_; (((refine bb_of rfl ?_)))) | (apply ks_load; ((refine s_load rfl rfl ?_; (refine ld_whole rfl ?_)))) | (apply ks_asgn; refine s_asgn rfl rfl ?_) | (apply ks_build; (refine s_build (c_build rfl rfl rfl) rfl ?_)) | (apply ks_fn; ((first | refine c_callv rfl rfl rfl (cK _ (fun _ hw => hw.subs (by repeat ((exact Subs.sub (by repeat ((first | exact List.Sublist.refl _ | refine List.Sublist.cons _ ?_)))))))) rfl rfl ?_ | refine c_callv rfl rfl rfl (cA _ inferInstance) rfl rfl ?_ | (refine c_call rfl rfl rfl (cC _ (fun _ hw => hw.subs (by repeat ((exact Subs.sub (by repeat ((first | exact List.Sublist.refl _ | refine List.Sublist.cons _ ?_)))))))) rfl rfl ?_; rintro _ _ ⟨gb2, gc2, ob2, oc2, pa2, pc2, Y, E, rfl, rfl, r1, r2, r3, r4⟩)))) | (apply ks_bi; (refine s_call (c_len rfl rfl) rfl ?_)) | (apply ks_box; refine c_box rfl rfl rfl rfl rfl rfl (fun _ => ?_)) | (apply ks_alloc; refine c_alloc rfl rfl rfl rfl (fun _ => ?_)))) | (apply sw_seq) | (apply sw_skip) | (apply sw_block) | ((fail_if_success (refine g_reg (id := 9) ?_)); apply sw_region) | (refine sw_cd rfl ?_; ((apply gd_ft))) | (apply at_thn)))
  all_goals (skip)
  rename_i b2 b4 tb
  have cT := fun (K' : List Ent) => act_sc G K' E s k c m ii e0 ra 0 rc tb gb2 gn gc2 (some ⟨ob2, 0, none⟩) on oc2 pa2 Y.length pc2 ByteArray.empty Y hk f.pl hgn r3 r2 r1 rfl
  have hfs := f.act hk
  have hsz := act_size s k c
  have hCl : (actS s k c).C.length = s.C.length := by rw [hfs.pl.g.len, f.pl.g.len, hsz.1, hsz.2.1]
  rw [← hCl] at hgn
  rw [← hsz.2.2] at hon
  have hD : qds s.D = qds (actS s k c).D := by rw [hsz.2.2]
  rw [hD]
  generalize actS s k c = s2 at *
  unfold tmH TmP at cT
  clear cK cC cA
  refine sw_loopN 2 (srd_succ ?_)
  repeat' ((first | (apply g_sl; (first | (apply ks_nil; refine sl_nil ?_) | (apply ks_move; refine s_move rfl rfl ?_) | (apply ks_bin; refine s_bin rfl rfl rfl ?_; ((((first | (apply kb_add; (refine bb_add ⟨by omega, by omega⟩ ?_)) | refine bb_of rfl ?_))))) | (apply ks_load; (first | (refine s_load rfl rfl ?_; (refine ld_whole rfl ?_)) | ((refine s_load rfl rfl ?_; refine ld_elems e1 rfl ?_)))) | (apply ks_indexA; (((refine s_indexA (c_indexAddr rfl rfl rfl hlx (by omega) (by omega)) rfl ?_)))) | (apply ks_fn; ((refine c_call rfl rfl rfl (sc_pull3 (tb := tb) (a1 := some ⟨gb2, 0, none⟩) (a2 := pa2) (cT _)) rfl rfl ?_; rintro _ _ ⟨E2, pa3, pc3, X3, rfl, rfl, q1, q2, q3, q4⟩))) | (apply ks_store; ((refine c_storew rfl rfl rfl rfl rfl rfl rfl rfl ?_))) | (apply ks_alloc; refine c_alloc rfl rfl rfl rfl (fun _ => ?_)))) | (apply sw_seq) | (apply at_srd) | (apply sw_skip) | (apply sw_exit) | (apply sw_block) | ((fail_if_success (refine g_reg (id := 13) ?_)); apply sw_region) | (refine sw_cd rfl ?_; (first | (apply gd_t) | (apply gd_ft))) | (apply at_thn) | (apply at_thn_exit) | (apply at_inb) | (apply at_inb_exit)))
  all_goals (skip)
  rename_i b11
  clear cT
  repeat' ((first | (apply g_sl; (first | (apply ks_nil; refine sl_nil ?_) | (apply ks_store; ((refine c_storew rfl rfl rfl rfl rfl rfl rfl rfl ?_))))) | (apply g_atso; refine so_back (k := 0) (fun _ hw => hw.subs (by repeat ((first | refine Subs.cons (by repeat constructor) ?_ | exact Subs.sub (by repeat ((first | exact List.Sublist.refl _ | refine List.Sublist.cons _ ?_))))))) ?_) | (apply g_sot; (first | (refine sot_skip rfl ?_) | (refine sot_take rfl rfl rfl rfl (by kernel_rfl) (by decide +kernel) (by decide +kernel) ?_; ((first | (apply ky_move; refine sy_val (y_move rfl rfl) ?_) | (apply ky_load; ((refine sy_load rfl ?_; (first | refine ld_cell rfl ?_ | refine ld_part rfl rfl ?_)))) | (apply ky_asgn; refine sy_val (y_assign rfl rfl) ?_) | (apply ky_field; (refine sy_val (c_field0 rfl rfl) ?_)) | (apply ky_nilc; refine sy_val (y_nilCheck rfl rfl) ?_)))) | (refine sot_next rfl ?_) | (refine so_done (by decide +kernel) ?_) | (refine sot_all (by kernel_rfl) ?_))) | (apply g_soa; (first | (refine soa_end rfl) | (refine soa_no (by decide +kernel) ?_) | (refine soa_yes rfl ?_ ?_))) | (apply sw_ret) | (apply at_thn) | ((refine g_reg (id := 13) ?_; refine c_drawnoB (b := b4) ?_))))
  all_goals
    have hE : ∀ w, Holds G (.own 104 4 (some ⟨gb2, 0, none⟩) gn gc2 (qds s2.C) :: (E2 ++ (E ++ [.own 104 4 (some ⟨ob2, 0, none⟩) on oc2 (qds s2.D)]))) w → Holds G (E2 ++ E) w := fun w hw => hw.sub (by
      exact List.Sublist.cons _ ((List.Sublist.refl E2).append (List.sublist_append_left E _)))
    refine e_scc ((.own 104 4 (some ⟨gb2, 0, none⟩) gn gc2 (qds s2.C) :: (E2 ++ (E ++ [.own 104 4 (some ⟨ob2, 0, none⟩) on oc2 (qds s2.D)]))) ++ H) (.inr rfl) rfl rfl rfl (fun w hw => hw.sub (by
      rw [List.cons_append, List.append_assoc, List.append_assoc]
      exact List.Sublist.cons _ (List.Sublist.cons _ (List.Sublist.cons_cons _ ((List.Sublist.refl E2).append (List.Sublist.cons _ ((List.Sublist.refl E).append (List.Sublist.cons_cons _ (List.Sublist.cons _ (List.Sublist.refl H)))))))))) ?_
    exact ⟨some ⟨gb2, 0, none⟩, gn, gc2, some ⟨ob2, 0, none⟩, on, oc2, pa3, X3.length, pc3, X3, _, rfl, rfl, ⟨inferInstanceAs (RdC G (.own 104 4 (some ⟨gb2, 0, none⟩) gn gc2 (qds s2.C) :: _) _ _), ⟨Rd.mem (e := 104) (size := 4) (n := on) (c := oc2) (by simp)⟩, ⟨fun w hw => q1.here w (hE w hw)⟩, q2.mono hE, q3, hgn, hon, rfl, r3, r4⟩⟩
theorem run_b (G : Ctx) (H : List Ent) (s : Scr) (f : Fre s) (X : List (Rx Qd)) (ga : Option Addr) (gn gc : Nat) (oa : Option Addr) (on oc : Nat) (pa : Option Addr) (pn pc : Nat) (hS : ScRd G H s ga gn gc oa on oc pa pn pc X) (m m2 : Int) (ii ii2 : ByteArray) (ra ra2 : Option Addr) (rc rc2 : Nat) (aa : Option Addr) (ac : Nat) [h4 : RdC G H aa (acs [((2, 13, m, ii, (ra, rc, []), e0) : Ac), ((2, 10, m2, ii2, (ra2, rc2, []), e0) : Ac)])] :
    SC Tryz.prog G 35 [.agg (scnC s ga gn gc oa on oc pa pn pc).toArray, .slice aa 2 ac] H (RunP G H (indexS (homeS s))) := by
  obtain ⟨h1, h2, h3, hr, hX, hgn, hon, hpn, hgc, hoc⟩ := hS
  have cK := fun (H' : List Ent) (hh : ∀ w, Holds G H' w → Holds G H w) => by
    haveI : RdC G H' ga (qds s.C) := ⟨fun w hw => h1.here w (hh w hw)⟩
    haveI : RdC G H' oa (qds s.D) := ⟨fun w hw => h2.here w (hh w hw)⟩
    haveI : RdC G H' pa (X.map rxV) := ⟨fun w hw => h3.here w (hh w hw)⟩
    exact scrCheck_sv G H' s f X ga gn gc oa on oc pa pn pc hgn hgc hon hoc hpn hX (hr.mono hh)
  have cC := fun (H' : List Ent) (hh : ∀ w, Holds G H' w → Holds G H w) => by
    haveI : RdC G H' ga (qds s.C) := ⟨fun w hw => h1.here w (hh w hw)⟩
    haveI : RdC G H' oa (qds s.D) := ⟨fun w hw => h2.here w (hh w hw)⟩
    haveI : RdC G H' pa (X.map rxV) := ⟨fun w hw => h3.here w (hh w hw)⟩
    exact scrClone_sc G H' s f X ga gn gc oa on oc pa pn pc hgn hon hpn hX (hr.mono hh)
  have cA := fun (H' : List Ent) (h : RdC G H' aa (acs [((2, 13, m, ii, (ra, rc, []), e0) : Ac), ((2, 10, m2, ii2, (ra2, rc2, []), e0) : Ac)])) => actions_sv G H' [((2, 13, m, ii, (ra, rc, []), e0) : Ac), ((2, 10, m2, ii2, (ra2, rc2, []), e0) : Ac)] aa 2 ac rfl rfl (by decide) (fun y hy => by
    rcases List.mem_cons.1 hy with rfl | hy
    · exact ⟨rfl, rfl⟩
    · rw [List.mem_singleton] at hy; subst hy; exact ⟨rfl, rfl⟩)
  have e1 : take? ((acs [((2, 13, m, ii, (ra, rc, []), e0) : Ac), ((2, 10, m2, ii2, (ra2, rc2, []), e0) : Ac)]).drop ((0 : Int).toNat * 6)) 6 = some [.int .i64 2, .int .i64 13, .int .i64 m, .string ii, .slice ra 0 rc, .string e0] := rfl
  have e2 : take? ((acs [((2, 13, m, ii, (ra, rc, []), e0) : Ac), ((2, 10, m2, ii2, (ra2, rc2, []), e0) : Ac)]).drop (((0 : Int) + 1).toNat * 6)) 6 = some [.int .i64 2, .int .i64 10, .int .i64 m2, .string ii2, .slice ra2 0 rc2, .string e0] := rfl
  have hlx : (acs [((2, 13, m, ii, (ra, rc, []), e0) : Ac), ((2, 10, m2, ii2, (ra2, rc2, []), e0) : Ac)]).length = 2 * 6 := rfl
  generalize acs [((2, 13, m, ii, (ra, rc, []), e0) : Ac), ((2, 10, m2, ii2, (ra2, rc2, []), e0) : Ac)] = vs at *
  refine sc_enter2 Tryz.func35 rfl rfl rfl rfl rfl ?_
  repeat' ((first | (apply g_sl; (first | (apply ks_nil; refine sl_nil ?_) | (apply ks_move; refine s_move rfl rfl ?_) | (apply ks_bin; refine s_bin rfl rfl rfl ?_; (((refine bb_of rfl ?_)))) | (apply ks_load; ((refine s_load rfl rfl ?_; (refine ld_whole rfl ?_)))) | (apply ks_asgn; refine s_asgn rfl rfl ?_) | (apply ks_build; (refine s_build (c_build rfl rfl rfl) rfl ?_)) | (apply ks_fn; ((first | refine c_callv rfl rfl rfl (cK _ (fun _ hw => hw.subs (by repeat ((exact Subs.sub (by repeat ((first | exact List.Sublist.refl _ | refine List.Sublist.cons _ ?_)))))))) rfl rfl ?_ | refine c_callv rfl rfl rfl (cA _ inferInstance) rfl rfl ?_ | (refine c_call rfl rfl rfl (cC _ (fun _ hw => hw.subs (by repeat ((exact Subs.sub (by repeat ((first | exact List.Sublist.refl _ | refine List.Sublist.cons _ ?_)))))))) rfl rfl ?_; rintro _ _ ⟨gb2, gc2, ob2, oc2, pa2, pc2, Y, E, rfl, rfl, r1, r2, r3, r4⟩)))) | (apply ks_bi; (refine s_call (c_len rfl rfl) rfl ?_)) | (apply ks_box; refine c_box rfl rfl rfl rfl rfl rfl (fun _ => ?_)) | (apply ks_alloc; refine c_alloc rfl rfl rfl rfl (fun _ => ?_)))) | (apply sw_seq) | (apply sw_skip) | (apply sw_block) | ((fail_if_success (refine g_reg (id := 9) ?_)); apply sw_region) | (refine sw_cd rfl ?_; ((apply gd_ft))) | (apply at_thn)))
  all_goals (skip)
  rename_i b2 b4 tb
  have cT1 := fun (K' : List Ent) => act13_sc G K' s m ii e0 ra 0 rc tb gb2 gn gc2 (some ⟨ob2, 0, none⟩) on oc2 pa2 Y.length pc2 ByteArray.empty Y f.pl
  have fh := f.home
  have hCh : (homeS s).C = s.C := rfl
  have cT := fun (K' : List Ent) => act_sc G K' E (homeS s) 2 10 m2 ii2 e0 ra2 0 rc2 tb gb2 gn gc2 (some ⟨ob2, 0, none⟩) on oc2 pa2 Y.length pc2 ByteArray.empty Y (.inr ⟨rfl, .inr rfl⟩) fh.pl hgn r3 r2 r1 rfl
  have e10 : actS (homeS s) 2 10 = indexS (homeS s) := rfl
  have hfs := fh.act (k := 2) (c := 10) (.inr ⟨rfl, .inr rfl⟩)
  have hsz := act_size (homeS s) 2 10
  rw [e10] at cT hfs hsz
  have hCl : (indexS (homeS s)).C.length = s.C.length := by rw [hfs.pl.g.len, f.pl.g.len, hsz.1, hsz.2.1]; rfl
  rw [← hCl] at hgn
  have hD0 : (indexS (homeS s)).D = s.D := hsz.2.2
  rw [← hD0] at hon
  have hD : qds s.D = qds (indexS (homeS s)).D := by rw [hD0]
  rw [hD]
  generalize indexS (homeS s) = s2 at *
  unfold tmH TmP at cT
  unfold tmH at cT1
  clear cK cC cA
  refine sw_loopN 3 (srd_succ ?_)
  repeat' ((first | (apply g_sl; (first | (apply ks_nil; refine sl_nil ?_) | (apply ks_move; refine s_move rfl rfl ?_) | (apply ks_bin; refine s_bin rfl rfl rfl ?_; ((((first | (apply kb_add; (refine bb_add ⟨by omega, by omega⟩ ?_)) | refine bb_of rfl ?_))))) | (apply ks_load; (first | (refine s_load rfl rfl ?_; (refine ld_whole rfl ?_)) | ((refine s_load rfl rfl ?_; (first | refine ld_elems e1 rfl ?_ | refine ld_elems e2 rfl ?_))))) | (apply ks_indexA; (((refine s_indexA (c_indexAddr rfl rfl rfl hlx (by omega) (by omega)) rfl ?_)))) | (apply ks_fn; ((first | (refine c_call rfl rfl rfl (sc_pull3 (tb := tb) (a1 := some ⟨gb2, 0, none⟩) (a2 := pa2) (cT1 _)) rfl rfl ?_; rintro _ _ ⟨rfl, rfl⟩) | (refine c_call rfl rfl rfl (sc_pull3 (tb := tb) (a1 := some ⟨gb2, 0, none⟩) (a2 := pa2) (cT _)) rfl rfl ?_; rintro _ _ ⟨E2, pa3, pc3, X3, rfl, rfl, q1, q2, q3, q4⟩)))) | (apply ks_store; ((refine c_storew rfl rfl rfl rfl rfl rfl rfl rfl ?_))) | (apply ks_alloc; refine c_alloc rfl rfl rfl rfl (fun _ => ?_)))) | (apply sw_seq) | (apply at_srd) | (apply sw_skip) | (apply sw_exit) | (apply sw_block) | ((fail_if_success (refine g_reg (id := 13) ?_)); apply sw_region) | (refine sw_cd rfl ?_; (first | (apply gd_t) | (apply gd_ft))) | (apply at_thn) | (apply at_thn_exit) | (apply at_inb) | (apply at_inb_exit)))
  all_goals (skip)
  rename_i b11 b12
  clear cT cT1
  repeat' ((first | (apply g_sl; (first | (apply ks_nil; refine sl_nil ?_) | (apply ks_store; ((refine c_storew rfl rfl rfl rfl rfl rfl rfl rfl ?_))))) | (apply g_atso; refine so_back (k := 0) (fun _ hw => hw.subs (by repeat ((first | refine Subs.cons (by repeat constructor) ?_ | exact Subs.sub (by repeat ((first | exact List.Sublist.refl _ | refine List.Sublist.cons _ ?_))))))) ?_) | (apply g_sot; (first | (refine sot_skip rfl ?_) | (refine sot_take rfl rfl rfl rfl (by kernel_rfl) (by decide +kernel) (by decide +kernel) ?_; ((first | (apply ky_move; refine sy_val (y_move rfl rfl) ?_) | (apply ky_load; ((refine sy_load rfl ?_; (first | refine ld_cell rfl ?_ | refine ld_part rfl rfl ?_)))) | (apply ky_asgn; refine sy_val (y_assign rfl rfl) ?_) | (apply ky_field; (refine sy_val (c_field0 rfl rfl) ?_)) | (apply ky_nilc; refine sy_val (y_nilCheck rfl rfl) ?_)))) | (refine sot_next rfl ?_) | (refine so_done (by decide +kernel) ?_) | (refine sot_all (by kernel_rfl) ?_))) | (apply g_soa; (first | (refine soa_end rfl) | (refine soa_no (by decide +kernel) ?_) | (refine soa_yes rfl ?_ ?_))) | (apply sw_ret) | (apply at_thn) | ((refine g_reg (id := 13) ?_; refine c_drawnoB (b := b4) ?_))))
  all_goals
    have hE : ∀ w, Holds G (.own 104 4 (some ⟨gb2, 0, none⟩) gn gc2 (qds s2.C) :: (E2 ++ (E ++ [.own 104 4 (some ⟨ob2, 0, none⟩) on oc2 (qds s2.D)]))) w → Holds G (E2 ++ E) w := fun w hw => hw.sub (by
      exact List.Sublist.cons _ ((List.Sublist.refl E2).append (List.sublist_append_left E _)))
    refine e_scc ((.own 104 4 (some ⟨gb2, 0, none⟩) gn gc2 (qds s2.C) :: (E2 ++ (E ++ [.own 104 4 (some ⟨ob2, 0, none⟩) on oc2 (qds s2.D)]))) ++ H) (.inr rfl) rfl rfl rfl (fun w hw => hw.sub (by
      rw [List.cons_append, List.append_assoc, List.append_assoc]
      exact List.Sublist.cons _ (List.Sublist.cons _ (List.Sublist.cons_cons _ ((List.Sublist.refl E2).append (List.Sublist.cons _ (List.Sublist.cons _ ((List.Sublist.refl E).append (List.Sublist.cons_cons _ (List.Sublist.cons _ (List.Sublist.refl H))))))))))) ?_
    exact ⟨some ⟨gb2, 0, none⟩, gn, gc2, some ⟨ob2, 0, none⟩, on, oc2, pa3, X3.length, pc3, X3, _, rfl, rfl, ⟨inferInstanceAs (RdC G (.own 104 4 (some ⟨gb2, 0, none⟩) gn gc2 (qds s2.C) :: _) _ _), ⟨Rd.mem (e := 104) (size := 4) (n := on) (c := oc2) (by simp)⟩, ⟨fun w hw => q1.here w (hE w hw)⟩, q2.mono hE, q3, hgn, hon, rfl, r3, r4⟩⟩
end Go.Proofs.YtmbfechiallppaaGreatDoor
end
section
namespace Go.Proofs.YtmbfechiallppaaGreatDoor
open Go Go.RowKit Go.Fw Go.Sx
set_option maxRecDepth 100000
set_option maxHeartbeats 1000000
attribute [local irreducible] SW SL SQ AtQ SV SC BB LD PK Yields SO SOT SOA SY
theorem nums_lt (b : ByteArray) (i : Nat) : 0 ≤ (nums b).getD i 0 ∧ (nums b).getD i 0 ≤ 255 := by
  rcases Nat.lt_or_ge i (nums b).length with h | h
  · rw [List.getD_eq_getElem?_getD, List.getElem?_eq_getElem h]; exact nums_bound b _ (List.getElem_mem h)
  · rw [List.getD_eq_getElem?_getD, List.getElem?_eq_none h]; exact ⟨by decide, by decide⟩
end Go.Proofs.YtmbfechiallppaaGreatDoor
end
section
namespace Go.Proofs.YtmbfechiallppaaGreatDoor
open Go Go.RowKit Go.Fw Go.Sx
/-- A byte that a name may have. -/
def nameByte (x : Int) : Bool := decide (33 ≤ x ∧ x ≤ 126)
/-- A text that is a name. -/
def nameB (s : ByteArray) : Bool := decide (1 ≤ s.size ∧ s.size ≤ 40) && (nums s).all nameByte
/-- Name i is one, and stands nowhere ahead. -/
def okAt (l : List ByteArray) (i : Nat) : Bool := nameB (l.getD i ByteArray.empty) && decide (idxStrsAt l (l.getD i ByteArray.empty) = i)
def okAll (l : List ByteArray) (k : Nat) : Bool := (List.range k).all (okAt l)
theorem okAll_zero (l : List ByteArray) : okAll l 0 = true := rfl
theorem okAll_succ (l : List ByteArray) (k : Nat) : okAll l (k + 1) = (okAll l k && okAt l k) := by
  unfold okAll
  rw [List.range_succ, List.all_append]
  simp
theorem okAll_bad {l : List ByteArray} {k m : Nat} (h : okAt l k = false) (hk : k < m) : okAll l m = false := by
  unfold okAll
  rw [List.all_eq_false]
  exact ⟨k, List.mem_range.2 hk, by rw [h]; simp⟩
/-- What is wrong with names of which the n-th said last. -/
def sortsE (l : List ByteArray) (at_ : Int) : Int := if ¬ (1 ≤ l.length ∧ l.length ≤ 8) then 1 else if okAll l l.length = false then 4 else if ¬ (0 ≤ at_ ∧ at_ ≤ l.length) then 1 else 0
theorem sortsE_len {l : List ByteArray} {t : Int} (h : ¬ (1 ≤ l.length ∧ l.length ≤ 8)) : sortsE l t = 1 := if_pos h
theorem sortsE_bad {l : List ByteArray} {t : Int} (h : 1 ≤ l.length ∧ l.length ≤ 8) (h2 : okAll l l.length = false) : sortsE l t = 4 := by
  unfold sortsE; rw [if_neg (fun e => e h), if_pos h2]
theorem sortsE_at {l : List ByteArray} {t : Int} (h : 1 ≤ l.length ∧ l.length ≤ 8) (h2 : okAll l l.length = true) (h3 : ¬ (0 ≤ t ∧ t ≤ l.length)) : sortsE l t = 1 := by
  unfold sortsE; rw [if_neg (fun e => e h), if_neg (by rw [h2]; simp), if_pos h3]
theorem sortsE_ok {l : List ByteArray} {t : Int} (h : 1 ≤ l.length ∧ l.length ≤ 8) (h2 : okAll l l.length = true) (h3 : 0 ≤ t ∧ t ≤ l.length) : sortsE l t = 0 := by
  unfold sortsE; rw [if_neg (fun e => e h), if_neg (by rw [h2]; simp), if_neg (fun e => e h3)]
/-- A name stands first at its own place just where it stands nowhere ahead. -/
theorem idx_self (l : List ByteArray) (i : Nat) (hi : i < l.length) : idxStrsAt l (l.getD i ByteArray.empty) = i ↔ idxStrsIn (l.take i) (l.getD i ByteArray.empty) = false := by
  have hget : ∀ j, j < i → (l.take i).getD j ByteArray.empty = l.getD j ByteArray.empty := fun j hj => by
    simp only [List.getD_eq_getElem?_getD, List.getElem?_take_of_lt hj]
  have hlen : (l.take i).length = i := by rw [List.length_take]; omega
  constructor
  · intro e
    rw [Bool.eq_false_iff]
    intro hm
    obtain ⟨j, hj, ej⟩ := List.getElem_of_mem ((idxStrsIn_iff _ _).1 hm)
    have hji : j < i := by omega
    have e2 : (l.take i).getD j ByteArray.empty = (l.take i)[j] := by simp [List.getD, List.getElem?_eq_getElem hj]
    have e3 : l.getD i ByteArray.empty = l.getD j ByteArray.empty := by rw [← hget j hji, e2, ej]
    have hle : idxStrsAt l (l.getD i ByteArray.empty) ≤ j := by
      unfold idxStrsAt
      split
      · have : l.findIdx (fun x => decide (x = l.getD i ByteArray.empty)) ≤ j := by
          refine Nat.le_of_not_lt fun hlt => ?_
          have h1 := List.not_of_lt_findIdx hlt
          have h2 : l.getD j ByteArray.empty = l[j]'(by omega) := by simp [List.getD, List.getElem?_eq_getElem (show j < l.length by omega)]
          exact absurd (h2.symm.trans e3.symm) (of_decide_eq_false h1)
        omega
      · omega
    omega
  · intro hm
    refine idxStrsAt_yes l _ i (fun j hj e => ?_) rfl hi
    rw [Bool.eq_false_iff] at hm
    refine hm ((idxStrsIn_iff _ _).2 ?_)
    rw [e, ← hget j hj]
    have hj' : j < (l.take i).length := by omega
    have e2 : (l.take i).getD j ByteArray.empty = (l.take i)[j] := by simp [List.getD, List.getElem?_eq_getElem hj']
    rw [e2]
    exact List.getElem_mem hj'
theorem okAt_iff (l : List ByteArray) (i : Nat) (hi : i < l.length) : okAt l i = (nameB (l.getD i ByteArray.empty) && !idxStrsIn (l.take i) (l.getD i ByteArray.empty)) := by
  unfold okAt
  congr 1
  have := idx_self l i hi
  cases h : idxStrsIn (l.take i) (l.getD i ByteArray.empty)
  · simpa using this.2 h
  · have h2 : ¬ idxStrsAt l (l.getD i ByteArray.empty) = i := fun e => by rw [this.1 e] at h; cases h
    simpa using h2
attribute [irreducible] nameB okAt okAll sortsE
end Go.Proofs.YtmbfechiallppaaGreatDoor
end
section
namespace Go.Proofs.YtmbfechiallppaaGreatDoor
open Go Go.RowKit Go.Fw Go.Sx
theorem size_nil {s : ByteArray} (h : s.size = 0) : s = ⟨#[]⟩ := by
  obtain ⟨d⟩ := s
  congr 1
  exact Array.eq_empty_of_size_eq_zero h
end Go.Proofs.YtmbfechiallppaaGreatDoor
end
