/- More rules: copy of elements of several cells. -/
import Derived.Test.YtflmckoolagikaaDoorSxB
import Derived.Lib.AppendStr
import Derived.ArgAppend
namespace Go.Sx
open Go Go.RowKit Go.Fw
theorem run_copy_rows {P : Program} (w : World) (dT sT ty elem : TypeId) (sz g o dLen dCap : Nat) (a : Addr) (sLen sCap : Nat) (cur : Array Value) (t : TypeId) (cs : List Value)
    (hu : P.underlying dT = some (.slice elem)) (hs : (P.info? elem).map (·.size) = some sz)
    (hg : w.heap[g]? = some (.cells cur t (0, 0))) (hn : cs.length = Nat.min sLen dLen * sz)
    (hsrc : ∀ j v, cs[j]? = some v → w.cell? (a.add j) = some v) (hfit : o + cs.length ≤ cur.size) (h1 : ∀ v ∈ cs, v.oneCell' = true) :
    (Builtin.copy_ #[dT, sT] ty #[.slice (some ⟨g, o, none⟩) dLen dCap, .slice (some a) sLen sCap]).run P w =
      .ok (goInt (Nat.min sLen dLen)) (w.setRow g (cur.toList.take o ++ cs ++ cur.toList.drop (o + cs.length)).toArray) := by
  have hl := run_loadCells_list (P := P) w a cs hsrc
  have hst := run_storeCells_at P g o t cs 0 cur w hg (by simpa using hfit) h1
  cases hq : P.info? elem with
  | none => simp [hq] at hs
  | some i =>
    have hi : i.size = sz := by simpa [hq] using hs
    simp [Builtin.copy_, run_underlying hu, Builtin.lenOf, Builtin.firstCells, sizeOf, typeInfo, hq, hi, ← hn, hl, hst]
theorem run_copy_none' {P : Program} (w : World) (dT sT ty elem : TypeId) (sz : Nat) (d a : Option Addr) (dLen dCap sLen sCap : Nat) (hu : P.underlying dT = some (.slice elem)) (hs : (P.info? elem).map (·.size) = some sz) (hn : Nat.min sLen dLen = 0) :
    (Builtin.copy_ #[dT, sT] ty #[.slice d dLen dCap, .slice a sLen sCap]).run P w = .ok (goInt 0) w := by
  cases hq : P.info? elem with
  | none => simp [hq] at hs
  | some i =>
    have hl : ∀ (x : Addr), (loadCells x 0).run P w = .ok #[] w := fun x => by simpa using run_loadCells_list (P := P) w x [] (by simp)
    cases d <;> cases a <;> simp [Builtin.copy_, run_underlying hu, Builtin.lenOf, Builtin.firstCells, sizeOf, typeInfo, hq, hn, storeCells, hl]
section
variable {P : Program} {G : Ctx} {n : Nat} {ops : Array Oper} {Q : Post} {s : Fm} {H : List Ent} {o : Oper} {rest : List Oper}
/-- copy of elements of several cells, into a row that is held. -/
theorem c_copyA {x y : Operand} {dT sT e sz bytes dl dc sl sc len c b off m d : Nat} {a2 : Option Addr} {xs ys : List Value} {H' : List Ent} (hg : o.guard = none) (ho : o.op = .call { callee := .builtin .copy, args := #[x, y], argTypes := #[dT, sT] }) [hT : SliceT P dT e sz bytes] (hx : ev s x = some (.slice (some ⟨b, off, none⟩) dl dc)) (hy : ev s y = some (.slice a2 sl sc)) [hp : PickOwn H (some ⟨b, 0, none⟩) e sz len c xs H'] [hr : RdC G H a2 ys]
    (hm : m = min sl dl) (hys : m * sz ≤ ys.length) (hfit : off + m * sz ≤ len * sz) (h1 : (ys.take (m * sz)).all (·.oneCell') = true) (h1d : o.dst = some d) (h2d : Nat.blt d n = true)
    (hk : SL P G n ops Q rest ((d, .int .i64 m) :: s) (.own e sz (some ⟨b, 0, none⟩) len c (over xs off (ys.take (m * sz))) :: H')) : SL P G n ops Q (o :: rest) s H := by
  have hd := okd (n := n) h1d h2d
  simp only [← updd h1d] at hk
  refine sl_op (.inl hg) fun act w ha hw K hK => ?_
  have hr' := hr.here w hw
  have hw := hw.pick hp.here
  have hown : w.ownsRow G.B e sz (.slice (some ⟨b, 0, none⟩) len c) len xs := hw.ok _ List.mem_cons_self
  have hsz := hT.size
  have hu := hT.here.1
  have hsz0 := hT.here.2.1
  unfold Oper.wp execOp
  simp only [ho, resolve, invoke, builtin, Sem.run_bind, Sem.run_pure, Result.andThen_ok, List.map_toArray, List.map_cons, List.map_nil, ha.ev hx, ha.ev hy]
  rcases Nat.eq_zero_or_pos m with h0 | h0
  · have hrun := run_copy_none' (P := P) w dT sT o.type e sz (some ⟨b, off, none⟩) a2 dl dc sl sc hu hsz (by rw [← h0]; exact hm.symm)
    simp only [hrun, Result.andThen_ok]
    subst h0
    have e1 : over xs off (ys.take (0 * sz)) = xs := by simp [over]
    rw [e1] at hk
    exact hK _ _ (hk _ _ (ha.put _ _ hd) hw)
  · have hpos : 0 < m * sz := Nat.mul_pos h0 hsz0
    obtain ⟨hlen, ⟨hv, hz⟩ | ⟨g, cap, cur, hv, hB, hh, hn, hmx, hs, ht⟩⟩ := hown
    · subst hz
      rw [Nat.zero_mul] at hfit
      omega
    · obtain ⟨rfl, rfl⟩ : b = g ∧ c = cap := by
        simp only [Value.slice.injEq, Option.some.injEq, Addr.mk.injEq, and_true, true_and] at hv
        exact hv
      obtain ⟨b2, off2, rfl, hc2⟩ := At.someAt hr' (by omega)
      have hcl : (ys.take (m * sz)).length = m * sz := by rw [List.length_take]; omega
      have hcur2 : xs.length ≤ cur.toList.length := by rw [← ht, List.length_take]; exact Nat.min_le_right _ _
      have hmm : Nat.min sl dl = m := hm.symm
      have hrun := run_copy_rows (P := P) w dT sT o.type e sz b off dl dc ⟨b2, off2, none⟩ sl sc cur e (ys.take (m * sz)) hu hsz hh (by rw [hcl, hmm]) (fun j v hj => by
        have hj' : j < m * sz := by
          have := (List.getElem?_eq_some_iff.1 hj).1
          rw [hcl] at this
          exact this
        rw [Addr.add_mid, hc2 j (by omega)]
        rw [List.getElem?_take_of_lt hj'] at hj
        exact hj) (by rw [hcl, ← Array.length_toList]; omega) (fun v hv => List.all_eq_true.1 h1 v hv)
      rw [hmm] at hrun
      simp only [hrun, Result.andThen_ok]
      have hov : (cur.toList.take off ++ ys.take (m * sz) ++ cur.toList.drop (off + (ys.take (m * sz)).length)) = over cur.toList off (ys.take (m * sz)) := rfl
      rw [hov]
      have hl : off + (ys.take (m * sz)).length ≤ xs.length := by rw [hcl, hlen]; exact hfit
      have hcl2 : off + (ys.take (m * sz)).length ≤ cur.toList.length := by omega
      have e2 : (over cur.toList off (ys.take (m * sz))).take (len * sz) = over xs off (ys.take (m * sz)) := by
        have h4 : off + (ys.take (m * sz)).length ≤ len * sz := by rw [← hlen]; exact hl
        unfold over
        rw [← ht, List.take_take, Nat.min_eq_left (by omega), List.drop_take]
        have h3 : (cur.toList.take off).length = off := by rw [List.length_take]; omega
        rw [List.take_append, List.take_of_length_le (by rw [List.length_append, h3]; omega)]
        congr 2
        rw [List.length_append, h3]
      have hw' : Holds G (.own e sz (some ⟨b, 0, none⟩) len c (over xs off (ys.take (m * sz))) :: H') (w.setRow b (over cur.toList off (ys.take (m * sz))).toArray) := by
        obtain ⟨hap, hapH⟩ := List.pairwise_cons.1 hw.apart
        refine ⟨below_setRow hw.below hB _, by simpa using hw.base, fun z hz => ?_, List.pairwise_cons.2 ⟨fun y hy k hk => hap y hy k hk, hapH⟩⟩
        rcases List.mem_cons.1 hz with rfl | hz
        · refine ⟨?_, .inr ⟨b, c, (over cur.toList off (ys.take (m * sz))).toArray, rfl, hB, setRow_heap w b _ _ e (0, 0) hh, hn, hmx, ?_, by rw [List.toList_toArray]; exact e2⟩⟩
          · rw [over_len hl]; exact hlen
          · rw [List.size_toArray, over_len hcl2, Array.length_toList]; exact hs
        · exact Ent.ok_of (hw.ok z (List.mem_cons_of_mem _ hz)) fun j hj => setRow_other w b j _ (fun e => hap z hz b rfl (e ▸ hj))
      exact hK _ _ (hk _ _ (ha.put _ _ hd) hw')
end
end Go.Sx
/- More rules: pieces of a piece of a row that is held, by their place. -/
namespace Go.Sx
open Go Go.RowKit Go.Fw
section
variable {P : Program} {G : Ctx} {n : Nat} {ops : Array Oper} {Q : Post} {s : Fm} {H : List Ent} {o : Oper} {rest : List Oper}
/-- Where a piece begins: a piece at the very end stays where the whole is. -/
def offO (off l c sz : Nat) : Nat := if c = l then off else off + l * sz
theorem y_sliceO {t e sz bytes : Nat} {x : Operand} {lo hi : Option Operand} {b off len c : Nat} {l h : Int} (ho : o.op = .slice t x lo hi none) [hT : SliceT P t e sz bytes] (hx : ev s x = some (.slice (some ⟨b, off, none⟩) len c)) (hl : bnd s 0 lo = some l) (hh : bnd s len hi = some h) (h0 : 0 ≤ l) (h1 : l ≤ h) (h2 : h ≤ c) : Yields P G n s H o (.slice (some ⟨b, offO off l.toNat c sz, none⟩) (h.toNat - l.toNat) (c - l.toNat)) := fun act w ha _ => by
  obtain ⟨hu, hsz, -, -⟩ := hT.here
  have hS := hT.size
  unfold execOp; rw [ho]; simp only [ha.ev hx]
  refine run_value ?_
  have hb := run_bounds (P := P) (isSl := true) (w := w) (cap := c) ha hl hh h0 h1 h2
  cases hq : P.info? e with
  | none => simp [hq] at hS
  | some inf =>
    have hs : inf.size = sz := by simpa [hq] using hS
    have hz : (sizeOf e).run P w = .ok sz w := by simp [sizeOf, typeInfo, program, Sem.run, hq, hs]
    simp only [Instr.sliceAt, Sem.run_bind, run_underlying hu, Result.andThen_ok, Instr.slice, Option.map_none]
    unfold offO
    by_cases hne : c = l.toNat
    · subst hne
      simp [hb, hz, Sem.run]
    · simp [hb, hz, Sem.run, hne, Addr.add_mid]
theorem y_sliceOv {t e sz bytes : Nat} {x : Operand} {lo hi : Option Operand} {b off len c O : Nat} {l h : Int} (hO : offO off l.toNat c sz = O) (ho : o.op = .slice t x lo hi none) [hT : SliceT P t e sz bytes] (hx : ev s x = some (.slice (some ⟨b, off, none⟩) len c)) (hl : bnd s 0 lo = some l) (hh : bnd s len hi = some h) (h0 : 0 ≤ l) (h1 : l ≤ h) (h2 : h ≤ c) : Yields P G n s H o (.slice (some ⟨b, O, none⟩) (h.toNat - l.toNat) (c - l.toNat)) := hO ▸ y_sliceO ho hx hl hh h0 h1 h2
end
theorem sot_callg {P : Program} {G : Ctx} {n : Nat} {ops : Array Oper} {Q : Post} {s : Fm} {H Hs : List Ent} {fuel : Nat} {done : List Nat} {k : Nat} {d : Option Nat} {c : Call} {ty : TypeId} {pos : String} {af : Array Edge} {g : Option (Nat × Bool)} (_ho : ops[k]? = some ⟨d, .call c, ty, pos, af, g⟩) (h : SOT P G n ops Q Hs fuel done s H k) : SOT P G n ops Q Hs fuel done s H k := h
theorem sot_loadg {P : Program} {G : Ctx} {n : Nat} {ops : Array Oper} {Q : Post} {s : Fm} {H Hs : List Ent} {fuel : Nat} {done : List Nat} {k : Nat} {d : Option Nat} {t : TypeId} {c : Operand} {ty : TypeId} {pos : String} {af : Array Edge} {g : Option (Nat × Bool)} (_ho : ops[k]? = some ⟨d, .load t c, ty, pos, af, g⟩) (h : SOT P G n ops Q Hs fuel done s H k) : SOT P G n ops Q Hs fuel done s H k := h
/-- What is made has a place, if it is not empty. -/
theorem sc_some {P : Program} {G : Ctx} {f : FuncId} {args : List Value} {H : List Ent} {e sz n : Nat} {xs : List Value} {F : Option Addr → Nat → Value} (h : SC P G f args H fun v H' => ∃ a' c', v = F a' c' ∧ H' = .own e sz a' n c' xs :: H) (hn : 0 < n) : SC P G f args H fun v H' => ∃ b c', n ≤ c' ∧ v = F (some ⟨b, 0, none⟩) c' ∧ H' = .own e sz (some ⟨b, 0, none⟩) n c' xs :: H := ⟨h.1, fun w hw => (h.2 w hw).mono fun r w' ⟨v, H', h1, h2, a', c', h3, h4⟩ => by
  subst h4
  obtain ⟨b, rfl, hc⟩ := own_some h2 List.mem_cons_self hn
  exact ⟨v, _, h1, h2, b, c', hc, h3, rfl⟩⟩
end Go.Sx
/- More rules: stores into the bytes of a text, the lesser of two, a byte of a text by its value. -/
namespace Go.Sx
open Go Go.RowKit Go.Fw
class PickObj (H : List Ent) (g : Nat) (o : outParam Obj) (H' : outParam (List Ent)) : Prop where
  here : Pick (.obj g o) H H'
instance (priority := low) pickObjTail {H H' : List Ent} {g : Nat} {o : Obj} {x : Ent} [h : PickObj H g o H'] : PickObj (x :: H) g o (x :: H') := ⟨.there h.here⟩
instance pickObjHead {H : List Ent} {g : Nat} {o : Obj} : PickObj (.obj g o :: H) g o H := ⟨.here _⟩
section
variable {P : Program} {G : Ctx} {n : Nat} {ops : Array Oper} {Q : Post} {s : Fm} {H : List Ent} {o : Oper} {rest : List Oper}
/-- A store into the bytes that a text was made to. -/
theorem c_storeo {t e m g k : Nat} {x y : Operand} {xs : List Int} {v : Int} {H' : List Ent} (hg : o.guard = none) (ho : o.op = .store t x y) [h : Sc P t] (hx : ev s x = some (elemPtr (some ⟨g, 0, none⟩) k)) (hy : ev s y = some (.int .u8 v)) [hp : PickObj H g (bytesObj e xs m) H']
    (hl : k < xs.length) (hd : o.dst = none) (hk : SL P G n ops Q rest s (.obj g (bytesObj e (xs.set k v) m) :: H')) : SL P G n ops Q (o :: rest) s H := by
  obtain ⟨d, -, -, h3⟩ := h.here
  refine sl_op (.inl hg) fun act w ha hw K hK => ?_
  have hw := hw.pick hp.here
  obtain ⟨hB, hh⟩ : G.B ≤ g ∧ w.heap[g]? = some (bytesObj e xs m) := hw.ok _ List.mem_cons_self
  unfold bytesObj at hh
  have hlt : g < w.heap.size := row_lt hh
  have hko : k < (octs xs).length := by simp [octs]; exact hl
  have hsz : (octs xs ++ List.replicate m (Value.int .u8 0)).toArray[k]? = some (octs xs)[k] := by
    rw [List.getElem?_toArray, List.getElem?_append_left hko, List.getElem?_eq_getElem hko]
  have hcell : w.cell? ⟨g, k, none⟩ = some (octs xs)[k] := by
    unfold World.cell?
    simp only [hh]
    exact hsz
  have hfz : w.frozen? ⟨g, k, none⟩ = false := by
    unfold World.frozen?
    simp only [hh]
    have : ¬ xs.length + m ≤ k := by omega
    simp [this]
  have hrun := run_store_cell (P := P) (t := t) (v := .int .u8 v) h3 hcell hfz rfl
  unfold Oper.wp execOp
  simp only [ho, ha.ev hx, ha.ev hy, elemPtr, Option.map_some, Addr.add_mid, Nat.zero_add, Sem.run_bind, hrun, Result.andThen_ok]
  obtain ⟨hap, hapH⟩ := List.pairwise_cons.1 hw.apart
  have hrow : (w.setCell ⟨g, k, none⟩ (.int .u8 v)).heap[g]? = some (bytesObj e (xs.set k v) m) := by
    unfold World.setCell bytesObj
    simp only [Array.getElem?_modify, if_true, hh, Option.map_some]
    congr 1
    simp only [Option.isSome_none, Bool.false_eq_true, if_false, List.length_set]
    congr 1
    rw [List.setIfInBounds_toArray, List.set_append_left _ _ hko]
    simp [octs, List.map_set]
  have hw' : Holds G (.obj g (bytesObj e (xs.set k v) m) :: H') (w.setCell ⟨g, k, none⟩ (.int .u8 v)) := by
    have ho2 : ∀ j, j ≠ g → (w.setCell ⟨g, k, none⟩ (.int .u8 v)).heap[j]? = w.heap[j]? := fun j hj => Below.heap_setCell w _ _ j hj
    refine ⟨hw.below.setCell hB _, by simpa [World.setCell] using hw.base, fun z hz => ?_, List.pairwise_cons.2 ⟨fun y hy k hk => hap y hy k hk, hapH⟩⟩
    rcases List.mem_cons.1 hz with rfl | hz
    · exact ⟨hB, hrow⟩
    · exact Ent.ok_of (hw.ok z (List.mem_cons_of_mem _ hz)) fun j hj => ho2 j (fun e => hap z hz g rfl (e ▸ hj))
  exact hK _ _ (hk _ _ (by rw [hd]; exact ha) hw')
theorem c_minB {x y : Operand} {ats : Array TypeId} {k k' : IntKind} {p q : Int} (ho : o.op = .call { callee := .builtin .min, args := #[x, y], argTypes := ats }) (hx : ev s x = some (.int k p)) (hy : ev s y = some (.int k' q)) : Yields P G n s H o (.int k (min p q)) := fun a w ha _ => by
  have e : min p q = if q < p then q else p := by split <;> omega
  unfold execOp; rw [ho, e]
  simp only [resolve, invoke, Sem.run_bind, Sem.run_pure, Result.andThen_ok, builtin, List.map_toArray, List.map_cons, List.map_nil, ha.ev hx, ha.ev hy, run_min_int2]
/-- A byte of a text, by its value. -/
theorem c_indexNumV {t : Nat} {x y : Operand} {k : IntKind} {i v : Int} {b : ByteArray} (hv : (nums b).getD i.toNat 0 = v) (ho : o.op = .index t x y) [h : StrT P t] (hx : ev s x = some (.string b)) (hy : ev s y = some (.int k i)) (h0 : 0 ≤ i) (hi : i < b.size) : Yields P G n s H o (.int .u8 v) := hv ▸ c_indexNum ho hx hy h0 hi
/-- A number below 128 as a text. -/
theorem c_convIs {src dst : TypeId} {k : IntKind} {x : Operand} {m : Int} (ho : o.op = .convert src dst x) [h1 : IntT P src k] [h2 : StrT P dst] (hx : ev s x = some (.int k m)) (h0 : 0 ≤ m) (hm : m < 128) : Yields P G n s H o (.string (strOfNums [m])) := fun a w ha _ => by
  have e : Utf8.encode m = strOfNums [m] := by
    have hv : Utf8.valid m = true := by simp [Utf8.valid]; omega
    have h3 : m.toNat < 128 := by omega
    unfold Utf8.encode
    rw [hv]
    simp only [if_true]
    rw [if_pos h3]
    rfl
  unfold execOp; rw [ho]; simp only [ha.ev hx]
  refine run_value ?_
  simp only [convert, Sem.run_bind, run_underlying h1.here, run_underlying h2.here, Result.andThen_ok, Conv.intToString, Sem.run_pure, e]
/-- A piece of a text, by its value. -/
theorem c_sliceStrV {t : TypeId} {x : Operand} {lo hi : Option Operand} {b v : ByteArray} {l h : Int} (hv : b.extract l.toNat h.toNat = v) (ho : o.op = .slice t x lo hi none) [ht : StrT P t] (hx : ev s x = some (.string b)) (hl : bnd s 0 lo = some l) (hh : bnd s b.size hi = some h) (h0 : 0 ≤ l) (h1 : l ≤ h) (h2 : h ≤ b.size) : Yields P G n s H o (.string v) := hv ▸ c_sliceStr ho hx hl hh h0 h1 h2
end
end Go.Sx
/- More rules: clear of a piece of a row that is held; a row that is held, shorter; contracts from runs. -/
namespace Go.Sx
open Go Go.RowKit Go.Fw
theorem sc_mk {P : Program} {G : Ctx} {f : FuncId} {args : List Value} {H : List Ent} {R : Value → List Ent → Prop} (hc : Sx.Callee P f) (h : ∀ w, Holds G H w → Calls P f args.toArray w fun e w' => ∃ v H', e = .returned v ∧ Holds G H' w' ∧ R v H') : SC P G f args H R := ⟨hc, h⟩
theorem run_clear_row {P : Program} (w : World) (t e ty g o m c : Nat) (z : Value) (cs : List Value) (ht : P.underlying t = some (.slice e)) (hz : still P (zeroValue e) = some z) (h1 : z.oneCell' = true) (hg : w.heap[g]? = some (.cells cs.toArray e (0, 0))) (hl : o + m ≤ cs.length) (hm : 0 < m) :
    (Builtin.clear_ #[t] ty #[.slice (some ⟨g, o, none⟩) m c]).run P w = .ok (.tuple #[]) (w.setRow g (over cs o (List.replicate m z)).toArray) := by
  have hzc0 : z.cells = #[z] := by cases z <;> first | rfl | cases h1
  have hv : ∀ w, (zeroValue e).run P w = .ok z w := fun w => still_run _ _ hz w
  have hzc : (Builtin.zeroCells z.cells m).toList = List.replicate m z := by
    rw [hzc0]
    simp [Builtin.zeroCells]
    apply List.ext_getElem
    · simp
    · intro i h1 h2
      simp [Nat.mod_one]
  have hst := run_storeCells_at P g o e (List.replicate m z) 0 cs.toArray w hg (by simpa using hl) (by intro v hv'; rw [List.eq_of_mem_replicate hv']; exact h1)
  simp only [Nat.add_zero] at hst
  obtain ⟨m, rfl⟩ : ∃ k, m = k + 1 := ⟨m - 1, by omega⟩
  simp [Builtin.clear_, run_underlying ht, hv, hzc, hst, over]
section
variable {P : Program} {G : Ctx} {n : Nat} {ops : Array Oper} {Q : Post} {s : Fm} {H : List Ent} {o : Oper} {rest : List Oper}
theorem c_clear {t e bytes b len c m c2 off : Nat} {x : Operand} {xs : List Value} {z : Value} {H' : List Ent} (hg : o.guard = none) (ho : o.op = .call { callee := .builtin .clear, args := #[x], argTypes := #[t] }) [hT : SliceT P t e 1 bytes] (hu1 : still P (zeroValue e) = some z) (hx : ev s x = some (.slice (some ⟨b, off, none⟩) m c2)) [hp : PickOwn H (some ⟨b, 0, none⟩) e 1 len c xs H']
    (hl : off + m ≤ xs.length) (hm : 0 < m) (h1 : z.oneCell' = true) (hd : o.dst = none) (hk : SL P G n ops Q rest s (.own e 1 (some ⟨b, 0, none⟩) len c (over xs off (List.replicate m z)) :: H')) : SL P G n ops Q (o :: rest) s H := by
  obtain ⟨hu, -, -, -⟩ := hT.here
  refine sl_op (.inl hg) fun act w ha hw K hK => ?_
  have hw := hw.pick hp.here
  have hown : w.ownsRow G.B e 1 (.slice (some ⟨b, 0, none⟩) len c) len xs := hw.ok _ List.mem_cons_self
  obtain ⟨hlen, ⟨hv, h0'⟩ | ⟨g, cap, cur, hv, hB, hh, hn, hmx, hs, ht⟩⟩ := id hown
  · subst h0'; rw [hlen] at hl; omega
  · obtain ⟨rfl, rfl⟩ : b = g ∧ c = cap := by simpa [Value.slice.injEq] using hv
    have hcl : off + m ≤ cur.toList.length := by
      have e : xs.length ≤ cur.toList.length := by rw [← ht, List.length_take]; exact Nat.min_le_right _ _
      omega
    have hrun := run_clear_row (P := P) w t e o.type b off m c2 z cur.toList hu hu1 h1 (by simpa using hh) hcl hm
    unfold Oper.wp execOp
    simp only [ho, resolve, invoke, Sem.run_bind, Sem.run_pure, Result.andThen_ok, builtin, List.map_toArray, List.map_cons, List.map_nil, ha.ev hx, hrun]
    obtain ⟨hap, hapH⟩ := List.pairwise_cons.1 hw.apart
    have hrl : (List.replicate m z).length = m := List.length_replicate
    have e2 : (over cur.toList off (List.replicate m z)).take (len * 1) = over xs off (List.replicate m z) := by
      have h4 : off + m ≤ len * 1 := by rw [← hlen]; exact hl
      unfold over
      rw [← ht, List.take_take, Nat.min_eq_left (by omega), List.drop_take]
      have h3 : (cur.toList.take off).length = off := by rw [List.length_take]; omega
      rw [List.take_append, List.take_of_length_le (by rw [List.length_append, h3, hrl]; omega)]
      congr 2
      rw [List.length_append, h3]
    have hw' : Holds G (.own e 1 (some ⟨b, 0, none⟩) len c (over xs off (List.replicate m z)) :: H') (w.setRow b (over cur.toList off (List.replicate m z)).toArray) := by
      refine ⟨below_setRow hw.below hB _, by simpa using hw.base, fun y hz => ?_, List.pairwise_cons.2 ⟨fun y hy k hk => hap y hy k hk, hapH⟩⟩
      rcases List.mem_cons.1 hz with rfl | hz
      · refine ⟨?_, .inr ⟨b, c, (over cur.toList off (List.replicate m z)).toArray, rfl, hB, setRow_heap w b _ _ e (0, 0) hh, hn, hmx, ?_, by rw [List.toList_toArray]; exact e2⟩⟩
        · rw [over_len (by rw [hrl]; exact hl)]; exact hlen
        · rw [List.size_toArray, over_len (by rw [hrl]; exact hcl), Array.length_toList]; exact hs
      · exact Ent.ok_of (hw.ok y (List.mem_cons_of_mem _ hz)) fun j hj => setRow_other w b j _ (fun e => hap y hz b rfl (e ▸ hj))
    exact hK _ _ (hk _ _ (by rw [hd]; exact ha) hw')
end
theorem bb_shl1V {P : Program} {K : Value → Prop} {x y : Operand} {t : TypeId} {k' : IntKind} {q D : Int} (hD : pw q.toNat = D) (h0 : 0 ≤ q) (h1 : q ≤ 63) (hk : K (.int .u64 D)) : BB P .shl t x y (.int .u64 1) (.int k' q) K := bb_shl1 h0 h1 (hD ▸ hk)
theorem bb_bitsV {P : Program} {K : Value → Prop} {x y : Operand} {t : TypeId} {op : BinOp} {k : IntKind} {p q D : Int} (hop : (match op with | .and | .or | .xor | .andNot => true | _ => false) = true) (hD : ibits op k p q = D) (hk : K (.int k D)) : BB P op t x y (.int k p) (.int k q) K := bb_bits hop (hD ▸ hk)
theorem c_storekV {P : Program} {G : Ctx} {n : Nat} {ops : Array Oper} {Q : Post} {s : Fm} {H : List Ent} {o : Oper} {rest : List Oper} {t t' : TypeId} {x y : Operand} {b off : Nat} {cs cs' : List Value} {v : Value} {H' : List Ent} (hg : o.guard = none) (ho : o.op = .store t x y) [h : Sc P t] (hx : ev s x = some (.pointer (some ⟨b, off, none⟩))) (hy : ev s y = some v) [hp : PickBlk H b t' cs H'] (h1 : v.oneCell' = true) (hs : cs.set off v = cs')
    (hl : off < cs.length) (hd : o.dst = none) (hk : SL P G n ops Q rest s (.blk b t' cs' :: H')) : SL P G n ops Q (o :: rest) s H := c_storek hg ho hx hy h1 hl hd (hs ▸ hk)
theorem bb_catV {P : Program} {K : Value → Prop} {x y : Operand} {t : TypeId} {a b r : ByteArray} (hr : a ++ b = r) (h : a.size + b.size ≤ 9223372036854775807) (hk : K (.string r)) : BB P .add t x y (.string a) (.string b) K := bb_cat h (hr ▸ hk)
/-- The beginning of a row that is held. -/
theorem Holds.shrink {G : Ctx} {H : List Ent} {e sz n c m b : Nat} {xs : List Value} {w : World} (h : Holds G (.own e sz (some ⟨b, 0, none⟩) n c xs :: H) w) (hm : m ≤ n) : Holds G (.own e sz (some ⟨b, 0, none⟩) m c (xs.take (m * sz)) :: H) w := by
  have hms : m * sz ≤ n * sz := Nat.mul_le_mul_right sz hm
  obtain ⟨hap, hapH⟩ := List.pairwise_cons.1 h.apart
  refine ⟨h.below, h.base, fun x hx => ?_, List.pairwise_cons.2 ⟨fun y hy k hk => hap y hy k hk, hapH⟩⟩
  rcases List.mem_cons.1 hx with rfl | hx
  · obtain ⟨hl, hv⟩ : w.ownsRow G.B e sz (.slice (some ⟨b, 0, none⟩) n c) n xs := h.ok _ List.mem_cons_self
    rcases hv with ⟨hv, -⟩ | ⟨g, cap, cur, hv, hB, hh, hn, hmx, hs, ht⟩
    · cases hv
    · obtain ⟨rfl, rfl⟩ : b = g ∧ c = cap := by simpa [Value.slice.injEq] using hv
      refine ⟨by rw [List.length_take, hl, Nat.min_eq_left hms], .inr ⟨b, c, cur, rfl, hB, hh, by omega, hmx, hs, ?_⟩⟩
      rw [← ht, List.take_take, Nat.min_eq_left hms]
  · exact h.ok x (List.mem_cons_of_mem _ hx)
end Go.Sx
/- A string appended to a row of bytes. -/
namespace Go.Sx
open Go Go.RowKit Go.Fw
theorem strCells_octs (s : ByteArray) : Lib.strCells s = octs (nums s) := by
  unfold Lib.strCells octs nums
  rw [List.map_map]; rfl
theorem run_append_anyS {P : Program} {w : World} {B : Nat} {t u ty e : TypeId} {i : TypeInfo} {len c : Nat} {a : Option Addr} {xs : List Value} (ht : P.underlying t = some (.slice e)) (hu : P.underlying u = some .string) (hi : P.info? e = some i) (hz : i.zero = some (.int .u8 0)) (hsize : i.size = 1) (hby : i.bytes = 1)
    (hown : w.ownsRow B e 1 (.slice a len c) len xs) (s : ByteArray) (hb : len + s.size ≤ 140737488355328) (hbase : B ≤ w.heap.size) :
    ∃ a' c' w', (Builtin.append_ #[t, u] ty #[.slice a len c, .string s]).run P w = .ok (.slice a' (len + s.size) c') w' ∧ w'.ownsRow B e 1 (.slice a' (len + s.size) c') (len + s.size) (xs ++ Lib.strCells s) ∧ w.grownBy w' (Value.slice a len c).ownBlock ∧
      (∀ k, (Value.slice a' (len + s.size) c').ownBlock = some k → some k = (Value.slice a len c).ownBlock ∨ w.heap.size ≤ k) := by
  have h63 : len + s.size ≤ maxLen := by unfold maxLen; omega
  obtain ⟨v', w', hr, ho, hg, hn⟩ := Lib.run_append_own_string (P := P) w B t u ty e i ht hu hi hz hsize hby (.slice a len c) len xs hown s h63 hb hbase
  rcases hown.2 with ⟨hv, h0⟩ | ⟨g, cap, cur, hv, hbg, hcells, hnc, hcm, hcs, htake⟩
  · subst h0
    obtain ⟨rfl, rfl⟩ : a = none ∧ c = 0 := by simpa [Value.slice.injEq] using hv
    by_cases hm : s.size = 0
    · have hv' := hn.2 ⟨rfl, hm⟩
      subst hv'
      refine ⟨none, 0, w', by rw [hr, hm], ?_, hg, fun k hk => by simp [Value.ownBlock] at hk⟩
      rw [hm] at ho ⊢
      exact ho
    · have hr2 := run_append_nil_string (P := P) w t u ty e i (.int .u8 0) ht hu hi hz s (by omega) (by omega) (by rw [hby]; omega)
      rw [hr2] at hr
      injection hr with e1 e2
      rw [← e1] at ho
      rw [Nat.zero_add] at ho ⊢
      exact ⟨_, _, w', by rw [hr2, e2], ho, hg, fun k hk => .inr (by simp only [Value.ownBlock, Option.some.injEq] at hk; omega)⟩
  · obtain ⟨rfl, rfl⟩ : a = some ⟨g, 0, none⟩ ∧ c = cap := by simpa [Value.slice.injEq] using hv
    have hxl : xs.length = len := by simpa using hown.1
    by_cases hroom : len + s.size ≤ c
    · have hr2 := Lib.run_append_room_string (P := P) w t u ty e i ht hu hi hsize g len c cur hcells s hroom (by rw [hcs, Nat.mul_one]; exact hroom)
      rw [hr2] at hr
      injection hr with e1 e2
      rw [← e1] at ho
      exact ⟨_, _, w', by rw [hr2, e2], ho, hg, fun k hk => .inl hk.symm⟩
    · have hr2 := Lib.run_append_grow_string (P := P) w t u ty e i (.int .u8 0) ht hu hi hz ⟨g, 0, none⟩ len c xs (by rw [hsize]; simpa using hxl) (hown.cells (g := g) rfl) s (by omega) (by omega) (by rw [hby]; exact growslice_fits (by omega) (by omega))
      rw [hr2] at hr
      injection hr with e1 e2
      rw [← e1] at ho
      exact ⟨_, _, w', by rw [hr2, e2], ho, hg, fun k hk => .inr (by simp only [Value.ownBlock, Option.some.injEq] at hk; omega)⟩
theorem sl_appendS {P : Program} {G : Ctx} {n : Nat} {ops : Array Oper} {Q : Post} {s : Fm} {H : List Ent} {o : Oper} {rest : List Oper} {x y : Operand} {t u e : TypeId} {a : Option Addr} {len c d : Nat} {xs : List Value} {b : ByteArray} {H' : List Ent} (hg : o.guard = none) (ho : o.op = .call { callee := .builtin .append, args := #[x, y], argTypes := #[t, u] })
    (hx : ev s x = some (.slice a len c)) (hp : Pick (.own e 1 a len c xs) H H') (hy : ev s y = some (.string b)) (ht : P.underlying t = some (.slice e)) (hu : P.underlying u = some .string) (hi : (P.info? e).map (fun i => (i.zero, i.size, i.bytes)) = some (some (.int .u8 0), 1, 1))
    (hb : len + b.size ≤ 140737488355328) (h1d : o.dst = some d) (h2d : Nat.blt d n = true)
    (h : ∀ a' c', SL P G n ops Q rest ((d, .slice a' (len + b.size) c') :: s) (.own e 1 a' (len + b.size) c' (xs ++ octs (nums b)) :: H')) : SL P G n ops Q (o :: rest) s H := fun act w ha hw => by
  have hd := okd (n := n) h1d h2d
  simp only [← updd h1d] at h
  replace hg : Want ops o s := .inl hg
  have hwp := hw.pick hp
  have hown : w.ownsRow G.B e 1 (.slice a len c) len xs := hwp.ok _ List.mem_cons_self
  obtain ⟨i0, hi0, hz0, hz1, hz2⟩ := info_parts hi
  have fin : ∀ a' c' w', w'.ownsRow G.B e 1 (.slice a' (len + b.size) c') (len + b.size) (xs ++ octs (nums b)) → w.grownBy w' (Value.slice a len c).ownBlock → (∀ k, (Value.slice a' (len + b.size) c').ownBlock = some k → some k = (Value.slice a len c).ownBlock ∨ w.heap.size ≤ k) → wpList P ops (lift G n Q) rest (act.put o.dst (.slice a' (len + b.size) c')) w' := by
    intro a' c' w' ho' hgr hk
    have hw' : Holds G H' w' := hwp.drop.stepped _ hgr (fun k hk => (World.ownsRow.lt hown k hk).1) (fun x hx k hk e => (List.pairwise_cons.1 hwp.apart).1 x hx k e hk)
    refine h a' c' _ _ (ha.put _ _ hd) ⟨hw'.below, hw'.base, fun x hx => ?_, List.pairwise_cons.2 ⟨fun y hy k hky => ?_, hw'.apart⟩⟩
    · rcases List.mem_cons.1 hx with rfl | hx
      · exact ho'
      · exact hw'.ok x hx
    · intro hyk
      rcases hk k hky with e1 | e1
      · exact (List.pairwise_cons.1 hwp.apart).1 y hy k e1.symm hyk
      · have := (Ent.ok_lt (hwp.ok y (List.mem_cons_of_mem _ hy)) hyk).2
        omega
  refine wpList_step fun K hK => ?_
  rw [if_pos (hg.wanted ha)]
  unfold Oper.wp execOp
  simp only [ho, resolve, invoke, builtin, Sem.run_bind, Sem.run_pure, Result.andThen_ok, List.map_toArray, List.map_cons, List.map_nil, ha.ev hx, ha.ev hy]
  obtain ⟨a', c', w', hrun, h2, h3, h4⟩ := run_append_anyS (ty := o.type) ht hu hi0 hz0 hz1 hz2 hown b hb hwp.base
  simp only [hrun, Result.andThen_ok]
  rw [strCells_octs] at h2
  exact hK _ _ (fin a' c' w' h2 h3 h4)
theorem c_appendS {P : Program} {G : Ctx} {n : Nat} {ops : Array Oper} {Q : Post} {s : Fm} {H : List Ent} {o : Oper} {rest : List Oper} {x y : Operand} {t u e : TypeId} {a : Option Addr} {len c d : Nat} {xs : List Value} {b : ByteArray} {H' : List Ent} (hg : o.guard = none) (ho : o.op = .call { callee := .builtin .append, args := #[x, y], argTypes := #[t, u] })
    [hT : SliceT P t e 1 1] [hu : StrT P u] (hi : (P.info? e).map (fun i => (i.zero, i.size, i.bytes)) = some (some (.int .u8 0), 1, 1)) (hx : ev s x = some (.slice a len c)) [hp : PickOwn H a e 1 len c xs H'] (hy : ev s y = some (.string b)) (hb : len + b.size ≤ 140737488355328) (h1d : o.dst = some d) (h2d : Nat.blt d n = true)
    (h : ∀ a' c', SL P G n ops Q rest ((d, .slice a' (len + b.size) c') :: s) (.own e 1 a' (len + b.size) c' (xs ++ octs (nums b)) :: H')) : SL P G n ops Q (o :: rest) s H :=
  sl_appendS hg ho hx hp.here hy hT.here.1 hu.here hi hb h1d h2d h
end Go.Sx
/- The beginning of a row that is held: its piece, and the row made shorter. -/
namespace Go.Sx
open Go Go.RowKit Go.Fw
theorem c_sliceTake {P : Program} {G : Ctx} {n : Nat} {s : Fm} {H : List Ent} {o : Oper} {t e sz bytes : Nat} {x : Operand} {hi : Option Operand} {a : Option Addr} {len c : Nat} {h : Int} {xs : List Value} {H' : List Ent} (ho : o.op = .slice t x none hi none) [hT : SliceT P t e sz bytes] [hp : PickOwn H a e sz len c xs H'] (hx : ev s x = some (.slice a len c)) (hh : bnd s len hi = some h) (h1 : 0 ≤ h) (h2 : h ≤ len) : Yields P G n s H o (.slice a h.toNat c) := fun act w ha hw => by
  have hown : w.ownsRow G.B e sz (.slice a len c) len xs := (hw.pick hp.here).ok _ List.mem_cons_self
  rcases hown.2 with ⟨hv, h0⟩ | ⟨g, cap, cur, hv, hbg, hcells, hnc, hcm, hcs, htake⟩
  · subst h0
    obtain ⟨rfl, rfl⟩ : a = none ∧ c = 0 := by simpa [Value.slice.injEq] using hv
    obtain rfl : h = 0 := by omega
    obtain ⟨hu, hsz, -, -⟩ := hT.here
    have hS := hT.size
    unfold execOp; rw [ho]; simp only [ha.ev hx]
    refine run_value ?_
    have hb := run_bounds (P := P) (isSl := true) (w := w) (cap := 0) (lo := none) ha rfl hh (by omega : (0 : Int) ≤ ((0 : Nat) : Int)) (by omega) (by omega)
    cases hq : P.info? e with
    | none => simp [hq] at hS
    | some inf =>
      have hs : inf.size = sz := by simpa [hq] using hS
      have hz : (sizeOf e).run P w = .ok sz w := by simp [sizeOf, typeInfo, program, Sem.run, hq, hs]
      simp only [Option.map_none] at hb
      simp only [Instr.sliceAt, Sem.run_bind, run_underlying hu, Result.andThen_ok, Instr.slice, Option.map_none]
      simp [hb, hz, Sem.run]
  · obtain ⟨rfl, rfl⟩ : a = some ⟨g, 0, none⟩ ∧ c = cap := by simpa [Value.slice.injEq] using hv
    exact y_slice0 ho hx hh h1 (by omega) act w ha hw
theorem Holds.shrinkA {G : Ctx} {H : List Ent} {e sz n c m : Nat} {a : Option Addr} {xs : List Value} {w : World} (h : Holds G (.own e sz a n c xs :: H) w) (hm : m ≤ n) : Holds G (.own e sz a m c (xs.take (m * sz)) :: H) w := by
  have hown : w.ownsRow G.B e sz (.slice a n c) n xs := h.ok _ List.mem_cons_self
  rcases hown.2 with ⟨hv, h0⟩ | ⟨g, cap, cur, hv, -⟩
  · subst h0
    obtain rfl : m = 0 := by omega
    have hx : xs = [] := List.eq_nil_of_length_eq_zero (by simpa using hown.1)
    subst hx
    simpa using h
  · obtain ⟨rfl, rfl⟩ : a = some ⟨g, 0, none⟩ ∧ c = cap := by simpa [Value.slice.injEq] using hv
    exact h.shrink hm
end Go.Sx
/- Regions that draw their order and whose stores come last: what is loaded ahead of the first store is known, whatever is made meanwhile. -/
namespace Go.Sx
open Go Go.RowKit Go.Fw
section
variable {P : Program} {ops : Array Oper} {Q : Exit → Act → World → Prop} {md : Region.Mode}
/-- Whatever comes up next, and S holds of what is listed and of the world behind it. -/
def runs (P : Program) (md : Region.Mode) (ops : Array Oper) (Q : Exit → Act → World → Prop) (S : Array Bool → World → Prop) (m : Nat) : Array Bool → Act → World → Prop :=
  m.rec (fun l a w => Region.ready md ops l = [] ∧ Q .normal a w)
    fun _ go l a w => (Region.ready md ops l = [] → Q .normal a w) ∧ ∀ i ∈ Region.ready md ops l, wpOp P ops Q i (fun a' w' => S (l.setIfInBounds i true) w' ∧ go (l.setIfInBounds i true) a' w') a w
variable {S : Array Bool → World → Prop}
theorem runs_any : ∀ (m : Nat) (l : Array Bool) (a : Act) (w : World), runs P md ops Q S m l a w → wpAny P md ops Q m l a w
  | 0, _, _, _, h => h
  | m + 1, _, _, _, h => ⟨h.1, fun i hi => wpOp_mono (fun a' w' h' => runs_any m _ a' w' h'.2) (h.2 i hi)⟩
theorem runs_mk {m : Nat} {l : Array Bool} {a : Act} {w : World} (h0 : Region.ready md ops l ≠ []) (h : ∀ i ∈ Region.ready md ops l, wpOp P ops Q i (fun a' w' => S (l.setIfInBounds i true) w' ∧ runs P md ops Q S m (l.setIfInBounds i true) a' w') a w) : runs P md ops Q S (m + 1) l a w := ⟨fun e => absurd e h0, h⟩
theorem runs_first {i : Nat} {oi : Oper} {v : Value} {T : World → Prop} {Inv : Array Bool → Prop} (hi : ops[i]? = some oi) (hsel : ∀ (j : Nat) (o : Oper) cs b, ops[j]? = some o → o.op ≠ .select cs b)
    (hQ : ∀ c a w, Q (.panic c) (a.put oi.dst v) w → Q (.panic c) a w) (hInv : ∀ l j, Inv l → i ∈ Region.ready md ops l → j ∈ Region.ready md ops l → j ≠ i → Inv (l.setIfInBounds j true))
    (hT : ∀ l w, Inv l → S l w → T w) (hS : ∀ l w, S (l.setIfInBounds i true) w ↔ S l w) :
    ∀ (m : Nat) (l : Array Bool) (a : Act) (w : World),
      (∀ j oj, ops[j]? = some oj → j ≠ i → l.getD j true = false → (∀ e ∈ oj.after, Region.binds md e = true → e.on ≠ i) → oi.apart ops oj = true) →
      i ∈ Region.ready md ops l → Inv l → YieldsIf P ops T oi v a → S l w →
      runs P md ops Q S m (l.setIfInBounds i true) (a.put oi.dst v) w → runs P md ops Q S (m + 1) l a w := by
  intro m
  induction m with
  | zero =>
    intro l a w _ hr hI hy hs H
    refine ⟨fun h => (by rw [h] at hr; cases hr), fun j hj => ?_⟩
    by_cases hji : j = i
    · subst hji; exact hy.wpOp hi (hT _ _ hI hs) ⟨(hS _ _).2 hs, H⟩
    · have := ready_mono hj hji
      rw [H.1] at this
      cases this
  | succ m ih =>
    intro l a w hfree hr hI hy hs H
    refine ⟨fun h => (by rw [h] at hr; cases hr), fun j hj => ?_⟩
    by_cases hji : j = i
    · subst hji; exact hy.wpOp hi (hT _ _ hI hs) ⟨(hS _ _).2 hs, H⟩
    have h1 := H.2 j (ready_mono hj hji)
    obtain ⟨hun, oj, hoj, hall⟩ := mem_ready.1 hj
    have hnot : ∀ e ∈ oj.after, Region.binds md e = true → e.on ≠ i := fun e he hb heq => by
      have h1 := hall e he hb
      have h0 := (mem_ready.1 hr).1
      rw [heq] at h1
      rcases Nat.lt_or_ge i l.size with h' | h'
      · simp [h'] at h0 h1; rw [h0] at h1; cases h1
      · simp [Array.getElem?_eq_none h'] at h1
    have h2 := wpOp_putIf hoj (hfree j oj hoj hji hun hnot) (fun cs b => hsel i oi cs b hi) (fun cs b => hsel j oj cs b hoj) hQ hy h1
    refine wpOp_mono (fun a' w' h3 => ?_) h2
    obtain ⟨h4, h5, h6⟩ := h3
    rw [Array.setIfInBounds_comm _ _ (Ne.symm hji)] at h5 h6
    have h5' := (hS _ _).1 h5
    refine ⟨h5', ih (l.setIfInBounds j true) a' w' (fun k ok hk hki hunk hno => hfree k ok hk hki ?_ hno) (ready_mono hr (Ne.symm hji)) (hInv _ _ hI hr hj hji) h4 h5' h6⟩
    by_cases hjk : j = k
    · subst hjk; exact hun
    · rw [getD_set_ne true hjk] at hunk; exact hunk
end
/-- What waits for i, directly or not. -/
def waits (ops : Array Oper) (i : Nat) : List Nat :=
  (List.range ops.size).foldl (fun W k => bif (match ops[k]? with | some o => o.after.any fun e => Region.binds .any e && (Nat.beq e.on i || W.contains e.on) | none => false) then k :: W else W) []
def blkW (ops : Array Oper) (l : Array Bool) (i st : Nat) (W : List Nat) : Bool :=
  W.contains st && !(W.contains i) && W.all fun k => !(l.getD k true) && (match ops[k]? with | some o => o.after.any fun e => Region.binds .any e && (Nat.beq e.on i || W.contains e.on) | none => false)
theorem blkW_next {ops : Array Oper} {l : Array Bool} {i st j : Nat} {W : List Nat} (h : blkW ops l i st W = true) (hi : i ∈ Region.ready .any ops l) (hj : j ∈ Region.ready .any ops l) (hji : j ≠ i) : blkW ops (l.setIfInBounds j true) i st W = true := by
  unfold blkW at *
  simp only [Bool.and_eq_true, List.all_eq_true, Bool.not_eq_true'] at h ⊢
  obtain ⟨⟨h1, h2⟩, h3⟩ := h
  have hjW : j ∉ W := fun hm => by
    obtain ⟨h4, h5⟩ := h3 j hm
    obtain ⟨-, oj, hoj, hall⟩ := mem_ready.1 hj
    rw [hoj] at h5
    simp only [Array.any_eq_true, Bool.and_eq_true, Bool.or_eq_true, List.contains_eq_mem, decide_eq_true_eq] at h5
    obtain ⟨x, hx, hb, he⟩ := h5
    have ht := hall _ (Array.getElem_mem hx) hb
    have hun : l.getD oj.after[x].on true = false := by
      rcases he with he | he
      · rw [Nat.eq_of_beq_eq_true he]; exact (mem_ready.1 hi).1
      · exact (h3 _ he).1
    generalize oj.after[x].on = y at *
    rcases Nat.lt_or_ge y l.size with h' | h'
    · simp [h'] at hun ht; rw [hun] at ht; cases ht
    · simp [Array.getElem?_eq_none h'] at ht
  refine ⟨⟨h1, h2⟩, fun k hk => ⟨?_, (h3 k hk).2⟩⟩
  rw [getD_set_ne true (fun e => hjW (by rw [e]; exact hk))]
  exact (h3 k hk).1
/-- Till st comes up the one is held, from then on the other. -/
def phS (G : Ctx) (st : Nat) (H1 Hs : List Ent) (l : Array Bool) (w : World) : Prop := bif l.getD st true then Holds G Hs w else Holds G H1 w
theorem phS_set {G : Ctx} {st i : Nat} {H1 Hs : List Ent} (h : i ≠ st) (l : Array Bool) (w : World) : phS G st H1 Hs (l.setIfInBounds i true) w ↔ phS G st H1 Hs l w := by unfold phS; rw [getD_set_ne true h]
section
variable {P : Program} {G : Ctx} {n : Nat} {ops : Array Oper} {Q : Post} {s : Fm} {H H1 Hs : List Ent} {o : Oper} {fuel st : Nat} {done : List Nat}
def SP (P : Program) (G : Ctx) (n : Nat) (ops : Array Oper) (Q : Post) (st : Nat) (H1 Hs : List Ent) (fuel : Nat) (done : List Nat) (s : Fm) (H : List Ent) : Prop :=
  (∀ w, Holds G H w → Holds G H1 w) → (mkL ops.size done).getD st true = false → ∀ a w, Fr n s a → Holds G H w → runs P .any ops (np (lift G n Q)) (phS G st H1 Hs) fuel (mkL ops.size done) a w
def SPT (P : Program) (G : Ctx) (n : Nat) (ops : Array Oper) (Q : Post) (st : Nat) (H1 Hs : List Ent) (fuel : Nat) (done : List Nat) (s : Fm) (H : List Ent) (_k : Nat) : Prop := SP P G n ops Q st H1 Hs fuel done s H
def spQ (P : Program) (G : Ctx) (n : Nat) (ops : Array Oper) (Q : Post) (st : Nat) (H1 Hs : List Ent) (fuel : Nat) (done : List Nat) : Post
  | .normal, s, H => (∀ w, Holds G H w → Holds G H1 w) ∧ SP P G n ops Q st H1 Hs fuel done s H
  | _, _, _ => False
theorem c_phase {id : Nat} {l : List Oper} [h : Wide P] (st : Nat) (H1 Hs : List Ent) (hs : ∀ w, Holds G H w → Holds G H1 w) (hst : Nat.blt st l.length = true) (hk : SPT P G n l.toArray Q st H1 Hs l.length [] s H 0) : SW P G n (.region id l.toArray true) Q s H := fun a w ha hw => by
  refine Code.wp_mono np_imp (wp_region_any h.here (runs_any (S := phS G st H1 Hs) _ _ _ _ ?_))
  have h9 : st < l.length := by simpa [Nat.blt_eq] using hst
  have := hk hs (by simp [mkL, h9]) a _ ha hw.drew
  rw [mkL_nil] at this
  simpa using this
theorem sp_back {k : Nat} (hs : ∀ w, Holds G H w → Holds G H1 w) (h : SPT P G n ops Q st H1 Hs fuel done s H k) : AtQ (spQ P G n ops Q st H1 Hs fuel done) .normal s H := ⟨hs, h⟩
theorem spt_skip {k m : Nat} [hm : NSucc k m] (_hk : done.contains k = true) (h : SPT P G n ops Q st H1 Hs fuel done s H m) : SPT P G n ops Q st H1 Hs fuel done s H k := h
theorem spt_next {k m : Nat} [hm : NSucc k m] (_hk : Nat.blt k ops.size = true) (h : SPT P G n ops Q st H1 Hs fuel done s H m) : SPT P G n ops Q st H1 Hs fuel done s H k := h
/-- What st waits for yields by reading what is held till then. -/
theorem spt_take {k m d : Nat} [hm : NSucc k m] (ho : ops[k]? = some o) (hg : o.guard = none) (hd : o.dst = some d) (h2 : Nat.blt d n = true) (hns : Region.noSelect ops = true) (hr : (Region.ready .any ops (mkL ops.size done)).contains k = true) (hf : Region.free .any ops (mkL ops.size done) k = true) (hb : blkW ops (mkL ops.size done) k st (waits ops k) = true)
    (h : SY P G n H1 o s fun v => SPT P G n ops Q st H1 Hs fuel (k :: done) ((d, v) :: s) H m) : SPT P G n ops Q st H1 Hs (fuel + 1) done s H k := fun hs hst a w ha hw => by
  obtain ⟨v, hy, hk⟩ := h
  have hks : k ≠ st := fun e => by
    subst e
    unfold blkW at hb
    simp only [Bool.and_eq_true, Bool.not_eq_true'] at hb
    rw [hb.1.1] at hb
    cases hb.1.2
  have hsl : ∀ l w, phS G st H1 Hs (l.setIfInBounds k true) w ↔ phS G st H1 Hs l w := phS_set hks
  refine runs_first (T := Holds G H1) (Inv := fun l => blkW ops l k st (waits ops k) = true) ho (Region.noSelect_spec hns) (fun _ _ _ e => e) (fun l j h1 h2 h3 h4 => blkW_next h1 h2 h3 h4) (fun l w h1 h2 => ?_) hsl fuel _ a w (Region.free_spec ho hf) (by simpa using hr) hb (.inl ⟨Want.wanted (.inl hg) ha, fun w' hw' => hy a w' ha hw'⟩) ?_ ?_
  · unfold blkW at h1
    simp only [Bool.and_eq_true, List.all_eq_true, Bool.not_eq_true', List.contains_eq_mem, decide_eq_true_eq] at h1
    have := (h1.2 st h1.1.1).1
    unfold phS at h2
    rw [this] at h2
    exact h2
  · unfold phS; rw [hst]; exact hs w hw
  · rw [mkL_set]
    refine hk hs ?_ _ w ?_ hw
    · rw [← mkL_set, getD_set_ne true hks]; exact hst
    · rw [← updd hd v]
      exact ha.put _ _ (okd hd h2)
/-- What yields whatever is held of the two. -/
theorem spt_take0 {k m d : Nat} [hm : NSucc k m] (ho : ops[k]? = some o) (hg : o.guard = none) (hd : o.dst = some d) (h2 : Nat.blt d n = true) (hns : Region.noSelect ops = true) (hr : (Region.ready .any ops (mkL ops.size done)).contains k = true) (hf : Region.free .any ops (mkL ops.size done) k = true) (hks : Nat.beq k st = false) (hsub : ∀ w, Holds G H1 w → Holds G Hs w)
    (h : SY P G n Hs o s fun v => SPT P G n ops Q st H1 Hs fuel (k :: done) ((d, v) :: s) H m) : SPT P G n ops Q st H1 Hs (fuel + 1) done s H k := fun hs hst a w ha hw => by
  obtain ⟨v, hy, hk⟩ := h
  have hks : k ≠ st := fun e => by subst e; rw [Nat.beq_refl] at hks; cases hks
  refine runs_first (T := Holds G Hs) (Inv := fun _ => True) ho (Region.noSelect_spec hns) (fun _ _ _ e => e) (fun _ _ _ _ _ _ => trivial) (fun l w _ h2 => ?_) (phS_set hks) fuel _ a w (Region.free_spec ho hf) (by simpa using hr) trivial (.inl ⟨Want.wanted (.inl hg) ha, fun w' hw' => hy a w' ha hw'⟩) ?_ ?_
  · unfold phS at h2
    cases hq : l.getD st true with
    | true => rw [hq] at h2; exact h2
    | false => rw [hq] at h2; exact hsub w h2
  · unfold phS; rw [hst]; exact hs w hw
  · rw [mkL_set]
    refine hk hs ?_ _ w ?_ hw
    · rw [← mkL_set, getD_set_ne true hks]; exact hst
    · rw [← updd hd v]
      exact ha.put _ _ (okd hd h2)
theorem runs_of_held {Q : Exit → Act → World → Prop} : ∀ (m : Nat) (l : Array Bool) (a : Act) (w : World), l.getD st true = true → wpAnyH P .any ops Q (Holds G Hs) m l a w → runs P .any ops Q (phS G st H1 Hs) m l a w
  | 0, _, _, _, _, h => h
  | m + 1, l, _, _, hl, h => ⟨h.1, fun i hi => wpOp_mono (fun a' w' h' => by
      have hl' : (l.setIfInBounds i true).getD st true = true := by
        by_cases e : i = st
        · subst e
          by_cases hz : i < l.size
          · simp [hz]
          · simp [hz]
        · rw [getD_set_ne true e]; exact hl
      refine ⟨?_, runs_of_held m _ a' w' hl' h'.2⟩
      unfold phS
      rw [hl']
      exact h'.1) (h.2 i hi)⟩
def SPA (P : Program) (G : Ctx) (n : Nat) (ops : Array Oper) (Q : Post) (st : Nat) (H1 Hs : List Ent) (fuel : Nat) (done : List Nat) (s : Fm) (H : List Ent) (k : Nat) : Prop :=
  ∀ i, k ≤ i → i ∈ Region.ready .any ops (mkL ops.size done) → ∃ o, ops[i]? = some o ∧ ((i ≠ st ∧ SL P G n ops (spQ P G n ops Q st H1 Hs fuel (i :: done)) [o] s H) ∨ (i = st ∧ SL P G n ops (soQ P G n ops Q Hs fuel (i :: done)) [o] s H))
theorem spa_end {k : Nat} (hk : Nat.ble ops.size k = true) : SPA P G n ops Q st H1 Hs fuel done s H k := fun i hi hr => by
  have := (mem_ready.1 hr).2
  obtain ⟨o, ho, -⟩ := this
  have h1 := Nat.le_of_ble_eq_true hk
  rw [Array.getElem?_eq_none (by omega)] at ho
  cases ho
theorem spa_no {k m : Nat} [hm : NSucc k m] (hr : (Region.ready .any ops (mkL ops.size done)).contains k = false) (h : SPA P G n ops Q st H1 Hs fuel done s H m) : SPA P G n ops Q st H1 Hs fuel done s H k := fun i hi hi2 => by
  rcases Nat.eq_or_lt_of_le hi with rfl | hlt
  · rw [List.contains_eq_mem, decide_eq_false_iff_not] at hr
    exact absurd hi2 hr
  · exact h i (by rw [hm.here]; omega) hi2
theorem spa_yes {k m : Nat} [hm : NSucc k m] (ho : ops[k]? = some o) (hks : Nat.beq k st = false) (h1 : SL P G n ops (spQ P G n ops Q st H1 Hs fuel (k :: done)) [o] s H) (h : SPA P G n ops Q st H1 Hs fuel done s H m) : SPA P G n ops Q st H1 Hs fuel done s H k := fun i hi hi2 => by
  rcases Nat.eq_or_lt_of_le hi with rfl | hlt
  · exact ⟨o, ho, .inl ⟨fun e => (by subst e; rw [Nat.beq_refl] at hks; cases hks), h1⟩⟩
  · exact h i (by rw [hm.here]; omega) hi2
theorem spa_st {k m : Nat} [hm : NSucc k m] (ho : ops[k]? = some o) (hks : Nat.beq k st = true) (h1 : SL P G n ops (soQ P G n ops Q Hs fuel (k :: done)) [o] s H) (h : SPA P G n ops Q st H1 Hs fuel done s H m) : SPA P G n ops Q st H1 Hs fuel done s H k := fun i hi hi2 => by
  rcases Nat.eq_or_lt_of_le hi with rfl | hlt
  · exact ⟨o, ho, .inr ⟨Nat.eq_of_beq_eq_true hks, h1⟩⟩
  · exact h i (by rw [hm.here]; omega) hi2
theorem spt_all {k : Nat} (hr : (Region.ready .any ops (mkL ops.size done)).isEmpty = false) (h : SPA P G n ops Q st H1 Hs fuel done s H 0) : SPT P G n ops Q st H1 Hs (fuel + 1) done s H k := fun hs hst a w ha hw => by
  refine runs_mk (fun e => by rw [e] at hr; cases hr) fun i hi => ?_
  obtain ⟨o, ho, hsl⟩ := h i (Nat.zero_le _) hi
  have go : ∀ Q' : Post, (∀ e s H, e ≠ .normal → ¬ Q' e s H) → (∀ a w s' H', Fr n s' a → Holds G H' w → Q' .normal s' H' → phS G st H1 Hs (mkL ops.size (i :: done)) w ∧ runs P .any ops (np (lift G n Q)) (phS G st H1 Hs) fuel (mkL ops.size (i :: done)) a w) → SL P G n ops Q' [o] s H → wpOp P ops (np (lift G n Q)) i (fun a' w' => phS G st H1 Hs ((mkL ops.size done).setIfInBounds i true) w' ∧ runs P .any ops (np (lift G n Q)) (phS G st H1 Hs) fuel ((mkL ops.size done).setIfInBounds i true) a' w') a w := by
    intro Q' hno hq hsl
    have h1 := hsl a w ha hw
    rw [mkL_set]
    unfold wpList at h1
    unfold wpOp
    simp only [ho]
    have hK : ∀ a w, wpList P ops (lift G n Q') [] a w → phS G st H1 Hs (mkL ops.size (i :: done)) w ∧ runs P .any ops (np (lift G n Q)) (phS G st H1 Hs) fuel (mkL ops.size (i :: done)) a w := fun a w hq' => by
      obtain ⟨s', H', ha', hw', h2⟩ := hq'
      exact hq a w s' H' ha' hw' h2
    split
    · rename_i hwn
      rw [if_pos hwn] at h1
      rcases h1 with h1 | ⟨-, a1, w1, s1, H1, -, -, hf⟩
      · exact .inl (Oper.wp_imp hK (fun c a w ⟨_, _, _, _, hq⟩ => hno _ _ _ (by simp) hq) (fun a w ⟨_, _, _, _, hq⟩ => hno _ _ _ (by simp) hq) h1)
      · exact (hno _ _ _ (by simp) hf).elim
    · rename_i hwn
      rw [if_neg hwn] at h1
      exact hK _ _ h1
  rcases hsl with ⟨hne, hsl⟩ | ⟨he, hsl⟩
  · refine go _ (fun e s H he hq => ?_) (fun a w s' H' ha' hw' hq => ?_) hsl
    · cases e <;> first | exact he rfl | exact hq
    · obtain ⟨h2, h3⟩ := hq
      have hst' : (mkL ops.size (i :: done)).getD st true = false := by rw [← mkL_set, getD_set_ne true hne]; exact hst
      refine ⟨?_, h3 h2 hst' a w ha' hw'⟩
      unfold phS
      rw [hst']
      exact h2 w hw'
  · subst he
    have hst' : (mkL ops.size (i :: done)).getD i true = true := by
      rw [← mkL_set]
      by_cases hz : i < (mkL ops.size done).size
      · simp [hz]
      · simp [hz]
    refine go _ (fun e s H he hq => ?_) (fun a w s' H' ha' hw' hq => ?_) hsl
    · cases e <;> first | exact he rfl | exact hq
    · obtain ⟨h2, h3⟩ := hq
      refine ⟨?_, runs_of_held _ _ _ _ hst' (h3 h2 a w ha' hw')⟩
      unfold phS
      rw [hst']
      exact h2 w hw'
theorem g_spt {k : Nat} (h : SPT P G n ops Q st H1 Hs fuel done s H k) : SPT P G n ops Q st H1 Hs fuel done s H k := h
theorem g_spa {k : Nat} (h : SPA P G n ops Q st H1 Hs fuel done s H k) : SPA P G n ops Q st H1 Hs fuel done s H k := h
theorem g_atsp (h : AtQ (spQ P G n ops Q st H1 Hs fuel done) .normal s H) : AtQ (spQ P G n ops Q st H1 Hs fuel done) .normal s H := h
end
end Go.Sx
/- Rows of bytes that the call may append to, made by append or by the conversion of a text. -/
namespace Go.Sx
open Go Go.RowKit Go.Fw
def rowObj (e : TypeId) (cs : List Value) : Obj := .cells cs.toArray e (cs.length, cs.length + 1)
theorem bytesObj_row (e : TypeId) (xs : List Int) (m : Nat) : bytesObj e xs m = rowObj e (octs xs ++ List.replicate m (Value.int .u8 0)) := by
  unfold bytesObj rowObj
  simp [octs]
/-- A row of bytes: what is held, where it lies, how long it is. -/
inductive BufE (e : TypeId) : Ent → Option Addr → Nat → Nat → List Int → Prop where
  | own (a : Option Addr) (n c : Nat) (xs : List Int) : BufE e (.own e 1 a n c (octs xs)) a n c xs
  | obj (g n c : Nat) (xs : List Int) (tl : List Value) (hn : n = xs.length) (hc : c = n + tl.length) (hm : c ≤ maxLen) : BufE e (.obj g (rowObj e (octs xs ++ tl))) (some ⟨g, 0, none⟩) n c xs
class PickE (H : List Ent) (X : Ent) (H' : outParam (List Ent)) : Prop where
  here : Pick X H H'
instance (priority := low) pickETail {H H' : List Ent} {X x : Ent} [h : PickE H X H'] : PickE (x :: H) X (x :: H') := ⟨.there h.here⟩
instance pickEHead {H : List Ent} {X : Ent} : PickE (X :: H) X H := ⟨.here _⟩
section
variable {P : Program} {G : Ctx} {n : Nat} {ops : Array Oper} {Q : Post} {s : Fm} {H : List Ent} {o : Oper} {rest : List Oper}
theorem rowObj_at {w : World} {g : Nat} {e : TypeId} {cs : List Value} (h : w.heap[g]? = some (rowObj e cs)) (k : Nat) : w.cell? ⟨g, k, none⟩ = cs[k]? := by
  unfold World.cell?
  simp only [h, rowObj]
  simp
theorem rowObj_fz {w : World} {g : Nat} {e : TypeId} {cs : List Value} (h : w.heap[g]? = some (rowObj e cs)) (k : Nat) (hk : k < cs.length) : w.frozen? ⟨g, k, none⟩ = false := by
  unfold World.frozen?
  simp only [h, rowObj]
  have : ¬ cs.length ≤ k := by omega
  simp [this]
theorem BufE.rd {e : TypeId} {X : Ent} {a : Option Addr} {m c : Nat} {xs : List Int} (h : BufE e X a m c xs) (H : List Ent) : RdC G (X :: H) a (octs xs) := by
  cases h with
  | own => exact rdOwn
  | obj g n c xs tl hn hc hm =>
    refine ⟨fun w hw => ?_⟩
    have h := (hw.ok _ (List.mem_cons_self (a := Ent.obj g (rowObj e (octs xs ++ tl))))).2
    rcases row_at (show w.heap[g]? = some (.cells (octs xs ++ tl).toArray e ((octs xs ++ tl).length, (octs xs ++ tl).length + 1)) from h) with h2 | ⟨b, off, e1, h3, h4⟩
    · exact .inl (List.append_eq_nil_iff.1 h2).1
    · refine .inr ⟨b, off, e1, h3, fun i hi => ?_⟩
      rw [h4 i (by rw [List.length_append]; omega), List.getElem?_append_left hi]
theorem BufE.len {e : TypeId} {X : Ent} {a : Option Addr} {m c : Nat} {xs : List Int} (h : BufE e X a m c xs) {w : World} (hw : Holds G (X :: H) w) : m = xs.length := by
  cases h with
  | own =>
    have := (hw.ok _ List.mem_cons_self : w.ownsRow G.B e 1 (.slice a m c) m (octs xs)).1
    simp [octs] at this
    exact this.symm
  | obj g n c xs tl hn hc hm => exact hn
/-- What stands there, known or not, is let go. -/
theorem Holds.turn {H H' : List Ent} {X : Ent} {w : World} (hw : Holds G (X :: H) w) (X' : Ent) (hk : X'.key = X.key) (h : X'.ok G w) : Holds G (X' :: H) w := by
  obtain ⟨hap, hapH⟩ := List.pairwise_cons.1 hw.apart
  refine ⟨hw.below, hw.base, fun x hx => ?_, List.pairwise_cons.2 ⟨fun y hy k hkk => hap y hy k (hk ▸ hkk), hapH⟩⟩
  rcases List.mem_cons.1 hx with rfl | hx
  · exact h
  · exact hw.ok x (List.mem_cons_of_mem _ hx)
/-- One byte more. -/
theorem c_appendB {x y : Operand} {t e bytes d : Nat} {a a2 : Option Addr} {len c c2 : Nat} {xs : List Int} {v : Int} {X : Ent} {H' : List Ent} (hX : BufE e X a len c xs) (hg : o.guard = none) (ho : o.op = .call { callee := .builtin .append, args := #[x, y], argTypes := #[t, t] })
    [hT : SliceT P t e 1 bytes] (hx : ev s x = some (.slice a len c)) [hp : PickE H X H'] (hy : ev s y = some (.slice a2 1 c2)) [hr : RdC G H a2 [.int .u8 v]] (hb : (len + 1) * bytes ≤ 140737488355328) (h1d : o.dst = some d) (h2d : Nat.blt d n = true)
    (h : ∀ X' a' c', BufE e X' a' (len + 1) c' (xs ++ [v]) → SL P G n ops Q rest ((d, .slice a' (len + 1) c') :: s) (X' :: H')) : SL P G n ops Q (o :: rest) s H := by
  have hoc : octs (xs ++ [v]) = octs xs ++ [.int .u8 v] := by simp [octs]
  cases hX with
  | own =>
    haveI : PickOwn H a e 1 len c (octs xs) H' := ⟨hp.here⟩
    refine c_append (news := [.int .u8 v]) hg ho hx hy rfl rfl hb h1d h2d fun a' c' => ?_
    rw [← hoc]
    exact h _ a' c' (.own a' (len + 1) c' (xs ++ [v]))
  | obj g n' c xs tl hn hc hm =>
    intro act w ha hw
    have hd := okd (n := n) h1d h2d
    simp only [← updd h1d] at h
    replace hg : Want ops o s := .inl hg
    have hwp := hw.pick hp.here
    obtain ⟨hB, hh⟩ : G.B ≤ g ∧ w.heap[g]? = some (rowObj e (octs xs ++ tl)) := hwp.ok _ List.mem_cons_self
    obtain ⟨hu, hsz, hby, z, hz, hzs⟩ := hT.here
    obtain ⟨i0, hi0, hz0, hz1, hz2⟩ := info_parts hz
    obtain ⟨b2, off2, rfl, hc2⟩ := At.someAt (hr.here w hw) (by simp)
    have hlen : len + 1 ≤ 140737488355328 := Nat.le_trans (Nat.le_mul_of_pos_right _ hby) hb
    have hol : (octs xs).length = len := by rw [hn]; simp [octs]
    have hnews : ∀ j u, [Value.int .u8 v][j]? = some u → w.cell? ((⟨b2, off2, none⟩ : Addr).add j) = some u := fun j u hj => by
      rw [Addr.add_mid]; exact (hc2 j (List.getElem?_eq_some_iff.1 hj).1).trans hj
    obtain ⟨hap, hapH⟩ := List.pairwise_cons.1 hwp.apart
    refine wpList_step fun K hK => ?_
    rw [if_pos (hg.wanted ha)]
    unfold Oper.wp execOp
    simp only [ho, resolve, invoke, builtin, Sem.run_bind, Sem.run_pure, Result.andThen_ok, List.map_toArray, List.map_cons, List.map_nil, ha.ev hx, ha.ev hy]
    by_cases hroom : len + 1 ≤ c
    · cases tl with
      | nil => simp at hc; omega
      | cons u tl =>
        have hcl : (octs xs ++ u :: tl).length = c := by rw [List.length_append, hol, hc]
        have hcell : ∀ j, j < [Value.int .u8 v].length → (w.cell? ⟨g, 0 + len * i0.size + j, none⟩).isSome = true := fun j hj => by
          simp only [List.length_singleton] at hj
          rw [hz1, rowObj_at hh, List.getElem?_eq_getElem (by omega)]; rfl
        have hfz : ∀ j, j < [Value.int .u8 v].length → w.frozen? ⟨g, 0 + len * i0.size + j, none⟩ = false := fun j hj => by
          simp only [List.length_singleton] at hj
          rw [hz1]
          exact rowObj_fz hh _ (by omega)
        have hrun := run_append_room_cells (P := P) w t o.type e i0 hu hi0 g 0 len c ⟨b2, off2, none⟩ 1 c2 [.int .u8 v] (by rw [hz1]; rfl) hnews (by intro u hu; simp at hu; subst hu; rfl) hroom hcell hfz
        simp only [hrun, Result.andThen_ok]
        have hset : w.setCells g (0 + len * i0.size) [.int .u8 v] = w.setCell ⟨g, len, none⟩ (.int .u8 v) := by
          rw [hz1, show 0 + len * 1 = len from by omega]; rfl
        rw [hset]
        have hrow : (w.setCell ⟨g, len, none⟩ (.int .u8 v)).heap[g]? = some (rowObj e (octs (xs ++ [v]) ++ tl)) := by
          unfold World.setCell
          simp only [Array.getElem?_modify, if_true, hh, Option.map_some, rowObj]
          congr 1
          simp only [Option.isSome_none, Bool.false_eq_true, if_false]
          rw [List.setIfInBounds_toArray]
          have e1 : (octs xs ++ u :: tl).set len (.int .u8 v) = octs (xs ++ [v]) ++ tl := by
            rw [List.set_append_right _ _ (by omega), hol, Nat.sub_self, hoc]
            simp
          rw [e1]
          have e2 : (octs xs ++ u :: tl).length = (octs (xs ++ [v]) ++ tl).length := by rw [hoc]; simp
          rw [e2]
        have ho2 : ∀ j, j ≠ g → (w.setCell ⟨g, len, none⟩ (.int .u8 v)).heap[j]? = w.heap[j]? := fun j hj => Below.heap_setCell w _ _ j hj
        have hw' : Holds G (.obj g (rowObj e (octs (xs ++ [v]) ++ tl)) :: H') (w.setCell ⟨g, len, none⟩ (.int .u8 v)) := by
          refine ⟨hwp.below.setCell hB _, by simpa [World.setCell] using hwp.base, fun z hz => ?_, List.pairwise_cons.2 ⟨fun y hy k hk => hap y hy k hk, hapH⟩⟩
          rcases List.mem_cons.1 hz with rfl | hz
          · exact ⟨hB, hrow⟩
          · exact Ent.ok_of (hwp.ok z (List.mem_cons_of_mem _ hz)) fun j hj => ho2 j (fun e => hap z hz g rfl (e ▸ hj))
        exact hK _ _ (h _ (some ⟨g, 0, none⟩) c (.obj g (len + 1) c (xs ++ [v]) tl (by simp; omega) (by simp at hc; omega) hm) _ _ (ha.put _ _ hd) hw')
    · obtain ⟨v', w', hrun, r1, r2⟩ := run_append_arg_grows (P := P) w t o.type e i0 z 1 bytes hu hi0 hz0 hz1 hz2 hzs (by decide) ⟨g, 0, none⟩ len c (octs xs) (by omega) (fun j u hj => by
          rw [Addr.add_mid, Nat.zero_add, rowObj_at hh, List.getElem?_append_left (List.getElem?_eq_some_iff.1 hj).1]; exact hj) ⟨b2, off2, none⟩ 1 c2 [.int .u8 v] rfl hnews (by omega) (by unfold maxLen; omega) hb
      simp only [hrun, Result.andThen_ok]
      rcases r1.2 with ⟨-, h0⟩ | ⟨g1, cap, cur, rfl, hbg, hcells, hnc, hcm, hcs, htake⟩
      · omega
      · have hw1 : Holds G H' w' := hwp.drop.stepped none r2 (fun k hk => by cases hk) (fun x hx k hk e => by cases e)
        refine hK _ _ (h _ (some ⟨g1, 0, none⟩) cap (.own _ (len + 1) cap (xs ++ [v])) _ _ (ha.put _ _ hd) ?_)
        refine ⟨hw1.below, hw1.base, fun x hx => ?_, List.pairwise_cons.2 ⟨fun y hy k hk => ?_, hw1.apart⟩⟩
        · rcases List.mem_cons.1 hx with rfl | hx
          · rw [hoc]
            exact ⟨r1.1, .inr ⟨g1, cap, cur, rfl, Nat.le_trans hwp.base hbg, hcells, hnc, hcm, hcs, htake⟩⟩
          · exact hw1.ok x hx
        · intro hyk
          have e1 : k = g1 := by simp only [Ent.key, Value.ownBlock, Option.some.injEq] at hk; exact hk.symm
          have := (Ent.ok_lt (hwp.drop.ok y hy) hyk).2
          omega
/-- The beginning of a row. -/
theorem c_sliceTakeB {t e bytes : Nat} {x : Operand} {hi : Option Operand} {a : Option Addr} {len c : Nat} {h : Int} {xs : List Int} {X : Ent} {H' : List Ent} (hX : BufE e X a len c xs) (ho : o.op = .slice t x none hi none) [hT : SliceT P t e 1 bytes] [hp : PickE H X H'] (hx : ev s x = some (.slice a len c)) (hh : bnd s len hi = some h) (h1 : 0 ≤ h) (h2 : h ≤ len) : Yields P G n s H o (.slice a h.toNat c) := by
  cases hX with
  | own =>
    haveI : PickOwn H a e 1 len c (octs xs) H' := ⟨hp.here⟩
    exact c_sliceTake ho hx hh h1 h2
  | obj g n' c xs tl hn hc hm => exact y_slice0 ho hx hh h1 (by omega)
theorem BufE.shrink {e : TypeId} {X : Ent} {a : Option Addr} {len c m : Nat} {xs : List Int} (hX : BufE e X a len c xs) (hm : m ≤ len) : ∃ X', BufE e X' a m c (xs.take m) ∧ ∀ w H, Holds G (X :: H) w → Holds G (X' :: H) w := by
  cases hX with
  | own =>
    refine ⟨_, .own a m c (xs.take m), fun w H hw => ?_⟩
    have := hw.shrinkA hm
    rw [Nat.mul_one] at this
    rw [show octs (xs.take m) = (octs xs).take m from by simp [octs, List.map_take]]
    exact this
  | obj g n' c xs tl hn hc hcm =>
    have e1 : octs (xs.take m) ++ (octs (xs.drop m) ++ tl) = octs xs ++ tl := by rw [← List.append_assoc, ← (by simp [octs] : octs (xs.take m ++ xs.drop m) = octs (xs.take m) ++ octs (xs.drop m)), List.take_append_drop]
    refine ⟨.obj g (rowObj e (octs (xs.take m) ++ (octs (xs.drop m) ++ tl))), .obj g m c (xs.take m) (octs (xs.drop m) ++ tl) (by rw [List.length_take]; omega) (by rw [List.length_append, hc]; simp [octs]; omega) hcm, fun w H hw => ?_⟩
    rw [e1]
    exact hw
/-- A text made to a row of bytes. -/
theorem BufE.conv {e : TypeId} {g c : Nat} (b : ByteArray) (hc : b.size ≤ c) (hm : c ≤ maxLen) : BufE e (.obj g (bytesObj e (nums b) (c - b.size))) (some ⟨g, 0, none⟩) b.size c (nums b) := by
  rw [bytesObj_row]
  exact .obj g b.size c (nums b) _ (nums_length b).symm (by rw [List.length_replicate]; omega) hm
theorem c_convB {src dst e bytes d : Nat} {x : Operand} {b : ByteArray} (hg : o.guard = none) (ho : o.op = .convert src dst x) [hs : StrT P src] [hT : SliceT P dst e 1 bytes] [he : IntT P e .u8] (hx : ev s x = some (.string b)) (hb : b.size ≤ 140737488355328) (h1d : o.dst = some d) (h2d : Nat.blt d n = true)
    (hk : ∀ X a c, BufE e X a b.size c (nums b) → SL P G n ops Q rest ((d, .slice a b.size c) :: s) (X :: H)) : SL P G n ops Q (o :: rest) s H := by
  obtain ⟨hu, -, -, -⟩ := hT.here
  have hd := okd (n := n) h1d h2d
  simp only [← updd h1d] at hk
  refine sl_op (.inl hg) fun act w ha hw K hK => ?_
  have hcap : b.size ≤ grownCap w b.size 0 e := grownCap_ge w b.size 0 e
  have hcm : grownCap w b.size 0 e ≤ maxLen := grownCap_le_maxLen w b.size 0 e (by unfold maxLen; omega)
  have hrun := run_bytes_of_string (P := P) w src dst e b hs.here hu he.here
  rw [bytesRow_eq b _ hcap] at hrun
  unfold Oper.wp execOp
  simp only [ho, ha.ev hx, Sem.run_bind, hrun, Result.andThen_ok]
  have hw2 : Holds G (.obj w.heap.size (bytesObj e (nums b) (grownCap w b.size 0 e - b.size)) :: H) (w.drew.alloc (bytesObj e (nums b) (grownCap w b.size 0 e - b.size))) := by
    refine hw.obj (by simp [World.alloc, World.drew, -World.alloc_eq, -World.drew_eq]) (by simp [World.alloc, World.drew, -World.alloc_eq, -World.drew_eq]) (fun k hk => ?_) rfl rfl rfl
    exact Below.heap_alloc w.drew _ k hk
  exact hK _ _ (hk _ _ _ (BufE.conv b hcap hcm) _ _ (ha.put _ _ hd) hw2)
end
end Go.Sx
