/- More rules: pieces of slices and strings, rows that are made, stores into rows, builtins that only reckon. -/
import Derived.Test.YtgcnfcgnkfkpeaaSx9
import Derived.Laws.MakeOwn
namespace Go.Sx
open Go Go.RowKit Go.Fw
section
variable {P : Program} {G : Ctx} {n : Nat} {ops : Array Oper} {Q : Post} {s : Fm} {H : List Ent} {o : Oper} {rest : List Oper}

/-- The bounds of a piece. -/
def bnd (s : Fm) (dflt : Nat) : Option Operand → Option Int
  | none => some dflt
  | some x => match ev s x with
    | some (.int _ i) => some i
    | _ => none
theorem run_bounds {isSl : Bool} {w : World} {len cap : Nat} {lo hi : Option Operand} {l h : Int} {a : Act} (ha : Fr n s a) (hl : bnd s 0 lo = some l) (hh : bnd s len hi = some h) (h0 : 0 ≤ l) (h1 : l ≤ h) (h2 : h ≤ cap) :
    (Instr.sliceBounds isSl len cap (lo.map a.eval) (hi.map a.eval) none).run P w = .ok (l.toNat, h.toNat, cap) w := by
  have key : ∀ (x : Option Operand) (d : Nat) (v : Int) (y : Nat) (c : BoundsCode), bnd s d x = some v → 0 ≤ v → v ≤ y →
      (match x.map a.eval with | some u => Instr.sliceBound u y c | none => pure d : Sem Nat).run P w = .ok v.toNat w := by
    intro x d v y c hb h0 hy
    cases x with
    | none => simp only [bnd, Option.some.injEq] at hb; subst hb; simp [Sem.run]
    | some x =>
      obtain ⟨k, he⟩ : ∃ k, ev s x = some (.int k v) := by
        simp only [bnd] at hb
        cases he : ev s x with
        | none => rw [he] at hb; cases hb
        | some u =>
          rw [he] at hb
          cases u <;> first | (cases hb; done) | (simp only [Option.some.injEq] at hb; subst hb; exact ⟨_, rfl⟩)
      simp only [Option.map_some, ha.ev he, Instr.sliceBound, asIntOf, Sem.run_bind, Sem.run_pure, Result.andThen_ok]
      rw [if_pos ⟨h0, hy⟩, Sem.run_pure]
  have k1 := key hi len h cap (if isSl then .sliceAcap else .sliceAlen) hh (by omega) h2
  have k2 := key lo 0 l h.toNat .sliceB hl h0 (by omega)
  unfold Instr.sliceBounds
  cases lo <;> cases hi <;> simp only [Option.map_none, Option.map_some] at k1 k2 ⊢ <;> simp_all [Sem.run]
theorem c_sliceStr {t : TypeId} {x : Operand} {lo hi : Option Operand} {b : ByteArray} {l h : Int} (ho : o.op = .slice t x lo hi none) [ht : StrT P t] (hx : ev s x = some (.string b)) (hl : bnd s 0 lo = some l) (hh : bnd s b.size hi = some h) (h0 : 0 ≤ l) (h1 : l ≤ h) (h2 : h ≤ b.size) :
    Yields P G n s H o (.string (b.extract l.toNat h.toNat)) := fun a w ha _ => by
  unfold execOp; rw [ho]; simp only [ha.ev hx]
  refine run_value ?_
  have hb := run_bounds (P := P) (isSl := false) (w := w) (cap := b.size) ha hl hh h0 h1 h2
  simp only [Instr.sliceAt, Sem.run_bind, run_underlying ht.here, Result.andThen_ok, Instr.slice, Option.map_none, Option.isSome_none]
  simp [hb, Sem.run]
/-- A piece of a slice: what can be read there. -/
theorem Rd.piece {a : Option Addr} {xs : List Value} {l m : Nat} (h : Rd G H a xs) (hm : l + m ≤ xs.length) : Rd G H (a.map (·.add l)) ((xs.drop l).take m) := fun w hw => by
  rcases Nat.eq_zero_or_pos m with h0 | h0
  · left; subst h0; exact List.take_zero
  · obtain ⟨b, off, rfl, hc⟩ := At.someAt (h w hw) (by omega)
    have hb : b < w.heap.size := by
      have := hc 0 (by omega)
      rw [List.getElem?_eq_getElem (by omega)] at this
      exact World.block_lt_of_cell? w _ this
    right
    refine ⟨b, off + l, by simp [Addr.add_mid], hb, fun i hi => ?_⟩
    rw [List.length_take, List.length_drop] at hi
    rw [List.getElem?_take, if_pos (by omega), List.getElem?_drop, Nat.add_assoc]
    exact hc (l + i) (by omega)
theorem c_sliceSl {t e sz bytes : Nat} {x : Operand} {lo hi : Option Operand} {a : Option Addr} {len c d : Nat} {l h : Int} {Hr : List Ent} {xs : List Value} (hg : o.guard = none) (ho : o.op = .slice t x lo hi none) [hT : SliceT P t e sz bytes] (hx : ev s x = some (.slice a len c)) (hl : bnd s 0 lo = some l) (hh : bnd s len hi = some h)
    (hr : Rd G Hr a xs) (hlen : xs.length = len * sz) (h0 : 0 ≤ l) (h1 : l ≤ h) (h2 : h ≤ len) (h3 : len ≤ c) (h1d : o.dst = some d) (h2d : Nat.blt d n = true)
    (hk : ∀ a', RdC G Hr a' ((xs.drop (l.toNat * sz)).take ((h.toNat - l.toNat) * sz)) → SL P G n ops Q rest ((d, .slice a' (h.toNat - l.toNat) (c - l.toNat)) :: s) H) : SL P G n ops Q (o :: rest) s H := by
  obtain ⟨hu, hsz, -, -⟩ := hT.here
  have hS := hT.size
  refine sl_val (v := .slice (if c = l.toNat then a else a.map (·.add (l.toNat * sz))) (h.toNat - l.toNat) (c - l.toNat)) hg (fun act w ha _ => ?_) h1d h2d (hk _ ⟨?_⟩)
  · unfold execOp; rw [ho]; simp only [ha.ev hx]
    refine run_value ?_
    have hb := run_bounds (P := P) (isSl := true) (w := w) (cap := c) ha hl hh h0 h1 (by omega)
    cases hq : P.info? e with
    | none => simp [hq] at hS
    | some inf =>
      have hs : inf.size = sz := by simpa [hq] using hS
      have hz : (sizeOf e).run P w = .ok sz w := by simp [sizeOf, typeInfo, program, Sem.run, hq, hs]
      simp only [Instr.sliceAt, Sem.run_bind, run_underlying hu, Result.andThen_ok, Instr.slice, Option.map_none]
      simp [hb, hz, Sem.run]
  · split
    · rename_i hc
      have e0 : (h.toNat - l.toNat) * sz = 0 := by rw [show h.toNat - l.toNat = 0 from by omega, Nat.zero_mul]
      rw [e0, List.take_zero]
      exact fun w _ => At.nil w a
    · refine hr.piece ?_
      rw [hlen, ← Nat.add_mul]
      exact Nat.mul_le_mul_right _ (by omega)
/-- A builtin that only reckons. -/
theorem c_bi {b : Builtin} {xs : Array Operand} {ats : Array TypeId} {vs : List Value} {v : Value} (ho : o.op = .call { callee := .builtin b, args := xs, argTypes := ats }) (he : evs s xs.toList = some vs) (hb : (match b with | .min | .max | .cap => true | _ => false) = true)
    (hs : still P (match b with | .min => Builtin.min_ ats o.type vs.toArray | .max => Builtin.max_ ats o.type vs.toArray | _ => Builtin.cap_ ats o.type vs.toArray) = some v) : Yields P G n s H o v := fun a w ha _ => by
  have e1 : xs.map a.eval = vs.toArray := by rw [← (evs_of he).map ha, ← List.map_toArray, Array.toArray_toList]
  unfold execOp; rw [ho]
  simp only [resolve, invoke, Sem.run_bind, Sem.run_pure, Result.andThen_ok, e1]
  cases b <;> first | (cases hb; done) | (simp only [builtin]; exact run_value (still_run _ _ hs w))
theorem run_store_cell {w : World} {t : TypeId} {p : Addr} {u v : Value} (hi : (P.info? t).map (·.size) = some 1) (hc : w.cell? p = some u) (hfz : w.frozen? p = false) (h1 : v.oneCell' = true) : (Instr.storeAt t (.pointer (some p)) v).run P w = .ok () (w.setCell p v) := by
  cases hq : P.info? t with
  | none => simp [hq] at hi
  | some inf =>
    have hs : inf.size = 1 := by simpa [hq] using hi
    have hcs : v.cells = #[v] := by cases v <;> first | rfl | cases h1
    simp only [Instr.storeAt, Instr.sureAddr, storeVar, hcs, Sem.run_bind, Sem.run_pure, Result.andThen_ok, sizeOf, typeInfo, program]
    simp only [Sem.run, hq, hs, Result.andThen_ok, Sem.run_pure]
    simp only [List.size_toArray, List.length_cons, List.length_nil, Nat.zero_add, ne_eq, not_true_eq_false, if_false, storeCells, store]
    have e0 : p.add 0 = p := by unfold Addr.add; simp
    rw [e0]
    cases v <;> first | (cases h1; done) | simp [Sem.run, hc, hfz, Sem.bind, bind, pure]
/-- A store into a row that the call holds. -/
theorem c_storee {t e sz len c k : Nat} {x y : Operand} {a : Option Addr} {xs : List Value} {v : Value} {H' : List Ent} (hg : o.guard = none) (ho : o.op = .store t x y) [h : Sc P t] (hx : ev s x = some (elemPtr a k)) (hy : ev s y = some v) [hp : PickOwn H a e sz len c xs H'] (h1 : v.oneCell' = true)
    (hl : k < xs.length) (hd : o.dst = none) (hk : SL P G n ops Q rest s (.own e sz a len c (xs.set k v) :: H')) : SL P G n ops Q (o :: rest) s H := by
  obtain ⟨d, -, -, h3⟩ := h.here
  refine sl_op (.inl hg) fun act w ha hw K hK => ?_
  have hw := hw.pick hp.here
  have hown : w.ownsRow G.B e sz (.slice a len c) len xs := hw.ok _ List.mem_cons_self
  obtain ⟨hlen, ⟨hv, h0⟩ | ⟨g, cap, cur, hv, hB, hh, hn, hm, hs, ht⟩⟩ := id hown
  · subst h0; rw [hlen] at hl; simp at hl
  · obtain ⟨rfl, rfl⟩ : a = some ⟨g, 0, none⟩ ∧ c = cap := by simpa [Value.slice.injEq] using hv
    have hkl : k < len * sz := by rw [← hlen]; exact hl
    have hcell : w.cell? ⟨g, k, none⟩ = some xs[k] := by rw [hown.cellAt k hkl]; exact List.getElem?_eq_getElem hl
    have hfz : w.frozen? ⟨g, k, none⟩ = false := hown.frozenAt k
    have hrun := run_store_cell (P := P) (t := t) (v := v) h3 hcell hfz h1
    unfold Oper.wp execOp
    simp only [ho, ha.ev hx, ha.ev hy, elemPtr, Option.map_some, Addr.add_mid, Nat.zero_add, Sem.run_bind, hrun, Result.andThen_ok]
    have hst := (hown.stored k v).1
    obtain ⟨hap, hapH⟩ := List.pairwise_cons.1 hw.apart
    have hw' : Holds G (.own e sz (some ⟨g, 0, none⟩) len c (xs.set k v) :: H') (w.setCell ⟨g, k, none⟩ v) := by
      have ho2 : ∀ j, j ≠ g → (w.setCell ⟨g, k, none⟩ v).heap[j]? = w.heap[j]? := fun j hj => Below.heap_setCell w _ v j hj
      refine ⟨hw.below.setCell hB v, by simpa [World.setCell] using hw.base, fun z hz => ?_, List.pairwise_cons.2 ⟨fun y hy k hk => hap y hy k hk, hapH⟩⟩
      rcases List.mem_cons.1 hz with rfl | hz
      · exact hst
      · exact Ent.ok_of (hw.ok z (List.mem_cons_of_mem _ hz)) fun j hj => ho2 j (fun e => hap z hz g rfl (e ▸ hj))
    exact hK _ _ (hk _ _ (by rw [hd]; exact ha) hw')
theorem ks_slice {x : Operand} {t : TypeId} {lo hi mx : Option Operand} {d : Option Nat} {ty : TypeId} {pos : String} {af : Array Edge} (h : SL P G n ops Q (⟨d, .slice t x lo hi mx, ty, pos, af, none⟩ :: rest) s H) : SL P G n ops Q (⟨d, .slice t x lo hi mx, ty, pos, af, none⟩ :: rest) s H := h
theorem ks_make {x y : Operand} {t : TypeId} {d : Option Nat} {ty : TypeId} {pos : String} {af : Array Edge} (h : SL P G n ops Q (⟨d, .makeSlice t x y, ty, pos, af, none⟩ :: rest) s H) : SL P G n ops Q (⟨d, .makeSlice t x y, ty, pos, af, none⟩ :: rest) s H := h
theorem s_slice {x : Operand} {t : TypeId} {lo hi mx : Option Operand} {d : Nat} {v : Value} {ty : TypeId} {pos : String} {af : Array Edge} (hy : Yields P G n s H ⟨some d, .slice t x lo hi mx, ty, pos, af, none⟩ v) (h2 : Nat.blt d n = true) (h : SL P G n ops Q rest ((d, v) :: s) H) : SL P G n ops Q (⟨some d, .slice t x lo hi mx, ty, pos, af, none⟩ :: rest) s H := sl_val rfl hy rfl h2 h
theorem zero_info {e : TypeId} {z : Value} (h : still P (zeroValue e) = some z) : ∃ i, P.info? e = some i ∧ i.zero = some z := by
  cases hq : P.info? e with
  | none => simp [zeroValue, typeInfo, program, still, bind, Sem.bind, hq, stuck] at h
  | some i =>
    refine ⟨i, rfl, ?_⟩
    cases hz : i.zero with
    | none => simp [zeroValue, typeInfo, program, still, bind, Sem.bind, hq, hz, unsupported, pure] at h
    | some u => simpa [zeroValue, typeInfo, program, still, bind, Sem.bind, hq, hz, pure] using h
/-- A row that is made, full of noughts, its elements of one cell. -/
theorem c_make {t e bytes d : Nat} {x y : Operand} {k k' : IntKind} {m : Int} {z : Value} (hg : o.guard = none) (ho : o.op = .makeSlice t x y) [hT : SliceT P t e 1 bytes] [hz : ZeroT P e [z]] (hx : ev s x = some (.int k m)) (hy : ev s y = some (.int k' m)) (h0 : 0 ≤ m) (h1 : (bytes : Int) * m ≤ 140737488355328) (h1d : o.dst = some d) (h2d : Nat.blt d n = true)
    (hk : ∀ b, SL P G n ops Q rest ((d, .slice (some ⟨b, 0, none⟩) m.toNat m.toNat) :: s) (.own e 1 (some ⟨b, 0, none⟩) m.toNat m.toNat (List.replicate m.toNat z) :: H)) : SL P G n ops Q (o :: rest) s H := by
  obtain ⟨hu, -, hby, z', hzi, hzs⟩ := hT.here
  obtain ⟨u, hu1, hu2⟩ := hz.here
  obtain ⟨i, hi, hiz⟩ := zero_info hu1
  have hib : i.bytes = bytes ∧ i.size = 1 := by
    rw [hi] at hzi
    simp only [Option.map_some, Option.some.injEq, Prod.mk.injEq] at hzi
    exact ⟨hzi.2.2, hzi.2.1⟩
  have hm : m ≤ 140737488355328 := by
    have : (1 : Int) * m ≤ bytes * m := Int.mul_le_mul_of_nonneg_right (by omega) h0
    omega
  refine sl_op (.inl hg) fun act w ha hw K hK => ?_
  have hrun := run_make (P := P) w t e i u hu hi hiz k k' m m h0 (Int.le_refl _) (by rw [hib.1]; omega) (by omega)
  unfold Oper.wp execOp
  simp only [ho, ha.ev hx, ha.ev hy, Sem.run_bind, hrun, Result.andThen_ok]
  have hcs : (madeCells u.cells (m.toNat * i.size)) = (List.replicate m.toNat z).toArray := by
    rw [hib.2, Nat.mul_one, hu2.cells]
    apply Array.ext'
    rw [toList_madeCells_one]
  rw [hcs]
  have hw2 := hw.alloc e (List.replicate m.toNat z)
  have hw3 : Holds G (.own e 1 (some ⟨w.heap.size, 0, none⟩) m.toNat m.toNat (List.replicate m.toNat z) :: H) (w.alloc (.cells (List.replicate m.toNat z).toArray e)) := by
    refine ⟨hw2.below, hw2.base, fun x hx => ?_, List.pairwise_cons.2 ⟨fun y hy k hk => (List.pairwise_cons.1 hw2.apart).1 y hy k hk, (List.pairwise_cons.1 hw2.apart).2⟩⟩
    rcases List.mem_cons.1 hx with rfl | hx
    · have := hw2.ok _ List.mem_cons_self
      exact ⟨by simp, .inr ⟨w.heap.size, m.toNat, _, rfl, this.1, this.2, Nat.le_refl _, by unfold maxLen; omega, by simp, by simp⟩⟩
    · exact hw2.ok x (List.mem_cons_of_mem _ hx)
  have hp := hk w.heap.size
  rw [← updd h1d] at hp
  exact hK _ _ (hp _ _ (ha.put _ _ (okd h1d h2d)) hw3)
end
end Go.Sx
