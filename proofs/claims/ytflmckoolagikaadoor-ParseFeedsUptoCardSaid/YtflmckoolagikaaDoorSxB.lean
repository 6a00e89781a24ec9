/- More rules: pieces of slices and strings, rows that are made, stores into rows, builtins that only reckon. -/
import Derived.Test.YtflmckoolagikaaDoorSxA
import Derived.Laws.MakeOwn
import Derived.Laws.IdiomStrings
import Derived.OrdersHeld
import Derived.Lib.SliceRun
import Derived.ChangeKeysEq
import Derived.Laws.CopyOwn
import Derived.Laws.CopyRow
namespace Go.Sx
open Go Go.RowKit Go.Fw
section
variable {P : Program} {G : Ctx} {n : Nat} {ops : Array Oper} {Q : Post} {s : Fm} {H : List Ent} {o : Oper} {rest : List Oper}

/-- The bounds of a piece. -/
def bnd (s : Fm) (dflt : Nat) : Option Operand → Option Int
  | none => some dflt
  | some x => match ev s x with
    | some (.int _ i) => some i
    | _ => none
theorem run_bounds {isSl : Bool} {w : World} {len cap : Nat} {lo hi : Option Operand} {l h : Int} {a : Act} (ha : Fr n s a) (hl : bnd s 0 lo = some l) (hh : bnd s len hi = some h) (h0 : 0 ≤ l) (h1 : l ≤ h) (h2 : h ≤ cap) :
    (Instr.sliceBounds isSl len cap (lo.map a.eval) (hi.map a.eval) none).run P w = .ok (l.toNat, h.toNat, cap) w := by
  have key : ∀ (x : Option Operand) (d : Nat) (v : Int) (y : Nat) (c : BoundsCode), bnd s d x = some v → 0 ≤ v → v ≤ y →
      (match x.map a.eval with | some u => Instr.sliceBound u y c | none => pure d : Sem Nat).run P w = .ok v.toNat w := by
    intro x d v y c hb h0 hy
    cases x with
    | none => simp only [bnd, Option.some.injEq] at hb; subst hb; simp [Sem.run]
    | some x =>
      obtain ⟨k, he⟩ : ∃ k, ev s x = some (.int k v) := by
        simp only [bnd] at hb
        cases he : ev s x with
        | none => rw [he] at hb; cases hb
        | some u =>
          rw [he] at hb
          cases u <;> first | (cases hb; done) | (simp only [Option.some.injEq] at hb; subst hb; exact ⟨_, rfl⟩)
      simp only [Option.map_some, ha.ev he, Instr.sliceBound, asIntOf, Sem.run_bind, Sem.run_pure, Result.andThen_ok]
      rw [if_pos ⟨h0, hy⟩, Sem.run_pure]
  have k1 := key hi len h cap (if isSl then .sliceAcap else .sliceAlen) hh (by omega) h2
  have k2 := key lo 0 l h.toNat .sliceB hl h0 (by omega)
  unfold Instr.sliceBounds
  cases lo <;> cases hi <;> simp only [Option.map_none, Option.map_some] at k1 k2 ⊢ <;> simp_all [Sem.run]
theorem c_sliceStr {t : TypeId} {x : Operand} {lo hi : Option Operand} {b : ByteArray} {l h : Int} (ho : o.op = .slice t x lo hi none) [ht : StrT P t] (hx : ev s x = some (.string b)) (hl : bnd s 0 lo = some l) (hh : bnd s b.size hi = some h) (h0 : 0 ≤ l) (h1 : l ≤ h) (h2 : h ≤ b.size) :
    Yields P G n s H o (.string (b.extract l.toNat h.toNat)) := fun a w ha _ => by
  unfold execOp; rw [ho]; simp only [ha.ev hx]
  refine run_value ?_
  have hb := run_bounds (P := P) (isSl := false) (w := w) (cap := b.size) ha hl hh h0 h1 h2
  simp only [Instr.sliceAt, Sem.run_bind, run_underlying ht.here, Result.andThen_ok, Instr.slice, Option.map_none, Option.isSome_none]
  simp [hb, Sem.run]
/-- A piece of a slice: what can be read there. -/
theorem Rd.piece {a : Option Addr} {xs : List Value} {l m : Nat} (h : Rd G H a xs) (hm : l + m ≤ xs.length) : Rd G H (a.map (·.add l)) ((xs.drop l).take m) := fun w hw => by
  rcases Nat.eq_zero_or_pos m with h0 | h0
  · left; subst h0; exact List.take_zero
  · obtain ⟨b, off, rfl, hc⟩ := At.someAt (h w hw) (by omega)
    have hb : b < w.heap.size := by
      have := hc 0 (by omega)
      rw [List.getElem?_eq_getElem (by omega)] at this
      exact World.block_lt_of_cell? w _ this
    right
    refine ⟨b, off + l, by simp [Addr.add_mid], hb, fun i hi => ?_⟩
    rw [List.length_take, List.length_drop] at hi
    rw [List.getElem?_take, if_pos (by omega), List.getElem?_drop, Nat.add_assoc]
    exact hc (l + i) (by omega)
theorem c_sliceSl {t e sz bytes : Nat} {x : Operand} {lo hi : Option Operand} {a : Option Addr} {len c d : Nat} {l h : Int} {Hr : List Ent} {xs : List Value} (hg : o.guard = none) (ho : o.op = .slice t x lo hi none) [hT : SliceT P t e sz bytes] (hx : ev s x = some (.slice a len c)) (hl : bnd s 0 lo = some l) (hh : bnd s len hi = some h)
    (hr : Rd G Hr a xs) (hlen : xs.length = len * sz) (h0 : 0 ≤ l) (h1 : l ≤ h) (h2 : h ≤ len) (h3 : len ≤ c) (h1d : o.dst = some d) (h2d : Nat.blt d n = true)
    (hk : ∀ a', RdC G Hr a' ((xs.drop (l.toNat * sz)).take ((h.toNat - l.toNat) * sz)) → SL P G n ops Q rest ((d, .slice a' (h.toNat - l.toNat) (c - l.toNat)) :: s) H) : SL P G n ops Q (o :: rest) s H := by
  obtain ⟨hu, hsz, -, -⟩ := hT.here
  have hS := hT.size
  refine sl_val (v := .slice (if c = l.toNat then a else a.map (·.add (l.toNat * sz))) (h.toNat - l.toNat) (c - l.toNat)) hg (fun act w ha _ => ?_) h1d h2d (hk _ ⟨?_⟩)
  · unfold execOp; rw [ho]; simp only [ha.ev hx]
    refine run_value ?_
    have hb := run_bounds (P := P) (isSl := true) (w := w) (cap := c) ha hl hh h0 h1 (by omega)
    cases hq : P.info? e with
    | none => simp [hq] at hS
    | some inf =>
      have hs : inf.size = sz := by simpa [hq] using hS
      have hz : (sizeOf e).run P w = .ok sz w := by simp [sizeOf, typeInfo, program, Sem.run, hq, hs]
      simp only [Instr.sliceAt, Sem.run_bind, run_underlying hu, Result.andThen_ok, Instr.slice, Option.map_none]
      simp [hb, hz, Sem.run]
  · split
    · rename_i hc
      have e0 : (h.toNat - l.toNat) * sz = 0 := by rw [show h.toNat - l.toNat = 0 from by omega, Nat.zero_mul]
      rw [e0, List.take_zero]
      exact fun w _ => At.nil w a
    · refine hr.piece ?_
      rw [hlen, ← Nat.add_mul]
      exact Nat.mul_le_mul_right _ (by omega)
/-- A builtin that only reckons. -/
theorem c_bi {b : Builtin} {xs : Array Operand} {ats : Array TypeId} {vs : List Value} {v : Value} (ho : o.op = .call { callee := .builtin b, args := xs, argTypes := ats }) (he : evs s xs.toList = some vs) (hb : (match b with | .min | .max | .cap => true | _ => false) = true)
    (hs : still P (match b with | .min => Builtin.min_ ats o.type vs.toArray | .max => Builtin.max_ ats o.type vs.toArray | _ => Builtin.cap_ ats o.type vs.toArray) = some v) : Yields P G n s H o v := fun a w ha _ => by
  have e1 : xs.map a.eval = vs.toArray := by rw [← (evs_of he).map ha, ← List.map_toArray, Array.toArray_toList]
  unfold execOp; rw [ho]
  simp only [resolve, invoke, Sem.run_bind, Sem.run_pure, Result.andThen_ok, e1]
  cases b <;> first | (cases hb; done) | (simp only [builtin]; exact run_value (still_run _ _ hs w))
theorem run_store_cell {w : World} {t : TypeId} {p : Addr} {u v : Value} (hi : (P.info? t).map (·.size) = some 1) (hc : w.cell? p = some u) (hfz : w.frozen? p = false) (h1 : v.oneCell' = true) : (Instr.storeAt t (.pointer (some p)) v).run P w = .ok () (w.setCell p v) := by
  cases hq : P.info? t with
  | none => simp [hq] at hi
  | some inf =>
    have hs : inf.size = 1 := by simpa [hq] using hi
    have hcs : v.cells = #[v] := by cases v <;> first | rfl | cases h1
    simp only [Instr.storeAt, Instr.sureAddr, storeVar, hcs, Sem.run_bind, Sem.run_pure, Result.andThen_ok, sizeOf, typeInfo, program]
    simp only [Sem.run, hq, hs, Result.andThen_ok, Sem.run_pure]
    simp only [List.size_toArray, List.length_cons, List.length_nil, Nat.zero_add, ne_eq, not_true_eq_false, if_false, storeCells, store]
    have e0 : p.add 0 = p := by unfold Addr.add; simp
    rw [e0]
    cases v <;> first | (cases h1; done) | simp [Sem.run, hc, hfz, Sem.bind, bind, pure]
/-- A store into a row that the call holds. -/
theorem c_storee {t e sz len c k : Nat} {x y : Operand} {a : Option Addr} {xs : List Value} {v : Value} {H' : List Ent} (hg : o.guard = none) (ho : o.op = .store t x y) [h : Sc P t] (hx : ev s x = some (elemPtr a k)) (hy : ev s y = some v) [hp : PickOwn H a e sz len c xs H'] (h1 : v.oneCell' = true)
    (hl : k < xs.length) (hd : o.dst = none) (hk : SL P G n ops Q rest s (.own e sz a len c (xs.set k v) :: H')) : SL P G n ops Q (o :: rest) s H := by
  obtain ⟨d, -, -, h3⟩ := h.here
  refine sl_op (.inl hg) fun act w ha hw K hK => ?_
  have hw := hw.pick hp.here
  have hown : w.ownsRow G.B e sz (.slice a len c) len xs := hw.ok _ List.mem_cons_self
  obtain ⟨hlen, ⟨hv, h0⟩ | ⟨g, cap, cur, hv, hB, hh, hn, hm, hs, ht⟩⟩ := id hown
  · subst h0; rw [hlen] at hl; simp at hl
  · obtain ⟨rfl, rfl⟩ : a = some ⟨g, 0, none⟩ ∧ c = cap := by simpa [Value.slice.injEq] using hv
    have hkl : k < len * sz := by rw [← hlen]; exact hl
    have hcell : w.cell? ⟨g, k, none⟩ = some xs[k] := by rw [hown.cellAt k hkl]; exact List.getElem?_eq_getElem hl
    have hfz : w.frozen? ⟨g, k, none⟩ = false := hown.frozenAt k
    have hrun := run_store_cell (P := P) (t := t) (v := v) h3 hcell hfz h1
    unfold Oper.wp execOp
    simp only [ho, ha.ev hx, ha.ev hy, elemPtr, Option.map_some, Addr.add_mid, Nat.zero_add, Sem.run_bind, hrun, Result.andThen_ok]
    have hst := (hown.stored k v).1
    obtain ⟨hap, hapH⟩ := List.pairwise_cons.1 hw.apart
    have hw' : Holds G (.own e sz (some ⟨g, 0, none⟩) len c (xs.set k v) :: H') (w.setCell ⟨g, k, none⟩ v) := by
      have ho2 : ∀ j, j ≠ g → (w.setCell ⟨g, k, none⟩ v).heap[j]? = w.heap[j]? := fun j hj => Below.heap_setCell w _ v j hj
      refine ⟨hw.below.setCell hB v, by simpa [World.setCell] using hw.base, fun z hz => ?_, List.pairwise_cons.2 ⟨fun y hy k hk => hap y hy k hk, hapH⟩⟩
      rcases List.mem_cons.1 hz with rfl | hz
      · exact hst
      · exact Ent.ok_of (hw.ok z (List.mem_cons_of_mem _ hz)) fun j hj => ho2 j (fun e => hap z hz g rfl (e ▸ hj))
    exact hK _ _ (hk _ _ (by rw [hd]; exact ha) hw')
theorem ks_slice {x : Operand} {t : TypeId} {lo hi mx : Option Operand} {d : Option Nat} {ty : TypeId} {pos : String} {af : Array Edge} (h : SL P G n ops Q (⟨d, .slice t x lo hi mx, ty, pos, af, none⟩ :: rest) s H) : SL P G n ops Q (⟨d, .slice t x lo hi mx, ty, pos, af, none⟩ :: rest) s H := h
theorem ks_make {x y : Operand} {t : TypeId} {d : Option Nat} {ty : TypeId} {pos : String} {af : Array Edge} (h : SL P G n ops Q (⟨d, .makeSlice t x y, ty, pos, af, none⟩ :: rest) s H) : SL P G n ops Q (⟨d, .makeSlice t x y, ty, pos, af, none⟩ :: rest) s H := h
theorem s_slice {x : Operand} {t : TypeId} {lo hi mx : Option Operand} {d : Nat} {v : Value} {ty : TypeId} {pos : String} {af : Array Edge} (hy : Yields P G n s H ⟨some d, .slice t x lo hi mx, ty, pos, af, none⟩ v) (h2 : Nat.blt d n = true) (h : SL P G n ops Q rest ((d, v) :: s) H) : SL P G n ops Q (⟨some d, .slice t x lo hi mx, ty, pos, af, none⟩ :: rest) s H := sl_val rfl hy rfl h2 h
theorem zero_info {e : TypeId} {z : Value} (h : still P (zeroValue e) = some z) : ∃ i, P.info? e = some i ∧ i.zero = some z := by
  cases hq : P.info? e with
  | none => simp [zeroValue, typeInfo, program, still, bind, Sem.bind, hq, stuck] at h
  | some i =>
    refine ⟨i, rfl, ?_⟩
    cases hz : i.zero with
    | none => simp [zeroValue, typeInfo, program, still, bind, Sem.bind, hq, hz, unsupported, pure] at h
    | some u => simpa [zeroValue, typeInfo, program, still, bind, Sem.bind, hq, hz, pure] using h
/-- A row that is made, full of noughts, its elements of one cell. -/
theorem c_make {t e bytes d : Nat} {x y : Operand} {k k' : IntKind} {m : Int} {z : Value} (hg : o.guard = none) (ho : o.op = .makeSlice t x y) [hT : SliceT P t e 1 bytes] [hz : ZeroT P e [z]] (hx : ev s x = some (.int k m)) (hy : ev s y = some (.int k' m)) (h0 : 0 ≤ m) (h1 : (bytes : Int) * m ≤ 140737488355328) (h1d : o.dst = some d) (h2d : Nat.blt d n = true)
    (hk : ∀ b, SL P G n ops Q rest ((d, .slice (some ⟨b, 0, none⟩) m.toNat m.toNat) :: s) (.own e 1 (some ⟨b, 0, none⟩) m.toNat m.toNat (List.replicate m.toNat z) :: H)) : SL P G n ops Q (o :: rest) s H := by
  obtain ⟨hu, -, hby, z', hzi, hzs⟩ := hT.here
  obtain ⟨u, hu1, hu2⟩ := hz.here
  obtain ⟨i, hi, hiz⟩ := zero_info hu1
  have hib : i.bytes = bytes ∧ i.size = 1 := by
    rw [hi] at hzi
    simp only [Option.map_some, Option.some.injEq, Prod.mk.injEq] at hzi
    exact ⟨hzi.2.2, hzi.2.1⟩
  have hm : m ≤ 140737488355328 := by
    have : (1 : Int) * m ≤ bytes * m := Int.mul_le_mul_of_nonneg_right (by omega) h0
    omega
  refine sl_op (.inl hg) fun act w ha hw K hK => ?_
  have hrun := run_make (P := P) w t e i u hu hi hiz k k' m m h0 (Int.le_refl _) (by rw [hib.1]; omega) (by omega)
  unfold Oper.wp execOp
  simp only [ho, ha.ev hx, ha.ev hy, Sem.run_bind, hrun, Result.andThen_ok]
  have hcs : (madeCells u.cells (m.toNat * i.size)) = (List.replicate m.toNat z).toArray := by
    rw [hib.2, Nat.mul_one, hu2.cells]
    apply Array.ext'
    rw [toList_madeCells_one]
  rw [hcs]
  have hw2 := hw.alloc e (List.replicate m.toNat z)
  have hw3 : Holds G (.own e 1 (some ⟨w.heap.size, 0, none⟩) m.toNat m.toNat (List.replicate m.toNat z) :: H) (w.alloc (.cells (List.replicate m.toNat z).toArray e)) := by
    refine ⟨hw2.below, hw2.base, fun x hx => ?_, List.pairwise_cons.2 ⟨fun y hy k hk => (List.pairwise_cons.1 hw2.apart).1 y hy k hk, (List.pairwise_cons.1 hw2.apart).2⟩⟩
    rcases List.mem_cons.1 hx with rfl | hx
    · have := hw2.ok _ List.mem_cons_self
      exact ⟨by simp, .inr ⟨w.heap.size, m.toNat, _, rfl, this.1, this.2, Nat.le_refl _, by unfold maxLen; omega, by simp, by simp⟩⟩
    · exact hw2.ok x (List.mem_cons_of_mem _ hx)
  have hp := hk w.heap.size
  rw [← updd h1d] at hp
  exact hK _ _ (hp _ _ (ha.put _ _ (okd h1d h2d)) hw3)
end
end Go.Sx
/- More rules: pieces in regions that draw their order. -/
namespace Go.Sx
open Go Go.RowKit Go.Fw
section
variable {P : Program} {G : Ctx} {n : Nat} {ops : Array Oper} {s : Fm} {H : List Ent} {o : Oper} {rest : List Oper}
theorem kq_slice {Q : Fm → Prop} {x : Operand} {t : TypeId} {lo hi mx : Option Operand} {d : Option Nat} {ty : TypeId} {pos : String} {af : Array Edge} (h : SQ P G n ops Q H (⟨d, .slice t x lo hi mx, ty, pos, af, none⟩ :: rest) s) : SQ P G n ops Q H (⟨d, .slice t x lo hi mx, ty, pos, af, none⟩ :: rest) s := h
theorem q_slice {Q : Fm → Prop} {x : Operand} {t : TypeId} {lo hi mx : Option Operand} {d : Nat} {v : Value} {ty : TypeId} {pos : String} {af : Array Edge} (hy : Yields P G n s H ⟨some d, .slice t x lo hi mx, ty, pos, af, none⟩ v) (h2 : Nat.blt d n = true) (h : SQ P G n ops Q H rest ((d, v) :: s)) : SQ P G n ops Q H (⟨some d, .slice t x lo hi mx, ty, pos, af, none⟩ :: rest) s := sq_val rfl hy rfl h2 h
theorem q_sliceSl {Q : Fm → Prop} {t e sz bytes : Nat} {x : Operand} {lo hi : Option Operand} {a : Option Addr} {len c d : Nat} {l h : Int} {Hr : List Ent} {xs : List Value} (hg : o.guard = none) (ho : o.op = .slice t x lo hi none) [hT : SliceT P t e sz bytes] (hx : ev s x = some (.slice a len c)) (hl : bnd s 0 lo = some l) (hh : bnd s len hi = some h)
    (hr : Rd G Hr a xs) (hlen : xs.length = len * sz) (h0 : 0 ≤ l) (h1 : l ≤ h) (h2 : h ≤ len) (h3 : len ≤ c) (h1d : o.dst = some d) (h2d : Nat.blt d n = true)
    (hk : ∀ a', RdC G Hr a' ((xs.drop (l.toNat * sz)).take ((h.toNat - l.toNat) * sz)) → SQ P G n ops Q H rest ((d, .slice a' (h.toNat - l.toNat) (c - l.toNat)) :: s)) : SQ P G n ops Q H (o :: rest) s := by
  obtain ⟨hu, hsz, -, -⟩ := hT.here
  have hS := hT.size
  refine sq_val (v := .slice (if c = l.toNat then a else a.map (·.add (l.toNat * sz))) (h.toNat - l.toNat) (c - l.toNat)) hg (fun act w ha _ => ?_) h1d h2d (hk _ ⟨?_⟩)
  · unfold execOp; rw [ho]; simp only [ha.ev hx]
    refine run_value ?_
    have hb := run_bounds (P := P) (isSl := true) (w := w) (cap := c) ha hl hh h0 h1 (by omega)
    cases hq : P.info? e with
    | none => simp [hq] at hS
    | some inf =>
      have hs : inf.size = sz := by simpa [hq] using hS
      have hz : (sizeOf e).run P w = .ok sz w := by simp [sizeOf, typeInfo, program, Sem.run, hq, hs]
      simp only [Instr.sliceAt, Sem.run_bind, run_underlying hu, Result.andThen_ok, Instr.slice, Option.map_none]
      simp [hb, hz, Sem.run]
  · split
    · rename_i hc
      have e0 : (h.toNat - l.toNat) * sz = 0 := by rw [show h.toNat - l.toNat = 0 from by omega, Nat.zero_mul]
      rw [e0, List.take_zero]
      exact fun w _ => At.nil w a
    · refine hr.piece ?_
      rw [hlen, ← Nat.add_mul]
      exact Nat.mul_le_mul_right sz (by omega)
end
end Go.Sx
/- More rules: strings: their numbers, conversions, sums, equality. -/
namespace Go.Sx
open Go Go.RowKit Go.Fw
/-- The bytes of a string, as numbers. -/
def nums (b : ByteArray) : List Int := b.data.toList.map fun x => (x.toNat : Int)
theorem nums_length (b : ByteArray) : (nums b).length = b.size := by unfold nums; rw [List.length_map, Array.length_toList]; rfl
theorem nums_bound (b : ByteArray) : ∀ x ∈ nums b, 0 ≤ x ∧ x ≤ 255 := fun x hx => by
  simp only [nums, List.mem_map] at hx
  obtain ⟨u, -, rfl⟩ := hx
  have := u.toNat_lt
  omega
theorem strOf_nums (b : ByteArray) : strOfNums (nums b) = b := by
  show (⟨((nums b).map fun n => UInt8.ofNat n.toNat).toArray⟩ : ByteArray) = b
  have e : (nums b).map (fun n => UInt8.ofNat n.toNat) = b.data.toList := by
    simp only [nums, List.map_map]
    refine (List.map_congr_left fun x _ => ?_).trans (List.map_id _)
    simp
  rw [e]
theorem nums_strOf {xs : List Int} (h : ∀ x ∈ xs, 0 ≤ x ∧ x ≤ 255) : nums (strOfNums xs) = xs := by
  show ((xs.map fun n => UInt8.ofNat n.toNat).toArray.toList.map fun x => (x.toNat : Int)) = xs
  rw [List.toList_toArray, List.map_map]
  refine (List.map_congr_left fun x hx => ?_).trans (List.map_id _)
  have := h x hx
  simp
  omega
theorem nums_inj {a b : ByteArray} (h : nums a = nums b) : a = b := by rw [← strOf_nums a, h, strOf_nums]
theorem nums_append (a b : ByteArray) : nums (a ++ b) = nums a ++ nums b := by
  unfold nums
  rw [show (a ++ b).data = a.data ++ b.data from ByteArray.data_append ..]
  simp
theorem nums_extract (b : ByteArray) (l h : Nat) : nums (b.extract l h) = ((nums b).drop l).take (h - l) := by
  unfold nums
  rw [show (b.extract l h).data = b.data.extract l h from ByteArray.data_extract ..]
  simp [List.map_take, List.map_drop]
theorem nums_at (b : ByteArray) (k : Nat) (h : k < b.size) : ∃ v : UInt8, b[k]? = some v ∧ (v.toNat : Int) = (nums b).getD k 0 := by
  have h' : k < b.data.toList.length := by simpa using h
  refine ⟨b[k], by simp [getElem?_pos, h], ?_⟩
  simp only [nums, List.getD_eq_getElem?_getD, List.getElem?_map, List.getElem?_eq_getElem h', Option.map_some, Option.getD_some]
  congr 1

/-- What a conversion of a string to bytes lays. -/
def bytesObj (e : TypeId) (xs : List Int) (m : Nat) : Obj := .cells (octs xs ++ List.replicate m (Value.int .u8 0)).toArray e (xs.length + m, xs.length + m + 1)
section
variable {P : Program} {G : Ctx} {n : Nat} {ops : Array Oper} {Q : Post} {s : Fm} {H : List Ent} {o : Oper} {rest : List Oper}
instance rdBytes {g : Nat} {e : TypeId} {xs : List Int} {m : Nat} : RdC G (.obj g (bytesObj e xs m) :: H) (some ⟨g, 0, none⟩) (octs xs) := ⟨fun w hw => by
  have h := hw.ok _ (List.mem_cons_self (a := Ent.obj g (bytesObj e xs m)))
  have h2 := row_at (show w.heap[g]? = some (.cells (octs xs ++ List.replicate m (Value.int .u8 0)).toArray e (xs.length + m, xs.length + m + 1)) from h.2)
  rcases h2 with h2 | ⟨b, off, e1, h3, h4⟩
  · exact .inl (List.append_eq_nil_iff.1 h2).1
  · refine .inr ⟨b, off, e1, h3, fun i hi => ?_⟩
    rw [h4 i (by rw [List.length_append]; omega), List.getElem?_append_left hi]⟩
theorem Holds.obj {w w' : World} {o : Obj} (h : Holds G H w) (h1 : w'.heap.size = w.heap.size + 1) (h2 : w'.heap[w.heap.size]? = some o) (h3 : ∀ k, k < w.heap.size → w'.heap[k]? = w.heap[k]?) (e1 : w'.os = w.os) (e2 : w'.tape = w.tape) (e3 : w'.output = w.output) : Holds G (.obj w.heap.size o :: H) w' := by
  refine ⟨⟨e1.trans h.below.os, e2.trans h.below.tape, e3.trans h.below.output, Nat.le_trans h.below.size (by omega), fun j hj => (h3 j (Nat.lt_of_lt_of_le hj h.base)).trans (h.below.block j hj)⟩, Nat.le_trans h.base (by omega), fun x hx => ?_, List.pairwise_cons.2 ⟨fun y hy k hk => ?_, h.apart⟩⟩
  · rcases List.mem_cons.1 hx with rfl | hx
    · exact ⟨h.base, h2⟩
    · exact Ent.ok_of (h.ok x hx) fun k hk => h3 k (Ent.ok_lt (h.ok x hx) hk).2
  · simp only [Ent.key, Option.some.injEq] at hk
    subst hk
    intro e
    exact absurd (Ent.ok_lt (h.ok y hy) e).2 (Nat.lt_irrefl _)
theorem bytesRow_eq (b : ByteArray) (cap : Nat) (hc : b.size ≤ cap) (e : TypeId) : Obj.cells (bytesRow b cap) e ((bytesRow b cap).size, (bytesRow b cap).size + 1) = bytesObj e (nums b) (cap - b.size) := by
  have e1 : bytesRow b cap = (octs (nums b) ++ List.replicate (cap - b.size) (Value.int .u8 0)).toArray := by
    apply Array.toList_inj.1
    simp [bytesRow, octs, nums, List.map_map, Function.comp_def]
  have e2 : (bytesRow b cap).size = (nums b).length + (cap - b.size) := by rw [e1]; simp [octs]
  rw [e2, e1]
  rfl
/-- A string to bytes. -/
theorem c_convSb {src dst e sz bytes d : Nat} {x : Operand} {b : ByteArray} (hg : o.guard = none) (ho : o.op = .convert src dst x) [hs : StrT P src] [hT : SliceT P dst e sz bytes] [he : IntT P e .u8] (hx : ev s x = some (.string b)) (h1d : o.dst = some d) (h2d : Nat.blt d n = true)
    (hk : ∀ g c, b.size ≤ c → SL P G n ops Q rest ((d, .slice (some ⟨g, 0, none⟩) b.size c) :: s) (.obj g (bytesObj e (nums b) (c - b.size)) :: H)) : SL P G n ops Q (o :: rest) s H := by
  obtain ⟨hu, -, -, -⟩ := hT.here
  have hd := okd (n := n) h1d h2d
  simp only [← updd h1d] at hk
  refine sl_op (.inl hg) fun act w ha hw K hK => ?_
  have hcap : b.size ≤ grownCap w b.size 0 e := by
    exact grownCap_ge w b.size 0 e
  have hrun := run_bytes_of_string (P := P) w src dst e b hs.here hu he.here
  rw [bytesRow_eq b _ hcap] at hrun
  unfold Oper.wp execOp
  simp only [ho, ha.ev hx, Sem.run_bind, hrun, Result.andThen_ok]
  have hw2 : Holds G (.obj w.heap.size (bytesObj e (nums b) (grownCap w b.size 0 e - b.size)) :: H) (w.drew.alloc (bytesObj e (nums b) (grownCap w b.size 0 e - b.size))) := by
    refine hw.obj (by simp [World.alloc, World.drew, -World.alloc_eq, -World.drew_eq]) (by simp [World.alloc, World.drew, -World.alloc_eq, -World.drew_eq]) (fun k hk => ?_) rfl rfl rfl
    exact Below.heap_alloc w.drew _ k hk
  exact hK _ _ (hk _ _ hcap _ _ (ha.put _ _ hd) hw2)
/-- Bytes to a string. -/
theorem c_convBs {src dst e sz bytes : Nat} {x : Operand} {a : Option Addr} {m c : Nat} {xs : List Int} {vs : List Value} (ho : o.op = .convert src dst x) [hT : SliceT P src e sz bytes] [he : IntT P e .u8] [hs : StrT P dst] (hx : ev s x = some (.slice a m c)) [hr : RdC G H a vs] (hv : vs = octs xs) (hm : m = xs.length) : Yields P G n s H o (.string (strOfNums xs)) := fun act w ha hw => by
  subst hv
  unfold execOp; rw [ho]; simp only [ha.ev hx]
  exact run_value (conv_octs hT.here.1 he.here hs.here c hm (hr.here w hw))
theorem c_indexNum {t : Nat} {x y : Operand} {k : IntKind} {i : Int} {b : ByteArray} (ho : o.op = .index t x y) [h : StrT P t] (hx : ev s x = some (.string b)) (hy : ev s y = some (.int k i)) (h0 : 0 ≤ i) (hi : i < b.size) : Yields P G n s H o (.int .u8 ((nums b).getD i.toNat 0)) := by
  obtain ⟨v, h1, h2⟩ := nums_at b i.toNat (by omega)
  rw [← h2]
  exact c_indexStr ho hx hy h0 h1
variable {K : Value → Prop} {x y : Operand} {t : TypeId}
theorem bb_cat {a b : ByteArray} (h : a.size + b.size ≤ 9223372036854775807) (hk : K (.string (a ++ b))) : BB P .add t x y (.string a) (.string b) K := ⟨_, fun w => by
  have := run_string_add_sum (P := P) w a b h
  simp only [eqGuard, binOp]
  simpa using this, hk⟩
theorem str_beq (a b : ByteArray) : (a.toList == b.toList) = decide (a = b) := by
  rw [Bool.eq_iff_iff, beq_iff_eq, decide_eq_true_eq]
  exact ⟨toList_inj, fun e => by rw [e]⟩
theorem bb_seq {a b : ByteArray} (hk : K (.bool (decide (a = b)))) : BB P .eql t x y (.string a) (.string b) K := ⟨_, fun w => by
  rw [← str_beq]
  rfl, hk⟩
theorem bb_sne {a b : ByteArray} (hk : K (.bool (!decide (a = b)))) : BB P .neq t x y (.string a) (.string b) K := ⟨_, fun w => by
  rw [← str_beq]
  rfl, hk⟩
end
end Go.Sx
/- Regions that draw their order and make or change memory: what only reads is taken first, the rest goes in whatever order. -/
namespace Go.Sx
open Go Go.RowKit Go.Fw
/-- Out the plain way alone. -/
def np (Q : Exit → Act → World → Prop) : Exit → Act → World → Prop
  | .normal, a, w => Q .normal a w
  | _, _, _ => False
theorem np_imp {Q : Exit → Act → World → Prop} : ∀ e a w, np Q e a w → Q e a w := fun e a w h => by
  cases e <;> first | exact h | exact (h : False).elim
def mkL (m : Nat) (done : List Nat) : Array Bool := ((List.range m).map fun j => done.contains j).toArray
theorem mkL_nil (m : Nat) : mkL m [] = Array.replicate m false := by
  apply Array.toList_inj.1
  simp [mkL, List.map_const']
theorem mkL_set (m i : Nat) (done : List Nat) : (mkL m done).setIfInBounds i true = mkL m (i :: done) := by
  apply Array.ext
  · simp [mkL]
  · intro j h1 h2
    simp only [mkL, List.size_toArray, List.length_map, List.length_range] at h2
    have e2 : (mkL m (i :: done))[j] = (decide (j = i) || done.contains j) := by simp [mkL]
    rw [e2, Array.getElem_setIfInBounds (by simpa [mkL] using h2)]
    by_cases h : i = j
    · subst h; simp
    · rw [if_neg h]
      have : decide (j = i) = false := by simpa using fun e => h e.symm
      rw [this, Bool.false_or]
      simp [mkL]
class NSucc (k : Nat) (m : outParam Nat) : Prop where
  here : m = k + 1
instance : NSucc 0 1 := ⟨rfl⟩
instance : NSucc 1 2 := ⟨rfl⟩
instance : NSucc 2 3 := ⟨rfl⟩
instance : NSucc 3 4 := ⟨rfl⟩
instance : NSucc 4 5 := ⟨rfl⟩
instance : NSucc 5 6 := ⟨rfl⟩
instance : NSucc 6 7 := ⟨rfl⟩
instance : NSucc 7 8 := ⟨rfl⟩
instance : NSucc 8 9 := ⟨rfl⟩
instance : NSucc 9 10 := ⟨rfl⟩
instance : NSucc 10 11 := ⟨rfl⟩
instance : NSucc 11 12 := ⟨rfl⟩
instance : NSucc 12 13 := ⟨rfl⟩
instance : NSucc 13 14 := ⟨rfl⟩
instance : NSucc 14 15 := ⟨rfl⟩
instance : NSucc 15 16 := ⟨rfl⟩
instance : NSucc 16 17 := ⟨rfl⟩
instance : NSucc 17 18 := ⟨rfl⟩
instance : NSucc 18 19 := ⟨rfl⟩
instance : NSucc 19 20 := ⟨rfl⟩
instance : NSucc 20 21 := ⟨rfl⟩
instance : NSucc 21 22 := ⟨rfl⟩
instance : NSucc 22 23 := ⟨rfl⟩
instance : NSucc 23 24 := ⟨rfl⟩
instance : NSucc 24 25 := ⟨rfl⟩
instance : NSucc 25 26 := ⟨rfl⟩
instance : NSucc 26 27 := ⟨rfl⟩
instance : NSucc 27 28 := ⟨rfl⟩
instance : NSucc 28 29 := ⟨rfl⟩
instance : NSucc 29 30 := ⟨rfl⟩
instance : NSucc 30 31 := ⟨rfl⟩
instance : NSucc 31 32 := ⟨rfl⟩
instance : NSucc 32 33 := ⟨rfl⟩
instance : NSucc 33 34 := ⟨rfl⟩
instance : NSucc 34 35 := ⟨rfl⟩
instance : NSucc 35 36 := ⟨rfl⟩
instance : NSucc 36 37 := ⟨rfl⟩
instance : NSucc 37 38 := ⟨rfl⟩
instance : NSucc 38 39 := ⟨rfl⟩
instance : NSucc 39 40 := ⟨rfl⟩
instance : NSucc 40 41 := ⟨rfl⟩
instance : NSucc 41 42 := ⟨rfl⟩
instance : NSucc 42 43 := ⟨rfl⟩
instance : NSucc 43 44 := ⟨rfl⟩
instance : NSucc 44 45 := ⟨rfl⟩
instance : NSucc 45 46 := ⟨rfl⟩
instance : NSucc 46 47 := ⟨rfl⟩
instance : NSucc 47 48 := ⟨rfl⟩
instance : NSucc 48 49 := ⟨rfl⟩
instance : NSucc 49 50 := ⟨rfl⟩
instance : NSucc 50 51 := ⟨rfl⟩
instance : NSucc 51 52 := ⟨rfl⟩
instance : NSucc 52 53 := ⟨rfl⟩
instance : NSucc 53 54 := ⟨rfl⟩
instance : NSucc 54 55 := ⟨rfl⟩
instance : NSucc 55 56 := ⟨rfl⟩
instance : NSucc 56 57 := ⟨rfl⟩
instance : NSucc 57 58 := ⟨rfl⟩
instance : NSucc 58 59 := ⟨rfl⟩
instance : NSucc 59 60 := ⟨rfl⟩
instance : NSucc 60 61 := ⟨rfl⟩
instance : NSucc 61 62 := ⟨rfl⟩
instance : NSucc 62 63 := ⟨rfl⟩
instance : NSucc 63 64 := ⟨rfl⟩
instance : NSucc 64 65 := ⟨rfl⟩
instance : NSucc 65 66 := ⟨rfl⟩
instance : NSucc 66 67 := ⟨rfl⟩
instance : NSucc 67 68 := ⟨rfl⟩
instance : NSucc 68 69 := ⟨rfl⟩
instance : NSucc 69 70 := ⟨rfl⟩
instance : NSucc 70 71 := ⟨rfl⟩
instance : NSucc 71 72 := ⟨rfl⟩
instance : NSucc 72 73 := ⟨rfl⟩
instance : NSucc 73 74 := ⟨rfl⟩
instance : NSucc 74 75 := ⟨rfl⟩
instance : NSucc 75 76 := ⟨rfl⟩
instance : NSucc 76 77 := ⟨rfl⟩
instance : NSucc 77 78 := ⟨rfl⟩
instance : NSucc 78 79 := ⟨rfl⟩
instance : NSucc 79 80 := ⟨rfl⟩
section
variable {P : Program} {G : Ctx} {n : Nat} {ops : Array Oper} {Q : Post} {s : Fm} {H Hs : List Ent} {o : Oper} {fuel : Nat} {done : List Nat}
def SO (P : Program) (G : Ctx) (n : Nat) (ops : Array Oper) (Q : Post) (Hs : List Ent) (fuel : Nat) (done : List Nat) (s : Fm) (H : List Ent) : Prop :=
  (∀ w, Holds G H w → Holds G Hs w) → ∀ a w, Fr n s a → Holds G H w → wpAnyH P .any ops (np (lift G n Q)) (Holds G Hs) fuel (mkL ops.size done) a w
/-- The same, at place k. -/
def SOT (P : Program) (G : Ctx) (n : Nat) (ops : Array Oper) (Q : Post) (Hs : List Ent) (fuel : Nat) (done : List Nat) (s : Fm) (H : List Ent) (_k : Nat) : Prop := SO P G n ops Q Hs fuel done s H
def soQ (P : Program) (G : Ctx) (n : Nat) (ops : Array Oper) (Q : Post) (Hs : List Ent) (fuel : Nat) (done : List Nat) : Post
  | .normal, s, H => (∀ w, Holds G H w → Holds G Hs w) ∧ SO P G n ops Q Hs fuel done s H
  | _, _, _ => False
theorem c_drawno {id : Nat} {l : List Oper} [h : Wide P] (Hs : List Ent) (hs : ∀ w, Holds G H w → Holds G Hs w) (hk : SOT P G n l.toArray Q Hs l.length [] s H 0) : SW P G n (.region id l.toArray true) Q s H := fun a w ha hw => by
  refine Code.wp_mono np_imp (wp_region_held (S := Holds G Hs) h.here ?_)
  have := hk hs a _ ha hw.drew
  rw [mkL_nil] at this
  simpa using this
theorem so_back {k : Nat} (hs : ∀ w, Holds G H w → Holds G Hs w) (h : SOT P G n ops Q Hs fuel done s H k) : AtQ (soQ P G n ops Q Hs fuel done) .normal s H := ⟨hs, h⟩
theorem so_done {k : Nat} (hr : (Region.ready .any ops (mkL ops.size done)).isEmpty = true) (h : AtQ Q .normal s H) : SOT P G n ops Q Hs fuel done s H k := fun _ a w ha hw =>
  wpAnyH_done (List.isEmpty_iff.1 hr) ⟨s, H, ha, hw, h⟩ _
theorem sot_skip {k m : Nat} [hm : NSucc k m] (_hk : done.contains k = true) (h : SOT P G n ops Q Hs fuel done s H m) : SOT P G n ops Q Hs fuel done s H k := h
theorem sot_next {k m : Nat} [hm : NSucc k m] (_hk : Nat.blt k ops.size = true) (h : SOT P G n ops Q Hs fuel done s H m) : SOT P G n ops Q Hs fuel done s H k := h
/-- What an operation yields by reading alone. -/
def SY (P : Program) (G : Ctx) (n : Nat) (Hs : List Ent) (o : Oper) (s : Fm) (K : Value → Prop) : Prop := ∃ v, Yields P G n s Hs o v ∧ K v
theorem sot_take {k m d : Nat} [hm : NSucc k m] (ho : ops[k]? = some o) (hg : o.guard = none) (hd : o.dst = some d) (h2 : Nat.blt d n = true) (hns : Region.noSelect ops = true) (hr : (Region.ready .any ops (mkL ops.size done)).contains k = true) (hf : Region.free .any ops (mkL ops.size done) k = true)
    (h : SY P G n Hs o s fun v => SOT P G n ops Q Hs fuel (k :: done) ((d, v) :: s) H m) : SOT P G n ops Q Hs (fuel + 1) done s H k := fun hs a w ha hw => by
  obtain ⟨v, hy, hk⟩ := h
  refine wpAnyH_take (v := v) ho hns hf hr (fun _ _ _ e => e) (.inl ⟨Want.wanted (.inl hg) ha, fun w' hw' => hy a w' ha hw'⟩) (hs w hw) ?_
  rw [mkL_set]
  refine hk hs _ w ?_ hw
  rw [← updd hd v]
  exact ha.put _ _ (okd hd h2)
/-- An operation under a guard whose value is known. -/
theorem sot_takeg {k m i j d : Nat} {b c : Bool} {op : Op} {o' : Oper} {ty : TypeId} {pos : String} {af : Array Edge} [hm : NSucc k m] (ho : ops[k]? = some ⟨some d, op, ty, pos, af, some (i, b)⟩) (ho' : ops[i]? = some o') (hd' : o'.dst = some j) (hl : look s j = some (.bool c)) (h2 : Nat.blt d n = true) (hns : Region.noSelect ops = true) (hr : (Region.ready .any ops (mkL ops.size done)).contains k = true) (hf : Region.free .any ops (mkL ops.size done) k = true)
    (hq : (c = b → SY P G n Hs ⟨some d, op, ty, pos, af, none⟩ ((j, .bool b) :: s) fun v => SOT P G n ops Q Hs fuel (k :: done) ((d, v) :: (j, .bool b) :: s) H m) ∧ (c = !b → SOT P G n ops Q Hs fuel (k :: done) ((d, undef) :: (j, .bool (!b)) :: s) H m)) : SOT P G n ops Q Hs (fuel + 1) done s H k := fun hs a w ha hw => by
  have key : Fr n ((j, .bool c) :: s) a := ⟨ha.defers, ha.size, fun i u hi => by
    simp only [look] at hi
    cases hb : Nat.beq i j with
    | true => rw [hb, cond_true, Option.some.injEq] at hi; subst hi; rw [Nat.eq_of_beq_eq_true hb]; exact ha.has j _ hl
    | false => rw [hb, cond_false] at hi; exact ha.has i u hi⟩
  have hl' : look ((j, Value.bool c) :: s) j = some (.bool c) := by simp only [look, Nat.beq_refl, cond_true]
  by_cases hc : c = b
  · subst hc
    obtain ⟨v, hy, hk⟩ := hq.1 rfl
    refine wpAnyH_take (v := v) ho hns hf hr (fun _ _ _ e => e) (.inl ⟨Want.wanted (.inr ⟨i, c, o', j, rfl, ho', hd', hl'⟩) key, fun w' hw' => ?_⟩) (hs w hw) ?_
    · have := hy a w' key hw'
      unfold execOp at this ⊢
      exact this
    · rw [mkL_set]
      refine hk hs _ w ?_ hw
      have := key.put (some d) v (show okDst n (some d) = true from h2)
      exact this
  · have hc' : c = !b := by cases c <;> cases b <;> simp_all
    have hk := hq.2 hc'
    refine wpAnyH_take (v := undef) ho hns hf hr (fun _ _ _ e => e) (.inr ⟨Skips.wanted ⟨i, c, o', j, by rw [hc']; simp, ho', hd', hl'⟩ key, rfl⟩) (hs w hw) ?_
    rw [mkL_set]
    refine hk hs _ w ?_ hw
    rw [← hc']
    exact key.put (some d) undef (show okDst n (some d) = true from h2)
theorem Oper.wp_imp {o : Oper} {a : Act} {w : World} {K K' : Act → World → Prop} {Q Q' : Exit → Act → World → Prop} (h : ∀ a w, K a w → K' a w) (hQ : ∀ c a w, ¬ Q (.panic c) a w) (hQ2 : ∀ a w, ¬ Q .outgrown a w) (hh : o.wp P a w K Q) : o.wp P a w K' Q' := by
  unfold Oper.wp at *
  generalize (execOp a.eval o).run P w = r at *
  cases r with
  | ok n w' =>
    cases n <;> simp only [Oper.upon] at hh ⊢
    case value => exact h _ _ hh
    case skip => exact h _ _ hh
    case defer => exact h _ _ hh
    case enter =>
      refine Calls.mono hh fun e w'' he => ?_
      cases e with
      | returned u => exact h _ _ he
      | panicked c => exact absurd he (hQ _ _ _)
      | outgrown => obtain ⟨a, w, he⟩ := he; exact absurd he (hQ2 _ _)
    case row => exact Rows.mono hh fun _ _ he => h _ _ he
  | halt x w' =>
    cases x <;> simp only [Oper.upon] at hh ⊢
    case panic => exact absurd hh (hQ _ _ _)
/-- One of the operations from place k on that may come up comes up. -/
def SOA (P : Program) (G : Ctx) (n : Nat) (ops : Array Oper) (Q : Post) (Hs : List Ent) (fuel : Nat) (done : List Nat) (s : Fm) (H : List Ent) (k : Nat) : Prop :=
  ∀ i, k ≤ i → i ∈ Region.ready .any ops (mkL ops.size done) → ∃ o, ops[i]? = some o ∧ SL P G n ops (soQ P G n ops Q Hs fuel (i :: done)) [o] s H
theorem soa_end {k : Nat} (hk : Nat.ble ops.size k = true) : SOA P G n ops Q Hs fuel done s H k := fun i hi hr => by
  have := (mem_ready.1 hr).2
  obtain ⟨o, ho, -⟩ := this
  have h1 := Nat.le_of_ble_eq_true hk
  rw [Array.getElem?_eq_none (by omega)] at ho
  cases ho
theorem soa_no {k m : Nat} [hm : NSucc k m] (hr : (Region.ready .any ops (mkL ops.size done)).contains k = false) (h : SOA P G n ops Q Hs fuel done s H m) : SOA P G n ops Q Hs fuel done s H k := fun i hi hi2 => by
  rcases Nat.eq_or_lt_of_le hi with rfl | hlt
  · rw [List.contains_eq_mem, decide_eq_false_iff_not] at hr
    exact absurd hi2 hr
  · exact h i (by rw [hm.here]; omega) hi2
theorem soa_yes {k m : Nat} [hm : NSucc k m] (ho : ops[k]? = some o) (h1 : SL P G n ops (soQ P G n ops Q Hs fuel (k :: done)) [o] s H) (h : SOA P G n ops Q Hs fuel done s H m) : SOA P G n ops Q Hs fuel done s H k := fun i hi hi2 => by
  rcases Nat.eq_or_lt_of_le hi with rfl | hlt
  · exact ⟨o, ho, h1⟩
  · exact h i (by rw [hm.here]; omega) hi2
theorem sot_all {k : Nat} (hr : (Region.ready .any ops (mkL ops.size done)).isEmpty = false) (h : SOA P G n ops Q Hs fuel done s H 0) : SOT P G n ops Q Hs (fuel + 1) done s H k := fun hs a w ha hw => by
  refine wpAnyH_all rfl (fun e => by rw [e] at hr; cases hr) fun i hi => ?_
  obtain ⟨o, ho, hsl⟩ := h i (Nat.zero_le _) hi
  have h1 := hsl a w ha hw
  rw [mkL_set]
  unfold wpList at h1
  unfold wpOp
  simp only [ho]
  have hK : ∀ a w, wpList P ops (lift G n (soQ P G n ops Q Hs fuel (i :: done))) [] a w → Holds G Hs w ∧ wpAnyH P .any ops (np (lift G n Q)) (Holds G Hs) fuel (mkL ops.size (i :: done)) a w := fun a w hq => by
    obtain ⟨s', H', ha', hw', h2, h3⟩ := hq
    exact ⟨h2 w hw', h3 h2 a w ha' hw'⟩
  split
  · rename_i hwn
    rw [if_pos hwn] at h1
    rcases h1 with h1 | ⟨-, a1, w1, s1, H1, -, -, hf⟩
    · exact .inl (Oper.wp_imp hK (fun c a w ⟨_, _, _, _, hq⟩ => hq) (fun a w ⟨_, _, _, _, hq⟩ => hq) h1)
    · exact (hf : False).elim
  · rename_i hwn
    rw [if_neg hwn] at h1
    exact hK _ _ h1
/- What reads alone, kind by kind. -/
variable {K : Value → Prop} {x y : Operand} {t t' ty : TypeId} {d : Option Nat} {pos : String} {af : Array Edge} {i : Nat}
theorem sy_val {v : Value} (hy : Yields P G n s Hs o v) (hk : K v) : SY P G n Hs o s K := ⟨v, hy, hk⟩
theorem sy_bin {op : BinOp} {vx vy : Value} (hx : ev s x = some vx) (hy : ev s y = some vy) (h : BB P op t x y vx vy K) : SY P G n Hs ⟨d, Op.binOp op t x y t', ty, pos, af, none⟩ s K := by
  obtain ⟨v, h1, h2⟩ := h
  exact ⟨v, yb rfl hx hy h1, h2⟩
theorem sy_load {vx : Value} (hx : ev s x = some vx) (h : LD P G Hs t vx K) : SY P G n Hs ⟨d, Op.load t x, ty, pos, af, none⟩ s K := by
  obtain ⟨v, h1, h2⟩ := h
  refine ⟨v, fun a w ha hw => ?_, h2⟩
  unfold execOp; simp only [ha.ev hx]; exact run_value (h1 w hw)
theorem sy_pick {c : Operand} {b : Bool} (hc : ev s c = some (.bool b)) (h : PK s b x y K) : SY P G n Hs ⟨d, Op.pick c x y, ty, pos, af, none⟩ s K := by
  obtain ⟨v, h1, h2⟩ := h
  refine ⟨v, fun a w ha hw => ?_, h2⟩
  have := h1 n a ha
  unfold execOp; simp only [ha.ev hc, asBool, Sem.run_bind, Sem.run_pure, Result.andThen_ok, this]
theorem ky_move (h : SY P G n Hs ⟨d, Op.move x, ty, pos, af, none⟩ s K) : SY P G n Hs ⟨d, Op.move x, ty, pos, af, none⟩ s K := h
theorem ky_bin {op : BinOp} (h : SY P G n Hs ⟨d, Op.binOp op t x y t', ty, pos, af, none⟩ s K) : SY P G n Hs ⟨d, Op.binOp op t x y t', ty, pos, af, none⟩ s K := h
theorem ky_load (h : SY P G n Hs ⟨d, Op.load t x, ty, pos, af, none⟩ s K) : SY P G n Hs ⟨d, Op.load t x, ty, pos, af, none⟩ s K := h
theorem ky_asgn (h : SY P G n Hs ⟨d, Op.assign x, ty, pos, af, none⟩ s K) : SY P G n Hs ⟨d, Op.assign x, ty, pos, af, none⟩ s K := h
theorem ky_pick {c : Operand} (h : SY P G n Hs ⟨d, Op.pick c x y, ty, pos, af, none⟩ s K) : SY P G n Hs ⟨d, Op.pick c x y, ty, pos, af, none⟩ s K := h
theorem ky_field (h : SY P G n Hs ⟨d, Op.fieldAddr t x i, ty, pos, af, none⟩ s K) : SY P G n Hs ⟨d, Op.fieldAddr t x i, ty, pos, af, none⟩ s K := h
theorem ky_un {u : UnOp} (h : SY P G n Hs ⟨d, Op.unOp u t x, ty, pos, af, none⟩ s K) : SY P G n Hs ⟨d, Op.unOp u t x, ty, pos, af, none⟩ s K := h
theorem ky_extr (h : SY P G n Hs ⟨d, Op.extract x i, ty, pos, af, none⟩ s K) : SY P G n Hs ⟨d, Op.extract x i, ty, pos, af, none⟩ s K := h
theorem ky_build {parts : Array (Nat × Operand)} (h : SY P G n Hs ⟨d, Op.build t parts, ty, pos, af, none⟩ s K) : SY P G n Hs ⟨d, Op.build t parts, ty, pos, af, none⟩ s K := h
theorem ky_conv (h : SY P G n Hs ⟨d, Op.convert t t' x, ty, pos, af, none⟩ s K) : SY P G n Hs ⟨d, Op.convert t t' x, ty, pos, af, none⟩ s K := h
theorem ky_index (h : SY P G n Hs ⟨d, Op.index t x y, ty, pos, af, none⟩ s K) : SY P G n Hs ⟨d, Op.index t x y, ty, pos, af, none⟩ s K := h
theorem ky_indexA (h : SY P G n Hs ⟨d, Op.indexAddr t x y, ty, pos, af, none⟩ s K) : SY P G n Hs ⟨d, Op.indexAddr t x y, ty, pos, af, none⟩ s K := h
theorem ky_nilc (h : SY P G n Hs ⟨d, Op.nilCheck x, ty, pos, af, none⟩ s K) : SY P G n Hs ⟨d, Op.nilCheck x, ty, pos, af, none⟩ s K := h
theorem ky_bi {b : Builtin} {xs : Array Operand} {ats : Array TypeId} (h : SY P G n Hs ⟨d, Op.call { callee := .builtin b, args := xs, argTypes := ats }, ty, pos, af, none⟩ s K) : SY P G n Hs ⟨d, Op.call { callee := .builtin b, args := xs, argTypes := ats }, ty, pos, af, none⟩ s K := h
theorem ky_slice {lo hi mx : Option Operand} (h : SY P G n Hs ⟨d, Op.slice t x lo hi mx, ty, pos, af, none⟩ s K) : SY P G n Hs ⟨d, Op.slice t x lo hi mx, ty, pos, af, none⟩ s K := h
theorem ky_fieldV (h : SY P G n Hs ⟨d, Op.field t x i, ty, pos, af, none⟩ s K) : SY P G n Hs ⟨d, Op.field t x i, ty, pos, af, none⟩ s K := h
theorem sy_sliceSl {t e sz bytes : Nat} {x : Operand} {lo hi : Option Operand} {a : Option Addr} {len c : Nat} {l h : Int} {Hr : List Ent} {xs : List Value} (ho : o.op = .slice t x lo hi none) [hT : SliceT P t e sz bytes] (hx : ev s x = some (.slice a len c)) (hl : bnd s 0 lo = some l) (hh : bnd s len hi = some h)
    (hr : Rd G Hr a xs) (hlen : xs.length = len * sz) (h0 : 0 ≤ l) (h1 : l ≤ h) (h2 : h ≤ len) (h3 : len ≤ c)
    (hk : ∀ a', RdC G Hr a' ((xs.drop (l.toNat * sz)).take ((h.toNat - l.toNat) * sz)) → K (.slice a' (h.toNat - l.toNat) (c - l.toNat))) : SY P G n Hs o s K := by
  obtain ⟨hu, hsz, -, -⟩ := hT.here
  have hS := hT.size
  refine ⟨.slice (if c = l.toNat then a else a.map (·.add (l.toNat * sz))) (h.toNat - l.toNat) (c - l.toNat), fun act w ha _ => ?_, hk _ ⟨?_⟩⟩
  · unfold execOp; rw [ho]; simp only [ha.ev hx]
    refine run_value ?_
    have hb := run_bounds (P := P) (isSl := true) (w := w) (cap := c) ha hl hh h0 h1 (by omega)
    cases hq : P.info? e with
    | none => simp [hq] at hS
    | some inf =>
      have hs : inf.size = sz := by simpa [hq] using hS
      have hz : (sizeOf e).run P w = .ok sz w := by simp [sizeOf, typeInfo, program, Sem.run, hq, hs]
      simp only [Instr.sliceAt, Sem.run_bind, run_underlying hu, Result.andThen_ok, Instr.slice, Option.map_none]
      simp [hb, hz, Sem.run]
  · split
    · rename_i hc
      have e0 : (h.toNat - l.toNat) * sz = 0 := by rw [show h.toNat - l.toNat = 0 from by omega, Nat.zero_mul]
      rw [e0, List.take_zero]
      exact fun w _ => At.nil w a
    · refine hr.piece ?_
      rw [hlen, ← Nat.add_mul]
      exact Nat.mul_le_mul_right sz (by omega)
theorem g_sot {k : Nat} (h : SOT P G n ops Q Hs fuel done s H k) : SOT P G n ops Q Hs fuel done s H k := h
theorem g_soa {k : Nat} (h : SOA P G n ops Q Hs fuel done s H k) : SOA P G n ops Q Hs fuel done s H k := h
theorem g_sy (h : SY P G n Hs o s K) : SY P G n Hs o s K := h
end
end Go.Sx
/- More rules: the empty literal, slices against nil, results that lie in blocks, arrays by an index. -/
namespace Go.Sx
open Go Go.RowKit Go.Fw
section
variable {P : Program} {G : Ctx} {n : Nat} {ops : Array Oper} {Q : Post} {s : Fm} {H : List Ent} {o : Oper} {rest : List Oper}
theorem c_bs0 {t e sz bytes d : Nat} (hg : o.guard = none) (ho : o.op = .buildSlice t 0 #[]) [hT : SliceT P t e sz bytes] (hb : builtSlice P e 0 [] = some #[]) (h1d : o.dst = some d) (h2d : Nat.blt d n = true)
    (h : ∀ b, SL P G n ops Q rest ((d, .slice (some ⟨b, 0, none⟩) 0 0) :: s) (.own e sz (some ⟨b, 0, none⟩) 0 0 [] :: H)) : SL P G n ops Q (o :: rest) s H :=
  sl_buildSlice (vs := []) (cs := []) hg ho .nil hT.here.1 hT.size hb (by simp) (Nat.zero_le _) h1d h2d h
variable {K : Value → Prop} {x y : Operand} {t : TypeId}
theorem bb_enil {e sz bytes : Nat} [hT : SliceT P t e sz bytes] {a : Option Addr} {m c m' c' : Nat} (hk : K (.bool a.isNone)) : BB P .eql t x y (.slice a m c) (.slice none m' c') K := ⟨_, fun w => by
  have := Lib.run_eql_slice_nil (P := P) w t e a m c m' c' hT.here.1
  simpa [eqGuard] using this, hk⟩
/-- A result that lies in a block. -/
theorem res_agg {p b sz : Nat} {t t' : TypeId} {cs : List Value} {l : List ResultVar} {vs : List Value} (h : look s p = some (.pointer (some ⟨b, 0, none⟩))) [hm : HasBlk H b t' cs] [ha : Ag P t sz] (hl : cs.length = sz) (hr : Res s H P l vs) : Res s H P (.cell p t :: l) (.agg cs.toArray :: vs) := by
  obtain ⟨d, h1, h2, h3⟩ := ha.here
  exact .agg h hm.here h1 h2 (by rw [h3, hl]) hr
theorem e_scr {R : Value → List Ent → Prop} {rs : List ResultVar} {vs : List Value} {e : Exit} (H' : List Ent) (he : e = .normal ∨ e = .ret) (hr : Res s H P rs vs) (hH : ∀ w, Holds G H w → Holds G H' w) (h : R (resV vs) H') : AtQ (fpost G P rs R) e s H := at_fpost e he hr hH h
theorem e_svr {H0 : List Ent} {rs : List ResultVar} {vs : List Value} {v : Value} {e : Exit} (he : e = .normal ∨ e = .ret) (hr : Res s H P rs vs) (hH : ∀ w, Holds G H w → Holds G H0 w) (h : resV vs = v) : AtQ (fpost G P rs fun u H' => u = v ∧ H' = H0) e s H := at_fpost e he hr hH ⟨h, rfl⟩
/-- The place of an element of an array that lies in a block. -/
theorem c_indexP {t len e sz : Nat} {x y : Operand} {b off : Nat} {k : IntKind} {i : Int} (ho : o.op = .indexAddr t x y) [h : ArrT P t len e sz] (hx : ev s x = some (.pointer (some ⟨b, off, none⟩))) (hy : ev s y = some (.int k i)) (h0 : 0 ≤ i) (h1 : i < (len : Int)) : Yields P G n s H o (.pointer (some ⟨b, off + i.toNat * sz, none⟩)) := fun a w ha _ => by
  obtain ⟨hu, hi⟩ := h.here
  unfold execOp; rw [ho]; simp only [ha.ev hx, ha.ev hy]
  refine run_value ?_
  cases hq : P.info? e with
  | none => simp [hq] at hi
  | some inf =>
    have hs : inf.size = sz := by simpa [hq] using hi
    simp only [Instr.indexAt, Instr.sureAddr, asIntOf, Sem.run_bind, Sem.run_pure, Result.andThen_ok, run_underlying hu]
    rw [if_pos ⟨h0, h1⟩]
    simp only [sizeOf, typeInfo, Sem.run_bind, Sem.run_pure, Result.andThen_ok]
    simp [hq, hs, program, Sem.run, Addr.add_mid]
end
end Go.Sx
/- More rules: the empty literal; a contract for the worlds in which the call is. -/
namespace Go.Sx
open Go Go.RowKit Go.Fw
section
variable {P : Program} {G : Ctx} {n : Nat} {ops : Array Oper} {Q : Post} {s : Fm} {H : List Ent} {o : Oper} {rest : List Oper}
theorem run_buildSlice0 (w : World) (t e sz : Nat) (hu : P.underlying t = some (.slice e)) (hi : (P.info? e).map (·.size) = some sz) :
    (Instr.buildSlice t 0 #[]).run P w = .ok (.slice (some ⟨w.heap.size, 0, none⟩) 0 0) (w.alloc (.cells #[] e)) := by
  cases hq : P.info? e with
  | none => simp [hq] at hi
  | some ie =>
    have e0 : (Array.range 0).map (fun _ : Nat => (default : Value)) = #[] := by
      apply Array.eq_empty_of_size_eq_zero
      simp
    simp [Instr.buildSlice, run_underlying hu, sizeOf, typeInfo, hq, Instr.fill, newRow, e0]
theorem c_bsl0 {t e sz bytes d : Nat} (hg : o.guard = none) (ho : o.op = .buildSlice t 0 #[]) [hT : SliceT P t e sz bytes] (h1d : o.dst = some d) (h2d : Nat.blt d n = true)
    (h : ∀ b, SL P G n ops Q rest ((d, .slice (some ⟨b, 0, none⟩) 0 0) :: s) (.own e sz (some ⟨b, 0, none⟩) 0 0 [] :: H)) : SL P G n ops Q (o :: rest) s H := by
  have hd := okd (n := n) h1d h2d
  simp only [← updd h1d] at h
  refine sl_op (.inl hg) fun a w ha hw K hK => ?_
  unfold Oper.wp execOp
  simp only [ho, Sem.run_bind, Array.map_empty, run_buildSlice0 w t e sz hT.here.1 hT.size, Result.andThen_ok]
  have hw2 := hw.alloc e []
  have hw3 : Holds G (.own e sz (some ⟨w.heap.size, 0, none⟩) 0 0 [] :: H) (w.alloc (.cells #[] e)) := by
    refine ⟨hw2.below, hw2.base, fun x hx => ?_, List.pairwise_cons.2 ⟨fun y hy k hk => (List.pairwise_cons.1 hw2.apart).1 y hy k hk, (List.pairwise_cons.1 hw2.apart).2⟩⟩
    rcases List.mem_cons.1 hx with rfl | hx
    · have := hw2.ok _ List.mem_cons_self
      exact ⟨by simp, .inr ⟨w.heap.size, 0, #[], rfl, this.1, this.2, Nat.le_refl _, by unfold maxLen; omega, by simp, by simp⟩⟩
    · exact hw2.ok x (List.mem_cons_of_mem _ hx)
  exact hK _ _ (h _ _ _ (ha.put _ _ hd) hw3)
theorem g_atso {Hs : List Ent} {fuel : Nat} {done : List Nat} (h : AtQ (soQ P G n ops Q Hs fuel done) .normal s H) : AtQ (soQ P G n ops Q Hs fuel done) .normal s H := h
theorem sc_here {f : FuncId} {args : List Value} {R : Value → List Ent → Prop} (hc : Callee P f) (h : ∀ w, Holds G H w → SC P G f args H R) : SC P G f args H R := ⟨hc, fun w hw => (h w hw).2 w hw⟩
theorem sv_here {f : FuncId} {args : List Value} {v : Value} (hc : Callee P f) (h : ∀ w, Holds G H w → SV P G f args H v) : SV P G f args H v := sc_here hc h
theorem e_scc {R : Value → List Ent → Prop} {p b sz : Nat} {t t' : TypeId} {cs : List Value} {rs : List ResultVar} {vs : List Value} {e : Exit} (H' : List Ent) (he : e = .normal ∨ e = .ret) (hp : look s p = some (.pointer (some ⟨b, 0, none⟩))) [hm : HasBlk H b t' cs] [ha : Ag P t sz] (hl : cs.length = sz) (hr : res? s rs = some vs) (hH : ∀ w, Holds G H w → Holds G H' w) (h : R (resV (.agg cs.toArray :: vs)) H') : AtQ (fpost G P (.cell p t :: rs) R) e s H :=
  e_scr H' he (res_agg hp hl (res?_of hr)) hH h
theorem e_scc2 {R : Value → List Ent → Prop} {p b sz p2 b2 sz2 : Nat} {t t' t2 t2' : TypeId} {cs cs2 : List Value} {rs : List ResultVar} {vs : List Value} {e : Exit} (H' : List Ent) (he : e = .normal ∨ e = .ret) (hp : look s p = some (.pointer (some ⟨b, 0, none⟩))) [hm : HasBlk H b t' cs] [ha : Ag P t sz] (hl : cs.length = sz) (hp2 : look s p2 = some (.pointer (some ⟨b2, 0, none⟩))) [hm2 : HasBlk H b2 t2' cs2] [ha2 : Ag P t2 sz2] (hl2 : cs2.length = sz2) (hr : res? s rs = some vs) (hH : ∀ w, Holds G H w → Holds G H' w) (h : R (resV (.agg cs.toArray :: .agg cs2.toArray :: vs)) H') : AtQ (fpost G P (.cell p t :: .cell p2 t2 :: rs) R) e s H :=
  e_scr H' he (res_agg hp hl (res_agg hp2 hl2 (res?_of hr))) hH h
/-- There is room for what is there. -/
class CapC (G : Ctx) (H : List Ent) (a : Option Addr) (m c : Nat) : Prop where
  here : ∀ w, Holds G H w → m ≤ c
instance (priority := low) capTail {a : Option Addr} {m c : Nat} {x : Ent} [h : CapC G H a m c] : CapC G (x :: H) a m c := ⟨fun w hw => h.here w hw.drop⟩
instance capOwn {e sz m c : Nat} {a : Option Addr} {xs : List Value} : CapC G (.own e sz a m c xs :: H) a m c := ⟨fun w hw => by
  have ho : w.ownsRow G.B e sz (.slice a m c) m xs := hw.ok _ List.mem_cons_self
  rcases ho.2 with ⟨hv, h0⟩ | ⟨g, cap, cur, hv, -, -, hn, -⟩
  · omega
  · have : c = cap := by injection hv
    omega⟩
theorem At.none_nil {w : World} {xs : List Value} (h : At w none xs) : xs = [] := by
  rcases h with h | ⟨b, o, e, -⟩
  · exact h
  · cases e
end
end Go.Sx
/- More rules: a struct or an array is equal to itself. -/
namespace Go.Sx
open Go Go.RowKit Go.Fw
/-- Equal to itself, at depth d. -/
def EqSelf (P : Program) (d : Nat) (t : TypeId) (v : Value) : Prop := ∀ w, (Op.equalIn d t v v).run P w = .ok true w
section
variable {P : Program} {d : Nat} {t e : TypeId}
theorem eqself_int {k : IntKind} (z : Int) [h : IntT P t k] : EqSelf P (d + 1) t (.int k z) := fun w => by rw [run_equalIn_int w d t k k z z h.here]; simp
theorem eqself_str (s : ByteArray) [h : StrT P t] : EqSelf P (d + 1) t (.string s) := fun w => by rw [run_equalIn_string w d t s s h.here]; simp
theorem eqself_bool (b : Bool) (h : P.underlying t = some .bool) : EqSelf P (d + 1) t (.bool b) := fun w => by rw [run_equalIn_bool' w d t b b h]; simp
theorem part_one {cs : List Value} {off : Nat} {v : Value} [h : Sc P t] (hv : cs[off]? = some v) (w : World) : (part t cs.toArray off).run P w = .ok v w := by
  obtain ⟨d, hd, hrow, -⟩ := h.here
  simp only [part, Sem.run_bind, run_isAgg hd, hrow, Result.andThen_ok, Bool.false_eq_true, if_false]
  simp [hv, Sem.run]
theorem part_agg {cs cs' : List Value} {off sz : Nat} [h : Ag P t sz] (hv : (cs.drop off).take sz = cs') (w : World) : (part t cs.toArray off).run P w = .ok (.agg cs'.toArray) w := by
  obtain ⟨d, hd, hrow, hi⟩ := h.here
  cases hq : P.info? t with
  | none => simp [hq] at hi
  | some inf =>
    have hs : inf.size = sz := by simpa [hq] using hi
    have hz : (sizeOf t).run P w = .ok sz w := by simp [sizeOf, typeInfo, program, Sem.run, hq, hs]
    simp only [part, Sem.run_bind, run_isAgg hd, hrow, Result.andThen_ok, if_true, hz, Sem.run_pure]
    congr 2
    rw [← hv]
    apply Array.ext'
    simp
/-- An array whose elements are of one cell. -/
theorem eqself_arr {n : Nat} {cs : List Value} [h : ArrT P t n e 1] [he : Sc P e] (hc : P.cellsOf e = 1) (hs : ∀ j, j < n → ∃ v, cs[j]? = some v ∧ EqSelf P d e v) : EqSelf P (d + 1) t (.agg cs.toArray) := fun w => by
  obtain ⟨hu, hi⟩ := h.here
  cases hq : P.info? e with
  | none => simp [hq] at hi
  | some inf =>
    rw [run_equalIn_array w d cs.toArray cs.toArray hu hq, hc]
    have key : ∀ (is : List Nat), (∀ j ∈ is, j < n) → (Op.eqItems d e 1 cs.toArray cs.toArray is).run P w = .ok true w := by
      intro is
      induction is with
      | nil => intro _; simp [Op.eqItems]
      | cons j is ih =>
        intro hj
        obtain ⟨v, hv, hself⟩ := hs j (hj j (by simp))
        have hp := part_one (P := P) (t := e) (cs := cs) (off := j * 1) (v := v) (by rw [Nat.mul_one]; exact hv) w
        simp only [Op.eqItems, Sem.run_bind, hp, Result.andThen_ok, hself w, Bool.not_true, Bool.false_eq_true, if_false]
        exact ih fun k hk => hj k (by simp [hk])
    exact key _ fun j hj => List.mem_range.1 hj
theorem eqself_struct {cs : List Value} (ht : P.underlying t = some (.struct (P.fieldsOf t))) (hp : P.stoodInHeld t = false) (hs : ∀ f ∈ (P.fieldsOf t).toList, f.name ≠ "_" ∧ ∃ v, (∀ w, (part f.type cs.toArray f.offset).run P w = .ok v w) ∧ EqSelf P d f.type v) : EqSelf P (d + 1) t (.agg cs.toArray) := fun w => by
  rw [run_equalIn_struct w d t _ _ ht hp]
  have key : ∀ (fs : List Field), (∀ f ∈ fs, f.name ≠ "_" ∧ ∃ v, (∀ w, (part f.type cs.toArray f.offset).run P w = .ok v w) ∧ EqSelf P d f.type v) → (Op.eqFields d cs.toArray cs.toArray fs).run P w = .ok true w := by
    intro fs
    induction fs with
    | nil => intro _; simp [Op.eqFields]
    | cons f fs ih =>
      intro hf
      obtain ⟨hn, v, hv, hself⟩ := hf f (by simp)
      simp only [Op.eqFields, ne_eq, hn, not_false_eq_true, if_true, Sem.run_bind, hv, Result.andThen_ok, hself w, Bool.not_true, Bool.false_eq_true, if_false]
      exact ih fun g hg => hf g (by simp [hg])
  exact key _ hs
variable {K : Value → Prop} {x y : Operand}
theorem bb_self {cs : Array Value} (hs : EqSelf P 10000 t (.agg cs)) (hm : P.eqGuardType P.depth t = false) (hk : K (.bool true)) : BB P .eql t x y (.agg cs) (.agg cs) K := ⟨_, fun w => by
  have h1 := run_eqGuard_agg w .eql t x y cs cs hm
  have h2 := run_eql_struct w (P := P) t cs cs
  rw [hs w] at h2
  simp only [Sem.run_bind, h1, Result.andThen_ok, h2], hk⟩
end
end Go.Sx
/- More rules: copy into a row that is held; pieces of such a row by their place. -/
namespace Go.Sx
open Go Go.RowKit Go.Fw
section
variable {P : Program} {G : Ctx} {n : Nat} {ops : Array Oper} {Q : Post} {s : Fm} {H : List Ent} {o : Oper} {rest : List Oper}
/-- A piece of a row that is held, by its place. -/
theorem y_sliceAt {t e sz bytes : Nat} {x : Operand} {lo hi : Option Operand} {b len c : Nat} {l h : Int} (ho : o.op = .slice t x lo hi none) [hT : SliceT P t e sz bytes] (hx : ev s x = some (.slice (some ⟨b, 0, none⟩) len c)) (hl : bnd s 0 lo = some l) (hh : bnd s len hi = some h) (h0 : 0 ≤ l) (h1 : l ≤ h) (h2 : h ≤ c) (hlt : l < c) : Yields P G n s H o (.slice (some ⟨b, l.toNat * sz, none⟩) (h.toNat - l.toNat) (c - l.toNat)) := fun act w ha _ => by
  obtain ⟨hu, hsz, -, -⟩ := hT.here
  have hS := hT.size
  unfold execOp; rw [ho]; simp only [ha.ev hx]
  refine run_value ?_
  have hb := run_bounds (P := P) (isSl := true) (w := w) (cap := c) ha hl hh h0 h1 h2
  cases hq : P.info? e with
  | none => simp [hq] at hS
  | some inf =>
    have hs : inf.size = sz := by simpa [hq] using hS
    have hz : (sizeOf e).run P w = .ok sz w := by simp [sizeOf, typeInfo, program, Sem.run, hq, hs]
    have hne : ¬ c = l.toNat := by omega
    simp only [Instr.sliceAt, Sem.run_bind, run_underlying hu, Result.andThen_ok, Instr.slice, Option.map_none]
    simp [hb, hz, Sem.run, hne, Addr.add_mid]
/-- The beginning of a row that is held. -/
theorem y_slice0 {t e sz bytes : Nat} {x : Operand} {hi : Option Operand} {b len c : Nat} {h : Int} (ho : o.op = .slice t x none hi none) [hT : SliceT P t e sz bytes] (hx : ev s x = some (.slice (some ⟨b, 0, none⟩) len c)) (hh : bnd s len hi = some h) (h1 : 0 ≤ h) (h2 : h ≤ c) : Yields P G n s H o (.slice (some ⟨b, 0, none⟩) h.toNat c) := fun act w ha _ => by
  obtain ⟨hu, hsz, -, -⟩ := hT.here
  have hS := hT.size
  unfold execOp; rw [ho]; simp only [ha.ev hx]
  refine run_value ?_
  have hb := run_bounds (P := P) (isSl := true) (w := w) (cap := c) (lo := none) ha rfl hh (by omega : (0 : Int) ≤ ((0 : Nat) : Int)) (by omega) h2
  cases hq : P.info? e with
  | none => simp [hq] at hS
  | some inf =>
    have hs : inf.size = sz := by simpa [hq] using hS
    have hz : (sizeOf e).run P w = .ok sz w := by simp [sizeOf, typeInfo, program, Sem.run, hq, hs]
    simp only [Option.map_none] at hb
    simp only [Instr.sliceAt, Sem.run_bind, run_underlying hu, Result.andThen_ok, Instr.slice, Option.map_none]
    simp [hb, hz, Sem.run, Addr.add_mid]
/-- copy, into a row that is held. -/
theorem c_copy {x y : Operand} {dT sT e bytes dl dc sl sc len c b off m d : Nat} {a2 : Option Addr} {xs ys : List Value} {H' : List Ent} (hg : o.guard = none) (ho : o.op = .call { callee := .builtin .copy, args := #[x, y], argTypes := #[dT, sT] }) [hT : SliceT P dT e 1 bytes] (hx : ev s x = some (.slice (some ⟨b, off, none⟩) dl dc)) (hy : ev s y = some (.slice a2 sl sc)) [hp : PickOwn H (some ⟨b, 0, none⟩) e 1 len c xs H'] [hr : RdC G H a2 ys]
    (hm : m = min sl dl) (hys : m ≤ ys.length) (hfit : off + m ≤ len) (h1 : ∀ v ∈ ys.take m, v.oneCell' = true) (h1d : o.dst = some d) (h2d : Nat.blt d n = true)
    (hk : SL P G n ops Q rest ((d, .int .i64 m) :: s) (.own e 1 (some ⟨b, 0, none⟩) len c (xs.take off ++ ys.take m ++ xs.drop (off + m)) :: H')) : SL P G n ops Q (o :: rest) s H := by
  have hd := okd (n := n) h1d h2d
  simp only [← updd h1d] at hk
  refine sl_op (.inl hg) fun act w ha hw K hK => ?_
  have hr' := hr.here w hw
  have hw := hw.pick hp.here
  have hown : w.ownsRow G.B e 1 (.slice (some ⟨b, 0, none⟩) len c) len xs := hw.ok _ List.mem_cons_self
  have hsz := hT.size
  have hu := hT.here.1
  unfold Oper.wp execOp
  simp only [ho, resolve, invoke, builtin, Sem.run_bind, Sem.run_pure, Result.andThen_ok, List.map_toArray, List.map_cons, List.map_nil, ha.ev hx, ha.ev hy]
  rcases Nat.eq_zero_or_pos m with h0 | h0
  · have hrun := run_copy_none (P := P) w dT sT o.type e (some ⟨b, off, none⟩) a2 dl dc sl sc hu hsz (by rw [← h0]; exact hm.symm)
    simp only [hrun, Result.andThen_ok]
    subst h0
    have e1 : xs.take off ++ ys.take 0 ++ xs.drop (off + 0) = xs := by simp
    rw [e1] at hk
    exact hK _ _ (hk _ _ (ha.put _ _ hd) hw)
  · obtain ⟨hlen, ⟨hv, hz⟩ | ⟨g, cap, cur, hv, hB, hh, hn, hmx, hs, ht⟩⟩ := hown
    · omega
    · obtain ⟨rfl, rfl⟩ : b = g ∧ c = cap := by
        simp only [Value.slice.injEq, Option.some.injEq, Addr.mk.injEq, and_true, true_and] at hv
        exact hv
      obtain ⟨b2, off2, rfl, hc2⟩ := At.someAt hr' (by omega)
      have hcl : (ys.take m).length = m := by rw [List.length_take]; omega
      have hrun := run_copy_row (P := P) w dT sT o.type e b off dl dc ⟨b2, off2, none⟩ sl sc cur e (ys.take m) hu hsz hh (by rw [hcl]; exact hm) (fun j v hj => by
        have hj' : j < m := by
          have := (List.getElem?_eq_some_iff.1 hj).1
          rw [hcl] at this
          exact this
        rw [Addr.add_mid, hc2 j (by omega)]
        rw [List.getElem?_take_of_lt hj'] at hj
        exact hj) (by rw [hcl]; omega) h1
      simp only [hrun, Result.andThen_ok, hcl]
      have hxl : xs.length = len := by rw [hlen, Nat.mul_one]
      have hcur : xs = cur.toList.take len := by rw [← ht, Nat.mul_one]
      have e2 : (cur.toList.take off ++ ys.take m ++ cur.toList.drop (off + m)).take (len * 1) = xs.take off ++ ys.take m ++ xs.drop (off + m) := by
        rw [Nat.mul_one, hcur, List.take_take, Nat.min_eq_left (by omega), List.drop_take]
        have h3 : (cur.toList.take off).length = off := by rw [List.length_take]; simp; omega
        rw [List.take_append, List.take_of_length_le (by rw [List.length_append, h3, hcl]; omega)]
        congr 2
        rw [List.length_append, h3, hcl]
      have hw' : Holds G (.own e 1 (some ⟨b, 0, none⟩) len c (xs.take off ++ ys.take m ++ xs.drop (off + m)) :: H') (w.setRow b (cur.toList.take off ++ ys.take m ++ cur.toList.drop (off + m)).toArray) := by
        obtain ⟨hap, hapH⟩ := List.pairwise_cons.1 hw.apart
        refine ⟨below_setRow hw.below hB _, by simpa using hw.base, fun z hz => ?_, List.pairwise_cons.2 ⟨fun y hy k hk => hap y hy k hk, hapH⟩⟩
        rcases List.mem_cons.1 hz with rfl | hz
        · refine ⟨?_, .inr ⟨b, c, (cur.toList.take off ++ ys.take m ++ cur.toList.drop (off + m)).toArray, rfl, hB, setRow_heap w b _ _ e (0, 0) hh, hn, hmx, ?_, by rw [List.toList_toArray]; exact e2⟩⟩
          · rw [List.length_append, List.length_append, List.length_take, List.length_drop, hcl]
            omega
          · rw [List.size_toArray, List.length_append, List.length_append, List.length_take, List.length_drop, hcl, Array.length_toList]
            omega
        · exact Ent.ok_of (hw.ok z (List.mem_cons_of_mem _ hz)) fun j hj => setRow_other w b j _ (fun e => hap z hz b rfl (e ▸ hj))
      exact hK _ _ (hk _ _ (ha.put _ _ hd) hw')
variable {K : Value → Prop} {x y : Operand} {t : TypeId}
/-- The lower half of a small number is itself. -/
theorem u64_and32 (p : Int) (h0 : 0 ≤ p) (h1 : p < 4294967296) : bits .and .u64 p 4294967295 = p := by
  obtain ⟨m, rfl⟩ := Int.eq_ofNat_of_zero_le h0
  have hm : (BitVec.ofInt 64 (m : Int)).toNat = m := ofInt_u64 m (by omega)
  have hn : (BitVec.ofInt 64 ((4294967295 : Nat) : Int)).toNat = 4294967295 := ofInt_u64 4294967295 (by omega)
  unfold bits
  show IntKind.u64.wrap (((BitVec.ofInt 64 (m : Int)) &&& (BitVec.ofInt 64 ((4294967295 : Nat) : Int))).toNat : Int) = _
  rw [BitVec.toNat_and, hm, hn]
  have e : m &&& 4294967295 = m := by
    rw [show (4294967295 : Nat) = 2 ^ 32 - 1 from rfl, Nat.and_two_pow_sub_one_eq_mod]
    exact Nat.mod_eq_of_lt (by omega)
  rw [e]
  exact IntWalk.u64_in _ (by omega)
theorem st_and32 {p : Int} (h0 : 0 ≤ p) (h1 : p < 4294967296) : still P (do eqGuard .and t x y (.int .u64 p) (.int .u64 4294967295); binOp .and t (.int .u64 p) (.int .u64 4294967295)) = some (.int .u64 p) := by
  have h := u64_and32 p h0 h1
  rw [← h]
  conv => rhs; rw [h]
  conv => lhs; rw [h]
  show some (Value.int .u64 (bits .and .u64 p 4294967295)) = _
  rw [h]
theorem bb_and32 {p : Int} (h0 : 0 ≤ p) (h1 : p < 4294967296) (hk : K (.int .u64 p)) : BB P .and t x y (.int .u64 p) (.int .u64 4294967295) K := bb_of (st_and32 h0 h1) hk
end
end Go.Sx
/- More rules: a store of several cells, into a part of a block, into a row. -/
namespace Go.Sx
open Go Go.RowKit Go.Fw
section
variable {P : Program} {G : Ctx} {n : Nat} {ops : Array Oper} {Q : Post} {s : Fm} {H : List Ent} {o : Oper} {rest : List Oper}
/-- These cells, from there on, written over. -/
def over (cs : List Value) (off : Nat) (vs : List Value) : List Value := cs.take off ++ vs ++ cs.drop (off + vs.length)
theorem over_len {cs vs : List Value} {off : Nat} (h : off + vs.length ≤ cs.length) : (over cs off vs).length = cs.length := by
  simp [over]; omega
theorem run_store_part {w : World} {t ty g off : Nat} {cs vs : List Value} (hg : w.heap[g]? = some (.cells cs.toArray t (0, 0))) (hi : (P.info? ty).map (·.size) = some vs.length) (hl : off + vs.length ≤ cs.length) (h1 : ∀ v ∈ vs, v.oneCell' = true) :
    (Instr.storeAt ty (.pointer (some ⟨g, off, none⟩)) (.agg vs.toArray)).run P w = .ok () (w.setRow g (over cs off vs).toArray) := by
  have hst := run_storeCells_at P g off t vs 0 cs.toArray w hg (by simpa using hl) h1
  cases hq : P.info? ty with
  | none => simp [hq] at hi
  | some i =>
    have hs : vs.length = i.size := by simp [hq] at hi; omega
    simp only [Nat.add_zero] at hst
    simp [Instr.storeAt, Instr.sureAddr, storeVar, sizeOf, typeInfo, hq, Value.cells, hs, hst, over]
theorem all_one {vs : List Value} (h : vs.all (·.oneCell') = true) : ∀ v ∈ vs, v.oneCell' = true := fun v hv => List.all_eq_true.1 h v hv
theorem sl_store_part {t t' : TypeId} {x y : Operand} {b off : Nat} {cs vs : List Value} {H' : List Ent} (hg : o.guard = none) (ho : o.op = .store t x y) (hx : ev s x = some (.pointer (some ⟨b, off, none⟩))) (hy : ev s y = some (.agg vs.toArray)) (hp : Pick (.blk b t' cs) H H') (h1 : vs.all (·.oneCell') = true)
    (hi : (P.info? t).map (·.size) = some vs.length) (hl : off + vs.length ≤ cs.length) (hd : o.dst = none) (h : SL P G n ops Q rest s (.blk b t' (over cs off vs) :: H')) : SL P G n ops Q (o :: rest) s H :=
  sl_op (.inl hg) fun a w ha hw K hK => by
    have hw := hw.pick hp
    have hrow := (hw.ok _ List.mem_cons_self).2
    unfold Oper.wp execOp
    simp only [ho, ha.ev hx, ha.ev hy, Sem.run_bind, run_store_part hrow hi hl (all_one h1), Result.andThen_ok]
    have hw' : Holds G (.blk b t' (over cs off vs) :: H') (w.setRow b (over cs off vs).toArray) := hw.set (setRow_heap w b _ _ t' (0, 0) hrow) (fun k hk => setRow_other w b k _ hk) (by simp [World.setRow]) rfl rfl rfl
    exact hK _ _ (h _ _ (by rw [hd]; exact ha) hw')
/-- Several cells, into a part of a block. -/
theorem c_storep {t t' sz : Nat} {x y : Operand} {b off : Nat} {cs vs : List Value} {H' : List Ent} (hg : o.guard = none) (ho : o.op = .store t x y) [h : Ag P t sz] (hx : ev s x = some (.pointer (some ⟨b, off, none⟩))) (hy : ev s y = some (.agg vs.toArray)) [hp : PickBlk H b t' cs H'] (h1 : vs.all (·.oneCell') = true)
    (hv : vs.length = sz) (hl : off + sz ≤ cs.length) (hd : o.dst = none) (hk : SL P G n ops Q rest s (.blk b t' (over cs off vs) :: H')) : SL P G n ops Q (o :: rest) s H := by
  obtain ⟨d, -, -, h3⟩ := h.here
  subst hv
  exact sl_store_part hg ho hx hy hp.here h1 h3 hl hd hk
/-- Several cells, into a row that the call holds. -/
theorem c_storees {t e sz sz2 len c k : Nat} {x y : Operand} {a : Option Addr} {xs vs : List Value} {H' : List Ent} (hg : o.guard = none) (ho : o.op = .store t x y) [h : Ag P t sz2] (hx : ev s x = some (elemPtr a k)) (hy : ev s y = some (.agg vs.toArray)) [hp : PickOwn H a e sz len c xs H'] (h1 : vs.all (·.oneCell') = true)
    (hv : vs.length = sz2) (h0 : 0 < sz2) (hl : k + sz2 ≤ xs.length) (hd : o.dst = none) (hk : SL P G n ops Q rest s (.own e sz a len c (over xs k vs) :: H')) : SL P G n ops Q (o :: rest) s H := by
  obtain ⟨d, -, -, h3⟩ := h.here
  subst hv
  refine sl_op (.inl hg) fun act w ha hw K hK => ?_
  have hw := hw.pick hp.here
  have hown : w.ownsRow G.B e sz (.slice a len c) len xs := hw.ok _ List.mem_cons_self
  obtain ⟨hlen, ⟨hv, h0'⟩ | ⟨g, cap, cur, hv, hB, hh, hn, hm, hs, ht⟩⟩ := id hown
  · subst h0'; rw [hlen, Nat.zero_mul] at hl; omega
  · obtain ⟨rfl, rfl⟩ : a = some ⟨g, 0, none⟩ ∧ c = cap := by simpa [Value.slice.injEq] using hv
    have hcl : k + vs.length ≤ cur.toList.length := by
      have e : xs.length ≤ cur.toList.length := by rw [← ht, List.length_take]; exact Nat.min_le_right _ _
      omega
    have hrun := run_store_part (P := P) (w := w) (t := e) (ty := t) (g := g) (off := k) (cs := cur.toList) (by simpa using hh) h3 hcl (all_one h1)
    unfold Oper.wp execOp
    simp only [ho, ha.ev hx, ha.ev hy, elemPtr, Option.map_some, Addr.add_mid, Nat.zero_add, Sem.run_bind, hrun, Result.andThen_ok]
    obtain ⟨hap, hapH⟩ := List.pairwise_cons.1 hw.apart
    have e2 : (over cur.toList k vs).take (len * sz) = over xs k vs := by
      have h4 : k + vs.length ≤ len * sz := by rw [← hlen]; exact hl
      unfold over
      rw [← ht, List.take_take, Nat.min_eq_left (by omega), List.drop_take]
      have h3 : (cur.toList.take k).length = k := by rw [List.length_take]; omega
      rw [List.take_append, List.take_of_length_le (by rw [List.length_append, h3]; omega)]
      congr 2
      rw [List.length_append, h3]
    have hw' : Holds G (.own e sz (some ⟨g, 0, none⟩) len c (over xs k vs) :: H') (w.setRow g (over cur.toList k vs).toArray) := by
      refine ⟨below_setRow hw.below hB _, by simpa using hw.base, fun z hz => ?_, List.pairwise_cons.2 ⟨fun y hy k hk => hap y hy k hk, hapH⟩⟩
      rcases List.mem_cons.1 hz with rfl | hz
      · refine ⟨?_, .inr ⟨g, c, (over cur.toList k vs).toArray, rfl, hB, setRow_heap w g _ _ e (0, 0) hh, hn, hm, ?_, by rw [List.toList_toArray]; exact e2⟩⟩
        · rw [over_len hl]; exact hlen
        · rw [List.size_toArray, over_len hcl, Array.length_toList]; exact hs
      · exact Ent.ok_of (hw.ok z (List.mem_cons_of_mem _ hz)) fun j hj => setRow_other w g j _ (fun e => hap z hz g rfl (e ▸ hj))
    exact hK _ _ (hk _ _ (by rw [hd]; exact ha) hw')
/-- A row that is made, full of noughts, its elements of several cells. -/
theorem c_makes {t e sz bytes d : Nat} {x y : Operand} {k k' : IntKind} {m : Int} {zs : List Value} (hg : o.guard = none) (ho : o.op = .makeSlice t x y) [hT : SliceT P t e sz bytes] [hz : ZeroT P e zs] (hx : ev s x = some (.int k m)) (hy : ev s y = some (.int k' m)) (h0 : 0 ≤ m) (h1 : (bytes : Int) * m ≤ 140737488355328) (hb : m ≤ 140737488355328) (h1d : o.dst = some d) (h2d : Nat.blt d n = true)
    (hk : ∀ b, SL P G n ops Q rest ((d, .slice (some ⟨b, 0, none⟩) m.toNat m.toNat) :: s) (.own e sz (some ⟨b, 0, none⟩) m.toNat m.toNat (madeCells zs.toArray (m.toNat * sz)).toList :: H)) : SL P G n ops Q (o :: rest) s H := by
  obtain ⟨hu, -, hby, z', hzi, hzs⟩ := hT.here
  obtain ⟨u, hu1, hu2⟩ := hz.here
  obtain ⟨i, hi, hiz⟩ := zero_info hu1
  have hib : i.bytes = bytes ∧ i.size = sz := by
    rw [hi] at hzi
    simp only [Option.map_some, Option.some.injEq, Prod.mk.injEq] at hzi
    exact ⟨hzi.2.2, hzi.2.1⟩
  refine sl_op (.inl hg) fun act w ha hw K hK => ?_
  have hrun := run_make (P := P) w t e i u hu hi hiz k k' m m h0 (Int.le_refl _) (by rw [hib.1]; omega) (by omega)
  unfold Oper.wp execOp
  simp only [ho, ha.ev hx, ha.ev hy, Sem.run_bind, hrun, Result.andThen_ok]
  rw [hib.2, hu2.cells]
  have hw2 := hw.alloc e (madeCells zs.toArray (m.toNat * sz)).toList
  have hw3 : Holds G (.own e sz (some ⟨w.heap.size, 0, none⟩) m.toNat m.toNat (madeCells zs.toArray (m.toNat * sz)).toList :: H) (w.alloc (.cells (madeCells zs.toArray (m.toNat * sz)) e)) := by
    refine ⟨hw2.below, hw2.base, fun x hx => ?_, List.pairwise_cons.2 ⟨fun y hy k hk => (List.pairwise_cons.1 hw2.apart).1 y hy k hk, (List.pairwise_cons.1 hw2.apart).2⟩⟩
    rcases List.mem_cons.1 hx with rfl | hx
    · have := hw2.ok _ List.mem_cons_self
      refine ⟨by simp [madeCells], .inr ⟨w.heap.size, m.toNat, _, rfl, this.1, this.2, Nat.le_refl _, by unfold maxLen; omega, by simp [madeCells], ?_⟩⟩
      rw [List.toList_toArray, List.take_of_length_le (by simp [madeCells])]
    · exact hw2.ok x (List.mem_cons_of_mem _ hx)
  have hp := hk w.heap.size
  rw [← updd h1d] at hp
  exact hK _ _ (hp _ _ (ha.put _ _ (okd h1d h2d)) hw3)
end
end Go.Sx
/- More rules: words of 64 bits; two structs that may differ. -/
namespace Go.Sx
open Go Go.RowKit Go.Fw
/-- A power of two. -/
def pw (m : Nat) : Int := 2 ^ m
theorem pw_eq (m : Nat) : pw m = 2 ^ m := rfl
theorem pw_pos (m : Nat) : 0 < pw m := by rw [pw_eq]; exact Int.pow_pos (by omega)
theorem pw_63 {m : Nat} (h : m ≤ 63) : pw m ≤ 9223372036854775808 := by
  rw [pw_eq]
  have : (2 : Nat) ^ m ≤ 2 ^ 63 := Nat.pow_le_pow_right (by omega) h
  have h2 : ((2 ^ m : Nat) : Int) ≤ ((2 ^ 63 : Nat) : Int) := Int.ofNat_le.2 this
  have h3 : ((2 ^ m : Nat) : Int) = (2 : Int) ^ m := by simp
  have h4 : ((2 ^ 63 : Nat) : Int) = 9223372036854775808 := by decide
  omega
attribute [irreducible] pw
theorem pdiv_bd {p : Int} (m : Nat) (h0 : 0 ≤ p) : 0 ≤ p / pw m ∧ p / pw m ≤ p := ⟨Int.ediv_nonneg h0 (Int.le_of_lt (pw_pos m)), Int.ediv_le_self _ h0⟩
section
variable {P : Program} {K : Value → Prop} {x y : Operand} {t : TypeId}
theorem bb_shrN {k k' : IntKind} {p q : Int} (h0 : 0 ≤ q) (h1 : q.toNat ≤ k.bits) (hk : K (.int k (p / pw q.toNat))) : BB P .shr t x y (.int k p) (.int k' q) K := by
  obtain ⟨m, rfl⟩ := Int.eq_ofNat_of_zero_le h0
  rw [Int.toNat_natCast] at h1 hk
  rw [pw_eq] at hk
  exact bb_of (st_shr (Nat.ble_eq_true_of_le h1)) hk
theorem st_shl1 {k' : IntKind} {m : Nat} (hm : m ≤ 63) : still P (do eqGuard .shl t x y (.int .u64 1) (.int k' m); binOp .shl t (.int .u64 1) (.int k' m)) = some (.int .u64 (pw m)) := by
  have hp := pw_63 hm
  have hq := pw_pos m
  have e : min ((m : Int).toNat) 64 = m := by rw [Int.toNat_natCast]; exact Nat.min_eq_left (by omega)
  have e3 : ¬ ((m : Int) < 0) := by omega
  have e4 : IntKind.u64.wrap ((1 : Int) * 2 ^ m) = pw m := by
    rw [Int.one_mul, ← pw_eq]
    exact IntWalk.u64_in _ (by omega)
  simp only [eqGuard, binOp, Op.shift, e3, if_false, IntKind.bits, e, e4]
  simp
  rfl
theorem bb_shl1 {k' : IntKind} {q : Int} (h0 : 0 ≤ q) (h1 : q ≤ 63) (hk : K (.int .u64 (pw q.toNat))) : BB P .shl t x y (.int .u64 1) (.int k' q) K := by
  obtain ⟨m, rfl⟩ := Int.eq_ofNat_of_zero_le h0
  rw [Int.toNat_natCast] at hk
  exact bb_of (st_shl1 (by omega)) hk
/-- The last bit of a word. -/
theorem u64_and1 (p : Int) (h0 : 0 ≤ p) (h1 : p < 18446744073709551616) : bits .and .u64 p 1 = p % 2 := by
  obtain ⟨m, rfl⟩ := Int.eq_ofNat_of_zero_le h0
  have hm : (BitVec.ofInt 64 (m : Int)).toNat = m := ofInt_u64 m (by omega)
  have hn : (BitVec.ofInt 64 ((1 : Nat) : Int)).toNat = 1 := ofInt_u64 1 (by omega)
  unfold bits
  show IntKind.u64.wrap (((BitVec.ofInt 64 (m : Int)) &&& (BitVec.ofInt 64 ((1 : Nat) : Int))).toNat : Int) = _
  rw [BitVec.toNat_and, hm, hn]
  have e : m &&& 1 = m % 2 := Nat.and_one_is_mod m
  rw [e]
  have e2 : (((m % 2 : Nat)) : Int) = (m : Int) % 2 := by omega
  rw [e2]
  exact IntWalk.u64_in _ (by omega)
theorem bb_and1 {p : Int} (h0 : 0 ≤ p) (h1 : p < 18446744073709551616) (hk : K (.int .u64 (p % 2))) : BB P .and t x y (.int .u64 p) (.int .u64 1) K := by
  refine bb_of ?_ hk
  rw [← u64_and1 p h0 h1]
  rfl

/-- Two values: are they equal? -/
def EqVal (P : Program) (d : Nat) (t : TypeId) (u v : Value) (b : Bool) : Prop := ∀ w, (Op.equalIn d t u v).run P w = .ok b w
theorem eqval_int {d : Nat} {k : IntKind} (a b : Int) [h : IntT P t k] : EqVal P (d + 1) t (.int k a) (.int k b) (a == b) := fun w => by rw [run_equalIn_int w d t k k a b h.here]
theorem eqval_str {d : Nat} (a b : ByteArray) [h : StrT P t] : EqVal P (d + 1) t (.string a) (.string b) (a.toList == b.toList) := fun w => by rw [run_equalIn_string w d t a b h.here]
theorem eqval_self {d : Nat} {u : Value} (h : EqSelf P d t u) : EqVal P d t u u true := h
/-- Field by field. -/
inductive EqParts (P : Program) (d : Nat) (cs cs' : List Value) : List Field → Bool → Prop
  | nil : EqParts P d cs cs' [] true
  | eq {f : Field} {fs : List Field} {u v : Value} {b : Bool} (hn : f.name ≠ "_") (h1 : ∀ w, (part f.type cs.toArray f.offset).run P w = .ok u w) (h2 : ∀ w, (part f.type cs'.toArray f.offset).run P w = .ok v w) (he : EqVal P d f.type u v true) (hr : EqParts P d cs cs' fs b) : EqParts P d cs cs' (f :: fs) b
  | ne {f : Field} {fs : List Field} {u v : Value} (hn : f.name ≠ "_") (h1 : ∀ w, (part f.type cs.toArray f.offset).run P w = .ok u w) (h2 : ∀ w, (part f.type cs'.toArray f.offset).run P w = .ok v w) (he : EqVal P d f.type u v false) : EqParts P d cs cs' (f :: fs) false
theorem eqParts_run {d : Nat} {cs cs' : List Value} {fs : List Field} {b : Bool} (h : EqParts P d cs cs' fs b) (w : World) : (Op.eqFields d cs.toArray cs'.toArray fs).run P w = .ok b w := by
  induction h with
  | nil => simp [Op.eqFields]
  | eq hn h1 h2 he _ ih => simp only [Op.eqFields, ne_eq, hn, not_false_eq_true, if_true, Sem.run_bind, h1, h2, Result.andThen_ok, he w, Bool.not_true, Bool.false_eq_true, if_false]; exact ih
  | ne hn h1 h2 he => simp only [Op.eqFields, ne_eq, hn, not_false_eq_true, if_true, Sem.run_bind, h1, h2, Result.andThen_ok, he w, Bool.not_false, Sem.run_pure]
theorem eqval_struct {d : Nat} {cs cs' : List Value} {b : Bool} (ht : P.underlying t = some (.struct (P.fieldsOf t))) (hp : P.stoodInHeld t = false) (h : EqParts P d cs cs' (P.fieldsOf t).toList b) : EqVal P (d + 1) t (.agg cs.toArray) (.agg cs'.toArray) b := fun w => by
  rw [run_equalIn_struct w d t _ _ ht hp]
  exact eqParts_run h w
theorem bb_eqv {cs cs' : Array Value} {b : Bool} (hs : EqVal P 10000 t (.agg cs) (.agg cs') b) (hm : P.eqGuardType P.depth t = false) (hk : K (.bool b)) : BB P .eql t x y (.agg cs) (.agg cs') K := ⟨_, fun w => by
  have h1 := run_eqGuard_agg w .eql t x y cs cs' hm
  have h2 := run_eql_struct w (P := P) t cs cs'
  rw [hs w] at h2
  simp only [Sem.run_bind, h1, Result.andThen_ok, h2], hk⟩
theorem bb_nev {cs cs' : Array Value} {b : Bool} (hs : EqVal P 10000 t (.agg cs) (.agg cs') b) (hm : P.eqGuardType P.depth t = false) (hk : K (.bool (!b))) : BB P .neq t x y (.agg cs) (.agg cs') K := ⟨_, fun w => by
  have h1 := run_eqGuard_agg w .neq t x y cs cs' hm
  have h2 := run_neq_struct w (P := P) t cs cs'
  rw [hs w] at h2
  simp only [Sem.run_bind, h1, Result.andThen_ok, h2], hk⟩
end
end Go.Sx
/- More rules: a call of a function value; function values. -/
namespace Go.Sx
open Go Go.RowKit Go.Fw
section
variable {P : Program} {G : Ctx} {n : Nat} {ops : Array Oper} {Q : Post} {s : Fm} {H : List Ent} {o : Oper} {rest : List Oper}
theorem run_calld {f : FuncId} {x : Operand} {first captured : List Value} {xs : Array Operand} {ats : Array TypeId} {vs : List Value} {a : Act} {w : World} (ho : o.op = .call { callee := .value x, args := xs, argTypes := ats }) (hx : ev s x = some (.func (.func f) first.toArray captured.toArray)) (he : Evs s xs.toList vs) (hc : Callee P f) (ha : Fr n s a) : (execOp a.eval o).run P w = .ok (.enter f (first ++ vs ++ captured).toArray) w := by
  have e1 : xs.map a.eval = vs.toArray := by
    rw [← he.map ha, ← List.map_toArray, Array.toArray_toList]
  have e0 := ha.ev hx
  have e2 : execOp a.eval o = (do let d ← Deferred.ofValue (a.eval x) (xs.map a.eval); invoke d.target d.args) := by
    cases o; simp only at ho; subst ho; rfl
  rw [e2, e0, e1]
  have := hc (first ++ vs ++ captured).toArray w
  simp only [Deferred.ofValue, invoke, Sem.run_bind, Sem.run_pure, Result.andThen_ok]
  simpa using this
/-- A call of a function value. -/
theorem c_calld {f d : Nat} {x : Operand} {first captured : List Value} {xs : Array Operand} {ats : Array TypeId} {vs : List Value} {R : Value → List Ent → Prop} (hg : o.guard = none) (ho : o.op = .call { callee := .value x, args := xs, argTypes := ats }) (hx : ev s x = some (.func (.func f) first.toArray captured.toArray)) (he : evs s xs.toList = some vs) (hc : SC P G f (first ++ vs ++ captured) H R) (h1d : o.dst = some d) (h2d : Nat.blt d n = true)
    (h : ∀ v H', R v H' → SL P G n ops Q rest ((d, v) :: s) H') : SL P G n ops Q (o :: rest) s H := by
  have hd := okd (n := n) h1d h2d
  simp only [← updd h1d] at h
  refine sl_op (.inl hg) fun a w ha hw K hK => ?_
  unfold Oper.wp
  rw [run_calld ho hx (evs_of he) hc.1 ha]
  exact (hc.2 w hw).mono fun e w' ⟨v, H', he, hw', q⟩ => by subst he; exact hK _ _ (h v H' q _ _ (ha.put _ _ hd) hw')
theorem c_calldv {f d : Nat} {x : Operand} {first captured : List Value} {xs : Array Operand} {ats : Array TypeId} {vs : List Value} {v : Value} (hg : o.guard = none) (ho : o.op = .call { callee := .value x, args := xs, argTypes := ats }) (hx : ev s x = some (.func (.func f) first.toArray captured.toArray)) (he : evs s xs.toList = some vs) (hc : SV P G f (first ++ vs ++ captured) H v) (h1d : o.dst = some d) (h2d : Nat.blt d n = true)
    (h : SL P G n ops Q rest ((d, v) :: s) H) : SL P G n ops Q (o :: rest) s H := c_calld hg ho hx he hc h1d h2d fun _ _ ⟨e1, e2⟩ => by subst e1; subst e2; exact h
theorem c_calldq {Q : Fm → Prop} {f d : Nat} {x : Operand} {first captured : List Value} {xs : Array Operand} {ats : Array TypeId} {vs : List Value} {v : Value} (hg : o.guard = none) (ho : o.op = .call { callee := .value x, args := xs, argTypes := ats }) (hx : ev s x = some (.func (.func f) first.toArray captured.toArray)) (he : evs s xs.toList = some vs) (hc : SV P G f (first ++ vs ++ captured) H v) (h1d : o.dst = some d) (h2d : Nat.blt d n = true)
    (h : SQ P G n ops Q H rest ((d, v) :: s)) : SQ P G n ops Q H (o :: rest) s := fun a ha => by
  have hd := okd (n := n) h1d h2d
  simp only [← updd h1d] at h
  refine wpQuiet_step fun K hK => ?_
  rw [if_pos ((show Want ops o s from .inl hg).wanted ha)]
  refine ⟨v, fun w hw => ?_, hK _ (h _ (ha.put _ _ hd))⟩
  unfold Oper.quietAt
  rw [run_calld ho hx (evs_of he) hc.1 ha]
  refine ⟨rfl, (hc.2 w hw).mono fun e w' ⟨u, H', he, hw', e1, e2⟩ => ?_⟩
  subst e1; subst e2
  exact ⟨he, hw'⟩
/-- The larger of two, of three. -/
theorem c_max2 {x y : Operand} {ats : Array TypeId} {k k' : IntKind} {p q : Int} (ho : o.op = .call { callee := .builtin .max, args := #[x, y], argTypes := ats }) (hx : ev s x = some (.int k p)) (hy : ev s y = some (.int k' q)) : Yields P G n s H o (.int k (max p q)) := fun a w ha _ => by
  have e : max p q = if q > p then q else p := by split <;> omega
  unfold execOp; rw [ho, e]
  simp only [resolve, invoke, Sem.run_bind, Sem.run_pure, Result.andThen_ok, builtin, List.map_toArray, List.map_cons, List.map_nil, ha.ev hx, ha.ev hy, run_max_int2]
theorem c_max3 {x y z : Operand} {ats : Array TypeId} {k k' k'' : IntKind} {p q r : Int} (ho : o.op = .call { callee := .builtin .max, args := #[x, y, z], argTypes := ats }) (hx : ev s x = some (.int k p)) (hy : ev s y = some (.int k' q)) (hz : ev s z = some (.int k'' r)) : Yields P G n s H o (.int k (max (max p q) r)) := fun a w ha _ => by
  have e : max (max p q) r = if r > (if q > p then q else p) then r else (if q > p then q else p) := by split <;> split <;> omega
  unfold execOp; rw [ho, e]
  simp only [resolve, invoke, Sem.run_bind, Sem.run_pure, Result.andThen_ok, builtin, List.map_toArray, List.map_cons, List.map_nil, ha.ev hx, ha.ev hy, ha.ev hz, run_max_int3]
variable {K : Value → Prop} {x y : Operand} {t : TypeId}
theorem st_shll {k k' : IntKind} {p : Int} {m : Nat} (hm : Nat.ble m k.bits = true) (hf : Fits k (p * 2 ^ m)) : still P (do eqGuard .shl t x y (.int k p) (.int k' m); binOp .shl t (.int k p) (.int k' m)) = some (.int k (p * 2 ^ m)) := by
  have hm' := Nat.le_of_ble_eq_true hm
  have e : min ((m : Int).toNat) k.bits = m := by rw [Int.toNat_natCast]; exact Nat.min_eq_left hm'
  have e3 : ¬ ((m : Int) < 0) := by omega
  simp only [eqGuard, binOp, Op.shift, e3, if_false, e, hf.wrap]
  simp
  rfl
theorem bb_shll {k k' : IntKind} {p q D : Int} {m : Nat} (hq : q = m) (hp : pw? m = some D) (hm : Nat.ble m k.bits = true) (hf : Fits k (p * D)) (hk : K (.int k (p * D))) : BB P .shl t x y (.int k p) (.int k' q) K := by
  subst hq
  obtain ⟨e, -⟩ := pw?_eq hp
  subst e
  exact bb_of (st_shll hm hf) hk
end
end Go.Sx
/- More rules: the whole of an array as a slice; who is here. -/
namespace Go.Sx
open Go Go.RowKit Go.Fw
section
variable {P : Program} {G : Ctx} {n : Nat} {ops : Array Oper} {Q : Post} {s : Fm} {H : List Ent} {o : Oper} {rest : List Oper}
theorem c_slArr {t e len sz : Nat} {x : Operand} {b off : Nat} (ho : o.op = .slice t x none none none) [hA : ArrT P t len e sz] (hx : ev s x = some (.pointer (some ⟨b, off, none⟩))) : Yields P G n s H o (.slice (some ⟨b, off, none⟩) len len) := fun act w ha _ => by
  obtain ⟨hu, hS⟩ := hA.here
  unfold execOp; rw [ho]; simp only [ha.ev hx]
  refine run_value ?_
  cases hq : P.info? e with
  | none => simp [hq] at hS
  | some inf =>
    have hs : inf.size = sz := by simpa [hq] using hS
    have hz : (sizeOf e).run P w = .ok sz w := by simp [sizeOf, typeInfo, program, Sem.run, hq, hs]
    have hb : (Instr.sliceBounds false len len none none none).run P w = .ok (0, len, len) w := by
      unfold Instr.sliceBounds
      simp [Sem.run, pure]
    simp only [Instr.sliceAt, Sem.run_bind, run_underlying hu, Result.andThen_ok, Instr.sureAddr, Sem.run_pure, Option.map_none]
    simp [hb, hz, Sem.run, Addr.add_mid]
theorem sc_pick {f : FuncId} {args : List Value} {H' : List Ent} {e : Ent} {R : Value → List Ent → Prop} (hp : Pick e H H') (h : SC P G f args (e :: H') R) : SC P G f args H R := ⟨h.1, fun w hw => h.2 w (hw.pick hp)⟩
theorem sw_here {code : Code} (h : ∀ w, Holds G H w → SW P G n code Q s H) : SW P G n code Q s H := fun a w ha hw => h w hw a w ha hw
/-- Held otherwise. -/
theorem sw_held {code : Code} (H' : List Ent) (hh : ∀ w, Holds G H w → Holds G H' w) (h : SW P G n code Q s H') : SW P G n code Q s H := fun a w ha hw => h a w ha (hh w hw)
end
end Go.Sx
/- More rules: rows whose elements are structs; function values that hold variables. -/
namespace Go.Sx
open Go Go.RowKit Go.Fw
section
variable {P : Program} {G : Ctx} {n : Nat} {ops : Array Oper} {Q : Post} {s : Fm} {H : List Ent} {o : Oper} {rest : List Oper}
/-- A field's place in an element of a row. -/
theorem c_fieldE {t i fo k : Nat} {x : Operand} {a : Option Addr} {xs : List Value} (ho : o.op = .fieldAddr t x i) [h : FieldAt P t i fo] (hx : ev s x = some (elemPtr a k)) [hr : RdC G H a xs] (hk : k < xs.length) : Yields P G n s H o (elemPtr a (k + fo)) := fun act w ha hw => by
  obtain ⟨b, off, rfl, -⟩ := At.someAt (hr.here w hw) (by omega)
  have e1 : elemPtr (some ⟨b, off, none⟩) k = .pointer (some ⟨b, off + k, none⟩) := by simp only [elemPtr, Option.map_some, Addr.add_mid]
  have e2 : elemPtr (some ⟨b, off, none⟩) (k + fo) = .pointer (some ⟨b, off + k + fo, none⟩) := by simp only [elemPtr, Option.map_some, Addr.add_mid, Nat.add_assoc]
  rw [e1] at hx
  rw [e2]
  exact c_field (P := P) (G := G) (H := H) ho hx act w ha hw
/-- An element of several cells, or a part of one, is loaded. -/
theorem ld_elems {t sz k : Nat} {K : Value → Prop} {a : Option Addr} {xs cs : List Value} [h : Ag P t sz] [hr : RdC G H a xs] (hn : take? (xs.drop k) sz = some cs) (hz : Nat.blt 0 sz = true) (hk : K (.agg cs.toArray)) : LD P G H t (elemPtr a k) K := by
  obtain ⟨d, h1, h2, h3⟩ := h.here
  obtain ⟨e1, e2⟩ := take?_eq hn
  rw [List.length_drop] at e2
  have hz' : 0 < sz := by simpa [Nat.blt_eq] using hz
  refine ⟨_, fun w hw => ?_, hk⟩
  obtain ⟨b, off, rfl, hc⟩ := At.someAt (hr.here w hw) (by omega)
  simp only [elemPtr, Option.map_some, Addr.add_mid]
  refine run_load_cells h1 h2 (cs := cs) (by rw [h3, ← e1, List.length_take, List.length_drop, Nat.min_eq_left (by omega)]) fun j v hj => ?_
  rw [← e1] at hj
  have hlt : j < sz := by
    have := (List.getElem?_eq_some_iff.1 hj).1
    rw [List.length_take] at this; omega
  rw [List.getElem?_take, if_pos hlt, List.getElem?_drop] at hj
  rw [Nat.add_assoc]
  exact (hc (k + j) (List.getElem?_eq_some_iff.1 hj).1).trans hj
/-- A function value is made. -/
theorem y_mkfn {f : FuncId} {first captured : Array Operand} {v1 v2 : List Value} (ho : o.op = .makeFunc (.func f) first captured) (h1 : evs s first.toList = some v1) (h2 : evs s captured.toList = some v2) : Yields P G n s H o (.func (.func f) v1.toArray v2.toArray) := fun a w ha _ => by
  have e1 : first.map a.eval = v1.toArray := by rw [← (evs_of h1).map ha, ← List.map_toArray, Array.toArray_toList]
  have e2 : captured.map a.eval = v2.toArray := by rw [← (evs_of h2).map ha, ← List.map_toArray, Array.toArray_toList]
  unfold execOp; rw [ho]
  simp only [e1, e2, Instr.makeFunc]
  exact run_value rfl
theorem s_mkfn {f : FuncId} {first captured : Array Operand} {d : Nat} {v : Value} {ty : TypeId} {pos : String} {af : Array Edge} (hy : Yields P G n s H ⟨some d, .makeFunc (.func f) first captured, ty, pos, af, none⟩ v) (h2 : Nat.blt d n = true) (h : SL P G n ops Q rest ((d, v) :: s) H) : SL P G n ops Q (⟨some d, .makeFunc (.func f) first captured, ty, pos, af, none⟩ :: rest) s H := sl_val rfl hy rfl h2 h
end
end Go.Sx
/- More rules: pieces of rows that are held, read and written by their place. -/
namespace Go.Sx
open Go Go.RowKit Go.Fw
theorem at_off {w : World} {b : Nat} {xs : List Value} (h : At w (some ⟨b, 0, none⟩) xs) (off : Nat) (ho : off < xs.length) : At w (some ⟨b, off, none⟩) (xs.drop off) := by
  rcases h with h | ⟨b', o, ha, hb, hc⟩
  · subst h; simp at ho
  · obtain ⟨rfl, rfl⟩ : b = b' ∧ o = 0 := by
      simp only [Option.some.injEq, Addr.mk.injEq, and_true] at ha
      exact ⟨ha.1, ha.2.symm⟩
    refine .inr ⟨b, off, rfl, hb, fun i hi => ?_⟩
    rw [List.length_drop] at hi
    have := hc (off + i) (by omega)
    rw [Nat.zero_add] at this
    rw [this, List.getElem?_drop]
theorem at_pre {w : World} {a : Option Addr} {xs ys : List Value} (h : At w a (xs ++ ys)) : At w a xs := by
  rcases h with h | ⟨b, o, ha, hb, hc⟩
  · exact .inl (List.append_eq_nil_iff.1 h).1
  · refine .inr ⟨b, o, ha, hb, fun i hi => ?_⟩
    rw [hc i (by rw [List.length_append]; omega), List.getElem?_append_left hi]
section
variable {P : Program} {G : Ctx} {n : Nat} {ops : Array Oper} {Q : Post} {s : Fm} {H : List Ent} {o : Oper} {rest : List Oper}
theorem rd_off {e sz len c b : Nat} {xs ys zs us : List Value} (off : Nat) (h0 : off = xs.length) (h1 : 0 < ys.length) : RdC G (.own e sz (some ⟨b, 0, none⟩) len c (xs ++ ys ++ zs) :: H) (some ⟨b, off, none⟩) (ys ++ zs) := ⟨fun w hw => by
  have h := (Rd.mem (G := G) (H := .own e sz (some ⟨b, 0, none⟩) len c (xs ++ ys ++ zs) :: H) List.mem_cons_self) w hw
  have h2 := at_off h off (by rw [List.length_append, List.length_append]; omega)
  rw [List.append_assoc, h0, List.drop_left] at h2
  rw [h0]
  exact h2⟩
theorem rd_pre {a : Option Addr} {xs ys : List Value} (h : RdC G H a (xs ++ ys)) : RdC G H a xs := ⟨fun w hw => at_pre (h.here w hw)⟩
/-- An element's place, where more may be read than the slice has. -/
theorem c_indexAddrL {t e sz bytes : Nat} {x y : Operand} {a : Option Addr} {len c : Nat} {k : IntKind} {i : Int} {xs : List Value} (ho : o.op = .indexAddr t x y) [h : SliceT P t e sz bytes] (hx : ev s x = some (.slice a len c)) (hy : ev s y = some (.int k i)) [hr : RdC G H a xs] (hl : len ≤ xs.length) (h0 : 0 ≤ i) (h1 : i < (len : Int)) : Yields P G n s H o (elemPtr a (i.toNat * sz)) := by
  obtain ⟨hu, hsz, -, -⟩ := h.here
  exact y_indexAddr ho hx hy hu h.size hr.here hl h0 h1
theorem elemPtr_off (b off k : Nat) : elemPtr (some ⟨b, off, none⟩) k = elemPtr (some ⟨b, 0, none⟩) (off + k) := by
  simp only [elemPtr, Option.map_some, Addr.add_mid, Nat.zero_add]
/-- Several cells, through a piece, into a row that the call holds. -/
theorem c_storeesO {t e sz sz2 len c b off k : Nat} {x y : Operand} {xs vs : List Value} {H' : List Ent} (hg : o.guard = none) (ho : o.op = .store t x y) [h : Ag P t sz2] (hx : ev s x = some (elemPtr (some ⟨b, off, none⟩) k)) (hy : ev s y = some (.agg vs.toArray)) [hp : PickOwn H (some ⟨b, 0, none⟩) e sz len c xs H'] (h1 : vs.all (·.oneCell') = true)
    (hv : vs.length = sz2) (h0 : 0 < sz2) (hl : off + k + sz2 ≤ xs.length) (hd : o.dst = none) (hk : SL P G n ops Q rest s (.own e sz (some ⟨b, 0, none⟩) len c (over xs (off + k) vs) :: H')) : SL P G n ops Q (o :: rest) s H := by
  rw [elemPtr_off] at hx
  exact c_storees hg ho hx hy h1 hv h0 hl hd hk
end
end Go.Sx
/- Rows of whatever elements; what is read at many places. -/
namespace Go.Sx
open Go Go.RowKit Go.Fw
instance (priority := low) rdApp {G : Ctx} {A H : List Ent} {a : Option Addr} {xs : List Value} [h : RdC G H a xs] : RdC G (A ++ H) a xs := ⟨h.here.mono fun _ hw => hw.sub (List.sublist_append_right A H)⟩
theorem Pick.app {x : Ent} {H H' : List Ent} (h : Pick x H H') : ∀ A : List Ent, Pick x (A ++ H) (A ++ H')
  | [] => h
  | _ :: A => .there (Pick.app h A)
instance (priority := low) hasBlkApp {A H : List Ent} {b : Nat} {t : TypeId} {cs : List Value} [h : HasBlk H b t cs] : HasBlk (A ++ H) b t cs := ⟨List.mem_append_right _ h.here⟩
instance (priority := low) pickBlkApp {A H H' : List Ent} {b : Nat} {t : TypeId} {cs : List Value} [h : PickBlk H b t cs H'] : PickBlk (A ++ H) b t cs (A ++ H') := ⟨h.here.app A⟩
theorem own_some {G : Ctx} {H : List Ent} {e sz n c : Nat} {a : Option Addr} {xs : List Value} {w : World} (h : Holds G H w) (hm : Ent.own e sz a n c xs ∈ H) (hn : 0 < n) : ∃ b, a = some ⟨b, 0, none⟩ ∧ n ≤ c := by
  have ho : w.ownsRow G.B e sz (.slice a n c) n xs := h.ok _ hm
  rcases ho.2 with ⟨hv, h0⟩ | ⟨g, cap, cur, hv, -, -, hc, -⟩
  · omega
  · injection hv with h1 h2 h3
    exact ⟨g, h1, by omega⟩
/-- A slice's address, its room and what it holds. -/
abbrev Rx (α : Type) := Option Addr × Nat × List α
def rxV {α : Type} (x : Rx α) : Value := .slice x.1 x.2.2.length x.2.1
/-- It can be read, and has its room. -/
def Sl {α : Type} (f : List α → List Value) (G : Ctx) (H : List Ent) (x : Rx α) : Prop := ∀ w, Holds G H w → x.2.2.length ≤ x.2.1 ∧ (x.2.2.length ≤ maxLen ∧ At w x.1 (f x.2.2))
/-- Each of these can be read. -/
def RdX {α : Type} (f : List α → List Value) (G : Ctx) (H : List Ent) (X : List (Rx α)) : Prop := ∀ x ∈ X, Sl f G H x
section
variable {α : Type} {f : List α → List Value} {G : Ctx} {H H' E : List Ent} {X Y : List (Rx α)} {x : Rx α}
theorem Sl.mono (h : Sl f G H x) (hs : ∀ w, Holds G H' w → Holds G H w) : Sl f G H' x := fun w hw => h w (hs w hw)
theorem Sl.app (h : Sl f G H x) : Sl f G (E ++ H) x := h.mono fun _ hw => hw.sub (List.sublist_append_right E H)
theorem Sl.cons {e : Ent} (h : Sl f G H x) : Sl f G (e :: H) x := h.mono fun _ hw => hw.drop
theorem Sl.rd (h : Sl f G H x) : RdC G H x.1 (f x.2.2) := ⟨fun w hw => (h w hw).2.2⟩
theorem Sl.nil (hf : f [] = []) : Sl f G H (none, 0, []) := fun w _ => ⟨Nat.le_refl _, Nat.zero_le _, by rw [hf]; exact .inl rfl⟩
theorem Sl.own {e sz : Nat} {a : Option Addr} {n c : Nat} {L : List α} {vs : List Value} (hm : Ent.own e sz a n c vs ∈ H) (hv : vs = f L) (hn : n = L.length) : Sl f G H (a, c, L) := fun w hw => by
  subst hv
  have ho : w.ownsRow G.B e sz (.slice a n c) n (f L) := hw.ok _ hm
  have hb : L.length ≤ c ∧ L.length ≤ maxLen := by
    rcases ho.2 with ⟨hv, h0⟩ | ⟨g, cap, cur, hv, -, -, hn', hm', -⟩
    · omega
    · have : c = cap := by injection hv
      omega
  exact ⟨hb.1, hb.2, (Rd.mem hm) w hw⟩
theorem Sl.rd0 (h : Sl f G H x) : Rd G H x.1 (f x.2.2) := fun w hw => (h w hw).2.2
theorem sc_imp {P : Program} {g : FuncId} {args : List Value} {R R' : Value → List Ent → Prop} (h : SC P G g args H R) (hi : ∀ v H', R v H' → R' v H') : SC P G g args H R' := ⟨h.1, fun w hw => (h.2 w hw).mono fun e w' ⟨v, H', h1, h2, h3⟩ => ⟨v, H', h1, h2, hi v H' h3⟩⟩
theorem sv_imp {P : Program} {g : FuncId} {args : List Value} {v : Value} {R' : Value → List Ent → Prop} (h : SV P G g args H v) (hi : R' v H) : SC P G g args H R' := sc_imp (R := fun u H' => u = v ∧ H' = H) h fun u H' ⟨e1, e2⟩ => by subst e1; subst e2; exact hi
theorem RdX.nil : RdX f G H [] := fun _ h => nomatch h
theorem RdX.mono (h : RdX f G H X) (hs : ∀ w, Holds G H' w → Holds G H w) : RdX f G H' X := fun x hx => (h x hx).mono hs
theorem RdX.app (h : RdX f G H X) : RdX f G (E ++ H) X := h.mono fun _ hw => hw.sub (List.sublist_append_right E H)
theorem RdX.cons {e : Ent} (h : RdX f G H X) : RdX f G (e :: H) X := h.mono fun _ hw => hw.drop
theorem RdX.snoc (h : RdX f G H X) (h1 : Sl f G H x) : RdX f G H (X ++ [x]) := fun y hy => by
  rcases List.mem_append.1 hy with hy | hy
  · exact h y hy
  · obtain rfl := List.mem_singleton.1 hy
    exact h1
theorem RdX.join (h : RdX f G H X) (h2 : RdX f G H Y) : RdX f G H (X ++ Y) := fun y hy => by
  rcases List.mem_append.1 hy with hy | hy
  · exact h y hy
  · exact h2 y hy
theorem RdX.sub (h : RdX f G H X) (hs : ∀ y ∈ Y, y ∈ X) : RdX f G H Y := fun y hy => h y (hs y hy)
theorem RdX.set {k : Nat} (h : RdX f G H X) (h1 : Sl f G H x) : RdX f G H (X.set k x) := fun y hy => by
  rcases List.mem_or_eq_of_mem_set hy with hy | rfl
  · exact h y hy
  · exact h1
theorem RdX.at {k : Nat} (h : RdX f G H X) (hx : X[k]? = some x) : Sl f G H x := h x (List.mem_of_getElem? hx)
end
theorem rxV_one {α : Type} (X : List (Rx α)) : (X.map rxV).all (·.oneCell') = true := by
  rw [List.all_map]
  exact List.all_eq_true.2 fun _ _ => rfl
theorem map_at {α β : Type} (f : α → β) {X : List α} {k : Nat} {x : α} (h : X[k]? = some x) : (X.map f)[k]? = some (f x) := by rw [List.getElem?_map, h]; rfl
theorem get_of {α : Type} {X : List α} {k : Nat} (h : k < X.length) : ∃ x, X[k]? = some x := ⟨X[k], List.getElem?_eq_getElem h⟩
theorem take_snoc {α : Type} {X : List α} {k : Nat} {x : α} (h : X[k]? = some x) : X.take (k + 1) = X.take k ++ [x] := by
  obtain ⟨hk, he⟩ := List.getElem?_eq_some_iff.1 h
  rw [List.take_succ_eq_append_getElem hk, he]
theorem drop_at {α : Type} {X : List α} {k : Nat} {x : α} (h : X[k]? = some x) : X.drop k = x :: X.drop (k + 1) := by
  obtain ⟨hk, he⟩ := List.getElem?_eq_some_iff.1 h
  rw [List.drop_eq_getElem_cons hk, he]

/-- Elements of so many cells each. -/
class En {α : Type} (en : α → List Value) (sz : outParam Nat) : Prop where
  len : ∀ x, (en x).length = sz
theorem take?_of : ∀ {l : List Value} {k : Nat}, k ≤ l.length → take? l k = some (l.take k)
  | _, 0, _ => by simp [take?]
  | [], k + 1, h => by simp at h
  | x :: l, k + 1, h => by
    simp only [List.length_cons] at h
    simp [take?, take?_of (show k ≤ l.length by omega)]
section
variable {α : Type} {en : α → List Value} {sz : Nat} [he : En en sz]
theorem fm_len : ∀ L : List α, (L.flatMap en).length = L.length * sz
  | [] => by simp
  | x :: L => by rw [List.flatMap_cons, List.length_append, fm_len L, he.len, List.length_cons, Nat.add_mul]; omega
theorem fm_drop : ∀ (k : Nat) (L : List α), (L.flatMap en).drop (k * sz) = (L.drop k).flatMap en
  | 0, L => by simp
  | k + 1, [] => by simp
  | k + 1, x :: L => by
    rw [List.flatMap_cons, show (k + 1) * sz = (en x).length + k * sz from by rw [he.len, Nat.add_mul]; omega, List.drop_length_add_append, fm_drop k L]
    rfl
theorem fm_take : ∀ (k : Nat) (L : List α), (L.flatMap en).take (k * sz) = (L.take k).flatMap en
  | 0, L => by simp
  | k + 1, [] => by simp
  | k + 1, x :: L => by
    rw [List.flatMap_cons, show (k + 1) * sz = (en x).length + k * sz from by rw [he.len, Nat.add_mul]; omega, List.take_length_add_append, fm_take k L]
    rfl
theorem fm_piece (L : List α) (q m : Nat) (l h : Int) (hl : l = q) (hh : h = q + m) : ((L.flatMap en).drop (l.toNat * sz)).take ((h.toNat - l.toNat) * sz) = ((L.drop q).take m).flatMap en := by
  rw [show l.toNat = q from by omega, show h.toNat - q = m from by omega, fm_drop, fm_take]
theorem fm_cell {L : List α} {k : Nat} {x : α} (j : Nat) (hx : L[k]? = some x) (hj : j < sz) : (L.flatMap en)[k * sz + j]? = (en x)[j]? := by
  rw [← List.getElem?_drop, fm_drop, drop_at hx, List.flatMap_cons, List.getElem?_append_left (by rw [he.len]; exact hj)]
theorem fm_elem {L : List α} {k : Nat} {x : α} (hx : L[k]? = some x) : take? ((L.flatMap en).drop (k * sz)) sz = some (en x) := by
  rw [fm_drop, drop_at hx, List.flatMap_cons, take?_of (by rw [List.length_append, he.len]; omega), List.take_append_of_le_length (by rw [he.len]; exact Nat.le_refl _), List.take_of_length_le (by rw [he.len]; exact Nat.le_refl _)]
theorem fm_part {L : List α} {k o m : Nat} {x : α} (hx : L[k]? = some x) (ho : o + m ≤ sz) : take? ((L.flatMap en).drop (k * sz + o)) m = some (((en x).drop o).take m) := by
  have e := he.len x
  rw [← List.drop_drop, fm_drop, drop_at hx, List.flatMap_cons, List.drop_append_of_le_length (by omega), take?_of (by rw [List.length_append, List.length_drop]; omega), List.take_append_of_le_length (by rw [List.length_drop]; omega)]
theorem fm_over {L : List α} {k : Nat} (x : α) (hk : k < L.length) : over (L.flatMap en) (k * sz) (en x) = (L.set k x).flatMap en := by
  unfold over
  rw [fm_take, he.len, show k * sz + sz = (k + 1) * sz from by rw [Nat.add_mul]; omega, fm_drop, List.set_eq_take_append_cons_drop, if_pos hk, List.flatMap_append, List.flatMap_cons, List.append_assoc]
theorem fm_snoc (L : List α) (x : α) : (L ++ [x]).flatMap en = L.flatMap en ++ en x := by rw [List.flatMap_append]; simp
theorem fm_one (L : List α) (h : ∀ x, (en x).all (·.oneCell') = true) : (L.flatMap en).all (·.oneCell') = true := by
  rw [List.all_flatMap]
  exact List.all_eq_true.2 fun x _ => h x
end
theorem fm_map {α : Type} (g : α → Value) (L : List α) : (L.flatMap fun x => [g x]) = L.map g := by
  induction L with
  | nil => rfl
  | cons x L ih => rw [List.flatMap_cons, ih]; rfl
theorem zeros_eq (zc : List Value) (n sz : Nat) (hz : zc.length = sz) (h0 : 0 < sz) : (Array.range (n * sz)).map (fun x => (zc.toArray)[x % zc.toArray.size]!) = ((List.replicate n zc).flatten).toArray := by
  have e : (List.replicate n zc).flatten = (List.range n).flatMap fun _ => zc := by
    rw [List.flatMap_def]
    congr 1
    rw [List.map_const', List.length_range]
  haveI : En (fun _ : Nat => zc) sz := ⟨fun _ => hz⟩
  rw [e]
  apply Array.toList_inj.1
  apply List.ext_getElem?
  intro i
  simp only [Array.toList_map, Array.toList_range, List.getElem?_map]
  rcases Nat.lt_or_ge i (n * sz) with hi | hi
  · have hd : i / sz < n := by rw [Nat.div_lt_iff_lt_mul h0]; exact hi
    have h3 := fm_cell (en := fun _ : Nat => zc) (L := List.range n) (k := i / sz) (x := i / sz) (i % sz) (List.getElem?_range hd) (Nat.mod_lt _ h0)
    rw [Nat.div_add_mod'] at h3
    rw [h3, List.getElem?_range hi]
    have hm := Nat.mod_lt i h0
    simp only [Option.map_some, List.size_toArray, hz]
    rw [List.getElem?_eq_getElem (by omega)]
    simp [hz, hm]
  · rw [List.getElem?_eq_none (by rw [List.length_range]; exact hi), List.getElem?_eq_none (by rw [fm_len, List.length_range]; exact hi)]
    rfl
section
variable {P : Program} {G : Ctx} {n : Nat} {ops : Array Oper} {Q : Post} {s : Fm} {H : List Ent} {o : Oper} {rest : List Oper}
/-- A literal row whose elements are structs. -/
theorem c_bsA {t e sz bytes len d : Nat} {parts : Array (Nat × Operand)} {zc cs : List Value} {l : List (Nat × List Value)} (hg : o.guard = none) (ho : o.op = .buildSlice t len parts) [hT : SliceT P t e sz bytes] [hz : ZeroT P e zc] (hp : parts? s parts.toList = some l) (hf : fillL? (arrOffs len sz) (List.replicate len zc).flatten l = some cs)
    (hl : Nat.beq cs.length (len * sz) = true) (h0 : Nat.blt 0 len = true) (hm : Nat.ble (len * sz) 1000 = true) (h1d : o.dst = some d) (h2d : Nat.blt d n = true)
    (hk : ∀ b, SL P G n ops Q rest ((d, .slice (some ⟨b, 0, none⟩) len len) :: s) (.own e sz (some ⟨b, 0, none⟩) len len cs :: H)) : SL P G n ops Q (o :: rest) s H := by
  obtain ⟨hu, hsz, hby, z', hzi, hzs⟩ := hT.here
  obtain ⟨z, hz1, hz2⟩ := hz.here
  obtain ⟨ie, hi, hiz⟩ := zero_info hz1
  rw [hi] at hzi
  simp only [Option.map_some, Option.some.injEq, Prod.mk.injEq] at hzi
  obtain ⟨e1, e2, e3⟩ := hzi
  rw [hiz] at e1
  obtain rfl := Option.some.inj e1
  have hzl : zc.length = sz := by rw [← hzs, hz2.cells]; simp
  have hl' := Nat.eq_of_beq_eq_true hl
  have hm' := Nat.le_of_ble_eq_true hm
  have h0' : 0 < len := by simpa [Nat.blt_eq] using h0
  have hpos : 0 < len * sz := Nat.mul_pos h0' hsz
  have hd := okd (n := n) h1d h2d
  simp only [← updd h1d] at hk
  refine sl_op (.inl hg) fun a w ha hw K hK => ?_
  obtain ⟨q1, q2⟩ := parts?_eq parts.toList l a ha hp
  have hb : builtSlice P e len ((parts.map fun (i, x) => (i, a.eval x)).toList) = some cs.toArray := by
    unfold builtSlice
    simp only [hi, hiz, e2]
    rw [if_neg (by omega), hz2.cells, zeros_eq zc len sz hzl hsz]
    rw [Array.toList_map]
    exact fillL?_eq (arrOffs len sz) (fun i => some (i * sz, sz)) (fun i p h => arrOffs_at len sz i p h) l _ _ cs q1 q2 hf
  unfold Oper.wp execOp
  simp only [ho, Sem.run_bind, run_buildSlice w t e len _ cs.toArray hu hb, Result.andThen_ok]
  have hw2 := hw.alloc e cs
  have hlm : len ≤ len * sz := Nat.le_mul_of_pos_right _ hsz
  have hw3 : Holds G (.own e sz (some ⟨w.heap.size, 0, none⟩) len len cs :: H) (w.alloc (.cells cs.toArray e)) := by
    refine ⟨hw2.below, hw2.base, fun x hx => ?_, List.pairwise_cons.2 ⟨fun y hy k hk => (List.pairwise_cons.1 hw2.apart).1 y hy k hk, (List.pairwise_cons.1 hw2.apart).2⟩⟩
    rcases List.mem_cons.1 hx with rfl | hx
    · have := hw2.ok _ List.mem_cons_self
      exact ⟨hl', .inr ⟨w.heap.size, len, cs.toArray, rfl, this.1, this.2, Nat.le_refl _, by unfold maxLen; omega, by simpa using hl', by rw [← hl']; simp⟩⟩
    · exact hw2.ok x (List.mem_cons_of_mem _ hx)
  exact hK _ _ (hk _ _ _ (ha.put _ _ hd) hw3)
end
end Go.Sx
