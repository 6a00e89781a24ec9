/- More rules: stores into the bytes of a text, the lesser of two, a byte of a text by its value. -/
import Derived.Test.YthllelffblpdkaaDoorSxB
namespace Go.Sx
open Go Go.RowKit Go.Fw
class PickObj (H : List Ent) (g : Nat) (o : outParam Obj) (H' : outParam (List Ent)) : Prop where
  here : Pick (.obj g o) H H'
instance (priority := low) pickObjTail {H H' : List Ent} {g : Nat} {o : Obj} {x : Ent} [h : PickObj H g o H'] : PickObj (x :: H) g o (x :: H') := ⟨.there h.here⟩
instance pickObjHead {H : List Ent} {g : Nat} {o : Obj} : PickObj (.obj g o :: H) g o H := ⟨.here _⟩
section
variable {P : Program} {G : Ctx} {n : Nat} {ops : Array Oper} {Q : Post} {s : Fm} {H : List Ent} {o : Oper} {rest : List Oper}
/-- A store into the bytes that a text was made to. -/
theorem c_storeo {t e m g k : Nat} {x y : Operand} {xs : List Int} {v : Int} {H' : List Ent} (hg : o.guard = none) (ho : o.op = .store t x y) [h : Sc P t] (hx : ev s x = some (elemPtr (some ⟨g, 0, none⟩) k)) (hy : ev s y = some (.int .u8 v)) [hp : PickObj H g (bytesObj e xs m) H']
    (hl : k < xs.length) (hd : o.dst = none) (hk : SL P G n ops Q rest s (.obj g (bytesObj e (xs.set k v) m) :: H')) : SL P G n ops Q (o :: rest) s H := by
  obtain ⟨d, -, -, h3⟩ := h.here
  refine sl_op (.inl hg) fun act w ha hw K hK => ?_
  have hw := hw.pick hp.here
  obtain ⟨hB, hh⟩ : G.B ≤ g ∧ w.heap[g]? = some (bytesObj e xs m) := hw.ok _ List.mem_cons_self
  unfold bytesObj at hh
  have hlt : g < w.heap.size := row_lt hh
  have hko : k < (octs xs).length := by simp [octs]; exact hl
  have hsz : (octs xs ++ List.replicate m (Value.int .u8 0)).toArray[k]? = some (octs xs)[k] := by
    rw [List.getElem?_toArray, List.getElem?_append_left hko, List.getElem?_eq_getElem hko]
  have hcell : w.cell? ⟨g, k, none⟩ = some (octs xs)[k] := by
    unfold World.cell?
    simp only [hh]
    exact hsz
  have hfz : w.frozen? ⟨g, k, none⟩ = false := by
    unfold World.frozen?
    simp only [hh]
    have : ¬ xs.length + m ≤ k := by omega
    simp [this]
  have hrun := run_store_cell (P := P) (t := t) (v := .int .u8 v) h3 hcell hfz rfl
  unfold Oper.wp execOp
  simp only [ho, ha.ev hx, ha.ev hy, elemPtr, Option.map_some, Addr.add_mid, Nat.zero_add, Sem.run_bind, hrun, Result.andThen_ok]
  obtain ⟨hap, hapH⟩ := List.pairwise_cons.1 hw.apart
  have hrow : (w.setCell ⟨g, k, none⟩ (.int .u8 v)).heap[g]? = some (bytesObj e (xs.set k v) m) := by
    unfold World.setCell bytesObj
    simp only [Array.getElem?_modify, if_true, hh, Option.map_some]
    congr 1
    simp only [Option.isSome_none, Bool.false_eq_true, if_false, List.length_set]
    congr 1
    rw [List.setIfInBounds_toArray, List.set_append_left _ _ hko]
    simp [octs, List.map_set]
  have hw' : Holds G (.obj g (bytesObj e (xs.set k v) m) :: H') (w.setCell ⟨g, k, none⟩ (.int .u8 v)) := by
    have ho2 : ∀ j, j ≠ g → (w.setCell ⟨g, k, none⟩ (.int .u8 v)).heap[j]? = w.heap[j]? := fun j hj => Below.heap_setCell w _ _ j hj
    refine ⟨hw.below.setCell hB _, by simpa [World.setCell] using hw.base, fun z hz => ?_, List.pairwise_cons.2 ⟨fun y hy k hk => hap y hy k hk, hapH⟩⟩
    rcases List.mem_cons.1 hz with rfl | hz
    · exact ⟨hB, hrow⟩
    · exact Ent.ok_of (hw.ok z (List.mem_cons_of_mem _ hz)) fun j hj => ho2 j (fun e => hap z hz g rfl (e ▸ hj))
  exact hK _ _ (hk _ _ (by rw [hd]; exact ha) hw')
theorem c_minB {x y : Operand} {ats : Array TypeId} {k k' : IntKind} {p q : Int} (ho : o.op = .call { callee := .builtin .min, args := #[x, y], argTypes := ats }) (hx : ev s x = some (.int k p)) (hy : ev s y = some (.int k' q)) : Yields P G n s H o (.int k (min p q)) := fun a w ha _ => by
  have e : min p q = if q < p then q else p := by split <;> omega
  unfold execOp; rw [ho, e]
  simp only [resolve, invoke, Sem.run_bind, Sem.run_pure, Result.andThen_ok, builtin, List.map_toArray, List.map_cons, List.map_nil, ha.ev hx, ha.ev hy, run_min_int2]
/-- A byte of a text, by its value. -/
theorem c_indexNumV {t : Nat} {x y : Operand} {k : IntKind} {i v : Int} {b : ByteArray} (hv : (nums b).getD i.toNat 0 = v) (ho : o.op = .index t x y) [h : StrT P t] (hx : ev s x = some (.string b)) (hy : ev s y = some (.int k i)) (h0 : 0 ≤ i) (hi : i < b.size) : Yields P G n s H o (.int .u8 v) := hv ▸ c_indexNum ho hx hy h0 hi
/-- A number below 128 as a text. -/
theorem c_convIs {src dst : TypeId} {k : IntKind} {x : Operand} {m : Int} (ho : o.op = .convert src dst x) [h1 : IntT P src k] [h2 : StrT P dst] (hx : ev s x = some (.int k m)) (h0 : 0 ≤ m) (hm : m < 128) : Yields P G n s H o (.string (strOfNums [m])) := fun a w ha _ => by
  have e : Utf8.encode m = strOfNums [m] := by
    have hv : Utf8.valid m = true := by simp [Utf8.valid]; omega
    have h3 : m.toNat < 128 := by omega
    unfold Utf8.encode
    rw [hv]
    simp only [if_true]
    rw [if_pos h3]
    rfl
  unfold execOp; rw [ho]; simp only [ha.ev hx]
  refine run_value ?_
  simp only [convert, Sem.run_bind, run_underlying h1.here, run_underlying h2.here, Result.andThen_ok, Conv.intToString, Sem.run_pure, e]
/-- A piece of a text, by its value. -/
theorem c_sliceStrV {t : TypeId} {x : Operand} {lo hi : Option Operand} {b v : ByteArray} {l h : Int} (hv : b.extract l.toNat h.toNat = v) (ho : o.op = .slice t x lo hi none) [ht : StrT P t] (hx : ev s x = some (.string b)) (hl : bnd s 0 lo = some l) (hh : bnd s b.size hi = some h) (h0 : 0 ≤ l) (h1 : l ≤ h) (h2 : h ≤ b.size) : Yields P G n s H o (.string v) := hv ▸ c_sliceStr ho hx hl hh h0 h1 h2
end
end Go.Sx
