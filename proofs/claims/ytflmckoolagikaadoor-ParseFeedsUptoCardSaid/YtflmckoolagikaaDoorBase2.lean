/- More that the texts share: owned rows in worlds that only grow; bytes that become a string. -/
import Derived.Test.YtflmckoolagikaaDoorBase
import Derived.BigQuiet
import Derived.Laws.CopyOwn
import Derived.Deep.QuietTactic
namespace Go.Fw
open Go Go.RowKit

theorem own_ext {w w' : World} {base : Nat} {e : TypeId} {size : Nat} {v : Value} {n : Nat} {xs : List Value} (h : w.ownsRow base e size v n xs) (hb : Below w.heap.size w w') : w'.ownsRow base e size v n xs := by
  refine ⟨h.1, ?_⟩
  rcases h.2 with hn | ⟨g, cap, cur, rfl, hg, hh, rest⟩
  · exact .inl hn
  · refine .inr ⟨g, cap, cur, rfl, hg, ?_, rest⟩
    have hlt : g < w.heap.size := by
      rcases Nat.lt_or_ge g w.heap.size with h | h
      · exact h
      · rw [Array.getElem?_eq_none (by omega)] at hh; cases hh
    exact (hb.block g hlt).trans hh

/-- A world that may have grown since w, unchanged below B. -/
structure Grow (B : Nat) (w : World) where
  now : World
  below : Below B w now
theorem Grow.exists (B : Nat) (w : World) : Nonempty (Grow B w) := ⟨⟨w, Below.refl _ _⟩⟩
instance growNonempty (B : Nat) (w : World) : Nonempty (Grow B w) := Grow.exists B w

/-- A region that draws its order, whose operations read what lies below B and whose calls only make memory: one walk, in the order of the text. -/
theorem fw_region_grow {P : Program} {id : Nat} {Q : Exit → Act → World → Prop} {a : Act} {w : World} {l : List Oper} (B : Nat) (hm : P.follows .mixedOrders = true) (hB : Region.lexB .any l.toArray = true)
    (h : wpQuiet P l.toArray (fun w' => ∃ x : Grow B w, w' = x.now) (fun a' => ∀ w', (∃ x : Grow B w, w' = x.now) → Q .normal a' w') l a) : (Code.region id l.toArray true).wp P Q a w :=
  wp_region_quiet (C := fun w' => ∃ x : Grow B w, w' = x.now) hm hB ⟨⟨{ w with drawn := w.drawn + 1 }, ⟨rfl, rfl, rfl, Nat.le_refl _, fun _ _ => rfl⟩⟩, rfl⟩ (by simpa using h)

theorem Grow.call {P : Program} {f : FuncId} {args : Array Value} {B : Nat} {w : World} {v : Value} (hB : B ≤ w.heap.size) (x : Grow B w)
    (h : Calls P f args x.now fun e w' => e = .returned v ∧ Below x.now.heap.size x.now w') : Calls P f args x.now fun e w' => e = .returned v ∧ ∃ y : Grow B w, w' = y.now :=
  h.mono fun _ w' ⟨he, hb⟩ => ⟨he, ⟨w', x.below.trans (hb.mono (Nat.le_trans hB x.below.size))⟩, rfl⟩
theorem Grow.call_same {P : Program} {f : FuncId} {args : Array Value} {B : Nat} {w : World} {v : Value} (x : Grow B w)
    (h : Calls P f args x.now fun e w' => e = .returned v ∧ x.now = w') : Calls P f args x.now fun e w' => e = .returned v ∧ ∃ y : Grow B w, w' = y.now :=
  h.mono fun _ _ ⟨he, hb⟩ => ⟨he, x, hb.symm⟩
theorem Grow.cell {B : Nat} {w : World} {b o : Nat} {v : Value} (hb : b < B) (h : w.cell? ⟨b, o, none⟩ = some v) (x : Grow B w) : x.now.cell? ⟨b, o, none⟩ = some v := (x.below.cell (p := ⟨b, o, none⟩) hb).trans h
theorem Grow.load {P : Program} {B : Nat} {w : World} {g : Nat} {cs : Array Value} {t ty : TypeId} {d : TypeDesc} (hg : g < B) (h : w.heap[g]? = some (.cells cs t (0, 0)))
    (hu : P.underlying ty = some d) (hd : d.isRow = true) (hi : (P.info? ty).map (·.size) = some cs.size) (x : Grow B w) :
    (Instr.loadAt ty (.pointer (some ⟨g, 0, none⟩))).run P x.now = .ok (.agg cs) x.now := by
  simp only [Instr.loadAt, Instr.sureAddr, Sem.run_bind, Sem.run_pure, Result.andThen_ok]
  exact run_loadVar_row x.now g t ty cs (0, 0) d (x.below.row hg h) hu (by cases d <;> simp_all) hi

/-- A store into a row that is known whole. -/
theorem row_set {w : World} {g i : Nat} {cs : List Value} {t : TypeId} (v : Value) (h : w.heap[g]? = some (.cells cs.toArray t (0, 0))) : (w.setCell ⟨g, i, none⟩ v).heap[g]? = some (.cells (cs.set i v).toArray t (0, 0)) := by
  rw [heap_setCell_same w g i cs.toArray t v h]
  simp
theorem row_cell {w : World} {g i : Nat} {cs : List Value} {t : TypeId} {fr : Nat × Nat} (h : w.heap[g]? = some (.cells cs.toArray t fr)) : w.cell? ⟨g, i, none⟩ = cs[i]? := by
  rw [cell_of_row w g i cs.toArray t fr h]; simp
theorem row_free {w : World} {g i : Nat} {cs : List Value} {t : TypeId} (h : w.heap[g]? = some (.cells cs.toArray t (0, 0))) : w.frozen? ⟨g, i, none⟩ = false := frozen_of_row w g i cs.toArray t h
theorem row_lt {w : World} {g : Nat} {o : Obj} (h : w.heap[g]? = some o) : g < w.heap.size := by
  rcases Nat.lt_or_ge g w.heap.size with h' | h'
  · exact h'
  · rw [Array.getElem?_eq_none (by omega)] at h; cases h
theorem row_at {w : World} {g : Nat} {cs : List Value} {t : TypeId} {fr : Nat × Nat} (h : w.heap[g]? = some (.cells cs.toArray t fr)) : At w (some ⟨g, 0, none⟩) cs := by
  cases cs with
  | nil => exact .inl rfl
  | cons x xs => exact .inr ⟨g, 0, rfl, row_lt h, fun i _ => by rw [Nat.zero_add]; exact row_cell h⟩

/-- A list that is being written, place by place. -/
def fillAt (L : List Int) (k : Nat) : List Int := L.take k ++ List.replicate (L.length - k) 0
theorem fillAt_zero (L : List Int) : fillAt L 0 = List.replicate L.length 0 := by simp [fillAt]
theorem fillAt_all (L : List Int) : fillAt L L.length = L := by simp [fillAt]
theorem fillAt_get (L : List Int) (k : Nat) (hk : k < L.length) : (ints (fillAt L k))[k]? = some (.int .i64 0) := by
  unfold fillAt ints
  obtain ⟨m, hm⟩ : ∃ m, L.length - k = m + 1 := ⟨L.length - k - 1, by omega⟩
  rw [List.getElem?_map, List.getElem?_append_right (by simp; omega), hm]
  have : k - (List.take k L).length = 0 := by simp; omega
  rw [this]
  rfl
theorem fillAt_set (L : List Int) (k : Nat) (hk : k < L.length) : (ints (fillAt L k)).set k (.int .i64 (L.getD k 0)) = ints (fillAt L (k + 1)) := by
  unfold fillAt ints
  obtain ⟨m, hm⟩ : ∃ m, L.length - k = m + 1 := ⟨L.length - k - 1, by omega⟩
  have e : List.take (k + 1) L = List.take k L ++ [L[k]] := by rw [List.take_succ_eq_append_getElem hk]
  rw [e, hm, show L.length - (k + 1) = m from by omega, List.map_append, List.set_append_right _ _ (by simp; omega)]
  have h0 : k - (List.map (Value.int .i64) (List.take k L)).length = 0 := by simp; omega
  rw [h0, List.replicate_succ]
  simp only [List.map_append, List.map_cons, List.append_assoc, List.set_cons_zero, List.cons_append, List.nil_append, List.getD, List.getElem?_eq_getElem hk, Option.getD_some]
theorem set_twice (L : List Value) (k : Nat) (x y : Value) : (L.set k x).set k y = L.set k y := by
  rw [List.set_set]

/-- A whole struct or array stored into a block that is known. -/
theorem fw_store_row {P : Program} {ops : Array Oper} {rest : List Oper} {op : Oper} {a : Act} {w : World} {Q : Exit → Act → World → Prop} (hgd : op.guard = none) (ty : TypeId) (x y : Operand) (ho : op.op = .store ty x y)
    (g : Nat) (c c' : Array Value) (t : TypeId) (hx : a.eval x = .pointer (some ⟨g, 0, none⟩)) (hy : a.eval y = .agg c') (hg : w.heap[g]? = some (.cells c t (0, 0)))
    (hi : (P.info? ty).map (·.size) = some c'.size) (hs : c.size = c'.size) (h1 : c'.all (·.oneCell') = true)
    (h : ∀ w', w'.heap[g]? = some (.cells c' t (0, 0)) → (∀ B, B ≤ g → Below B w w') → wpList P ops Q rest (a.put op.dst undef) w') : wpList P ops Q (op :: rest) a w := by
  refine wpList_plain hgd fun K hK => ?_
  unfold Oper.wp execOp
  simp only [ho, hx, hy, Instr.storeAt, Instr.sureAddr, Sem.run_bind, Sem.run_pure, Result.andThen_ok, run_storeVar_row w g t ty c c' hg hi hs h1]
  exact hK _ _ (h _ (setRow_heap w g c c' t (0, 0) hg) (fun B hB => below_setRow (Below.refl B w) hB _))

theorem strOfNums_nil : strOfNums [] = ⟨#[]⟩ := rfl

/-- Bytes to a string, whatever the slice. -/
theorem conv_octs {P : Program} {w : World} {src e dst : TypeId} (hs : P.underlying src = some (.slice e)) (he : P.underlying e = some (.int .u8)) (hd : P.underlying dst = some .string)
    {a : Option Addr} {xs : List Int} {n : Nat} (c : Nat) (hn : n = xs.length) (h : At w a (octs xs)) : (convert src dst (.slice a n c)).run P w = .ok (.string (strOfNums xs)) w := by
  subst hn
  cases xs with
  | nil =>
    rw [run_convert_bytes_string w src dst e _ _ c hs he hd]
    cases a <;> simp [Conv.bytesToString, loadCells]
    all_goals rfl
  | cons x xs =>
    obtain ⟨b, o, rfl, _, hc⟩ := h.int (i := 0) (by simp)
    exact run_convert_bytes_arg w src e hs he b o _ c (x :: xs) rfl hc dst hd

theorem strOfNums_size (xs : List Int) : (strOfNums xs).size = xs.length := by
  show (xs.map fun n => UInt8.ofNat n.toNat).toArray.size = _
  simp
theorem strOfNums_append (xs ys : List Int) : strOfNums xs ++ strOfNums ys = strOfNums (xs ++ ys) := by
  show (⟨_⟩ : ByteArray) ++ ⟨_⟩ = ⟨_⟩
  rw [ByteArray.mk_append_mk]
  simp
/-- '+' on strings that are told by their numbers. -/
theorem str_add {P : Program} (xs ys : List Int) (h : xs.length + ys.length ≤ 9223372036854775807) (w : World) : (Op.stringOp .add (strOfNums xs) (strOfNums ys)).run P w = .ok (.string (strOfNums (xs ++ ys))) w := by
  rw [run_string_add_sum w _ _ (by rw [strOfNums_size, strOfNums_size]; exact h), strOfNums_append]
theorem one_int (k : IntKind) (n : Int) : ∀ u ∈ [Value.int k n], u.oneCell' = true := by intro u hu; simp at hu; subst hu; rfl
theorem one_str (s : ByteArray) : ∀ u ∈ [Value.string s], u.oneCell' = true := by intro u hu; simp at hu; subst hu; rfl

end Go.Fw
