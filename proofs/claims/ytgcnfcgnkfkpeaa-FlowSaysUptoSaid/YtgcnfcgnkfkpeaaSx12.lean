/- More rules: strings: their numbers, conversions, sums, equality. -/
import Derived.Test.YtgcnfcgnkfkpeaaSx11
import Derived.Laws.IdiomStrings
namespace Go.Sx
open Go Go.RowKit Go.Fw
/-- The bytes of a string, as numbers. -/
def nums (b : ByteArray) : List Int := b.data.toList.map fun x => (x.toNat : Int)
theorem nums_length (b : ByteArray) : (nums b).length = b.size := by unfold nums; rw [List.length_map, Array.length_toList]; rfl
theorem nums_bound (b : ByteArray) : ∀ x ∈ nums b, 0 ≤ x ∧ x ≤ 255 := fun x hx => by
  simp only [nums, List.mem_map] at hx
  obtain ⟨u, -, rfl⟩ := hx
  have := u.toNat_lt
  omega
theorem strOf_nums (b : ByteArray) : strOfNums (nums b) = b := by
  show (⟨((nums b).map fun n => UInt8.ofNat n.toNat).toArray⟩ : ByteArray) = b
  have e : (nums b).map (fun n => UInt8.ofNat n.toNat) = b.data.toList := by
    simp only [nums, List.map_map]
    refine (List.map_congr_left fun x _ => ?_).trans (List.map_id _)
    simp
  rw [e]
theorem nums_strOf {xs : List Int} (h : ∀ x ∈ xs, 0 ≤ x ∧ x ≤ 255) : nums (strOfNums xs) = xs := by
  show ((xs.map fun n => UInt8.ofNat n.toNat).toArray.toList.map fun x => (x.toNat : Int)) = xs
  rw [List.toList_toArray, List.map_map]
  refine (List.map_congr_left fun x hx => ?_).trans (List.map_id _)
  have := h x hx
  simp
  omega
theorem nums_inj {a b : ByteArray} (h : nums a = nums b) : a = b := by rw [← strOf_nums a, h, strOf_nums]
theorem nums_append (a b : ByteArray) : nums (a ++ b) = nums a ++ nums b := by
  unfold nums
  rw [show (a ++ b).data = a.data ++ b.data from ByteArray.data_append ..]
  simp
theorem nums_extract (b : ByteArray) (l h : Nat) : nums (b.extract l h) = ((nums b).drop l).take (h - l) := by
  unfold nums
  rw [show (b.extract l h).data = b.data.extract l h from ByteArray.data_extract ..]
  simp [List.map_take, List.map_drop]
theorem nums_at (b : ByteArray) (k : Nat) (h : k < b.size) : ∃ v : UInt8, b[k]? = some v ∧ (v.toNat : Int) = (nums b).getD k 0 := by
  have h' : k < b.data.toList.length := by simpa using h
  refine ⟨b[k], by simp [getElem?_pos, h], ?_⟩
  simp only [nums, List.getD_eq_getElem?_getD, List.getElem?_map, List.getElem?_eq_getElem h', Option.map_some, Option.getD_some]
  congr 1

/-- What a conversion of a string to bytes lays. -/
def bytesObj (e : TypeId) (xs : List Int) (m : Nat) : Obj := .cells (octs xs ++ List.replicate m (Value.int .u8 0)).toArray e (xs.length + m, xs.length + m + 1)
section
variable {P : Program} {G : Ctx} {n : Nat} {ops : Array Oper} {Q : Post} {s : Fm} {H : List Ent} {o : Oper} {rest : List Oper}
instance rdBytes {g : Nat} {e : TypeId} {xs : List Int} {m : Nat} : RdC G (.obj g (bytesObj e xs m) :: H) (some ⟨g, 0, none⟩) (octs xs) := ⟨fun w hw => by
  have h := hw.ok _ (List.mem_cons_self (a := Ent.obj g (bytesObj e xs m)))
  have h2 := row_at (show w.heap[g]? = some (.cells (octs xs ++ List.replicate m (Value.int .u8 0)).toArray e (xs.length + m, xs.length + m + 1)) from h.2)
  rcases h2 with h2 | ⟨b, off, e1, h3, h4⟩
  · exact .inl (List.append_eq_nil_iff.1 h2).1
  · refine .inr ⟨b, off, e1, h3, fun i hi => ?_⟩
    rw [h4 i (by rw [List.length_append]; omega), List.getElem?_append_left hi]⟩
theorem Holds.obj {w w' : World} {o : Obj} (h : Holds G H w) (h1 : w'.heap.size = w.heap.size + 1) (h2 : w'.heap[w.heap.size]? = some o) (h3 : ∀ k, k < w.heap.size → w'.heap[k]? = w.heap[k]?) (e1 : w'.os = w.os) (e2 : w'.tape = w.tape) (e3 : w'.output = w.output) : Holds G (.obj w.heap.size o :: H) w' := by
  refine ⟨⟨e1.trans h.below.os, e2.trans h.below.tape, e3.trans h.below.output, Nat.le_trans h.below.size (by omega), fun j hj => (h3 j (Nat.lt_of_lt_of_le hj h.base)).trans (h.below.block j hj)⟩, Nat.le_trans h.base (by omega), fun x hx => ?_, List.pairwise_cons.2 ⟨fun y hy k hk => ?_, h.apart⟩⟩
  · rcases List.mem_cons.1 hx with rfl | hx
    · exact ⟨h.base, h2⟩
    · exact Ent.ok_of (h.ok x hx) fun k hk => h3 k (Ent.ok_lt (h.ok x hx) hk).2
  · simp only [Ent.key, Option.some.injEq] at hk
    subst hk
    intro e
    exact absurd (Ent.ok_lt (h.ok y hy) e).2 (Nat.lt_irrefl _)
theorem bytesRow_eq (b : ByteArray) (cap : Nat) (hc : b.size ≤ cap) (e : TypeId) : Obj.cells (bytesRow b cap) e ((bytesRow b cap).size, (bytesRow b cap).size + 1) = bytesObj e (nums b) (cap - b.size) := by
  have e1 : bytesRow b cap = (octs (nums b) ++ List.replicate (cap - b.size) (Value.int .u8 0)).toArray := by
    apply Array.toList_inj.1
    simp [bytesRow, octs, nums, List.map_map, Function.comp_def]
  have e2 : (bytesRow b cap).size = (nums b).length + (cap - b.size) := by rw [e1]; simp [octs]
  rw [e2, e1]
  rfl
/-- A string to bytes. -/
theorem c_convSb {src dst e sz bytes d : Nat} {x : Operand} {b : ByteArray} (hg : o.guard = none) (ho : o.op = .convert src dst x) [hs : StrT P src] [hT : SliceT P dst e sz bytes] [he : IntT P e .u8] (hx : ev s x = some (.string b)) (h1d : o.dst = some d) (h2d : Nat.blt d n = true)
    (hk : ∀ g c, b.size ≤ c → SL P G n ops Q rest ((d, .slice (some ⟨g, 0, none⟩) b.size c) :: s) (.obj g (bytesObj e (nums b) (c - b.size)) :: H)) : SL P G n ops Q (o :: rest) s H := by
  obtain ⟨hu, -, -, -⟩ := hT.here
  have hd := okd (n := n) h1d h2d
  simp only [← updd h1d] at hk
  refine sl_op (.inl hg) fun act w ha hw K hK => ?_
  have hcap : b.size ≤ grownCap w b.size 0 e := by
    exact grownCap_ge w b.size 0 e
  have hrun := run_bytes_of_string (P := P) w src dst e b hs.here hu he.here
  rw [bytesRow_eq b _ hcap] at hrun
  unfold Oper.wp execOp
  simp only [ho, ha.ev hx, Sem.run_bind, hrun, Result.andThen_ok]
  have hw2 : Holds G (.obj w.heap.size (bytesObj e (nums b) (grownCap w b.size 0 e - b.size)) :: H) (w.drew.alloc (bytesObj e (nums b) (grownCap w b.size 0 e - b.size))) := by
    refine hw.obj (by simp [World.alloc, World.drew, -World.alloc_eq, -World.drew_eq]) (by simp [World.alloc, World.drew, -World.alloc_eq, -World.drew_eq]) (fun k hk => ?_) rfl rfl rfl
    exact Below.heap_alloc w.drew _ k hk
  exact hK _ _ (hk _ _ hcap _ _ (ha.put _ _ hd) hw2)
/-- Bytes to a string. -/
theorem c_convBs {src dst e sz bytes : Nat} {x : Operand} {a : Option Addr} {m c : Nat} {xs : List Int} {vs : List Value} (ho : o.op = .convert src dst x) [hT : SliceT P src e sz bytes] [he : IntT P e .u8] [hs : StrT P dst] (hx : ev s x = some (.slice a m c)) [hr : RdC G H a vs] (hv : vs = octs xs) (hm : m = xs.length) : Yields P G n s H o (.string (strOfNums xs)) := fun act w ha hw => by
  subst hv
  unfold execOp; rw [ho]; simp only [ha.ev hx]
  exact run_value (conv_octs hT.here.1 he.here hs.here c hm (hr.here w hw))
theorem c_indexNum {t : Nat} {x y : Operand} {k : IntKind} {i : Int} {b : ByteArray} (ho : o.op = .index t x y) [h : StrT P t] (hx : ev s x = some (.string b)) (hy : ev s y = some (.int k i)) (h0 : 0 ≤ i) (hi : i < b.size) : Yields P G n s H o (.int .u8 ((nums b).getD i.toNat 0)) := by
  obtain ⟨v, h1, h2⟩ := nums_at b i.toNat (by omega)
  rw [← h2]
  exact c_indexStr ho hx hy h0 h1
variable {K : Value → Prop} {x y : Operand} {t : TypeId}
theorem bb_cat {a b : ByteArray} (h : a.size + b.size ≤ 9223372036854775807) (hk : K (.string (a ++ b))) : BB P .add t x y (.string a) (.string b) K := ⟨_, fun w => by
  have := run_string_add_sum (P := P) w a b h
  simp only [eqGuard, binOp]
  simpa using this, hk⟩
theorem str_beq (a b : ByteArray) : (a.toList == b.toList) = decide (a = b) := by
  rw [Bool.eq_iff_iff, beq_iff_eq, decide_eq_true_eq]
  exact ⟨toList_inj, fun e => by rw [e]⟩
theorem bb_seq {a b : ByteArray} (hk : K (.bool (decide (a = b)))) : BB P .eql t x y (.string a) (.string b) K := ⟨_, fun w => by
  rw [← str_beq]
  rfl, hk⟩
theorem bb_sne {a b : ByteArray} (hk : K (.bool (!decide (a = b)))) : BB P .neq t x y (.string a) (.string b) K := ⟨_, fun w => by
  rw [← str_beq]
  rfl, hk⟩
end
end Go.Sx
