/- From the row's reading of the arguments to what the walks ask, and back: the closing steps that all laws of this seat share. -/
import Derived.Test.YtflmckoolagikaaDoorRows
import Derived.Test.YtflmckoolagikaaDoorBase
import Derived.ProofKit
import Derived.OpenShut
import Derived.JoinedCond
import Derived.SliceStrings
namespace Go.Fw
open Go Go.RowKit Go.ChangeShapes Go.WideShapes Go.ChangeAt

/-- Every argument reads as it read: nothing old has turned. -/
theorem trodAll_stays {H : Type} {enc : TypeId × Value → H} {P : Program} (hl : laidOutB P = true) {W W' : World} (hb : Below W.heap.size W W') :
    ∀ (ts : List TypeId) (vs : List Value) (ds : List (DataW H)) (p : List MemPlace), ts.all (fun t => P.readableRec t && decide (t < P.types.size)) = true →
      DataW.TrodAll enc P W 0 (fun _ => true) true ts vs ds p → (∀ x ∈ p, x.block < W.heap.size) →
      DataW.TrodAll enc P W' 0 (fun b => decide (b < W.heap.size)) true ts vs ds p := by
  intro ts
  induction ts with
  | nil =>
    intro vs ds p _ h _
    obtain ⟨rfl, rfl, rfl⟩ := trodAll_nil h
    exact trodAll_mk0
  | cons t ts ih =>
    intro vs ds p ht h hlt
    obtain ⟨v, vs', d, ds', p, q, rfl, rfl, rfl, hd, hr⟩ := trodAll_cons h
    simp only [List.all_cons, Bool.and_eq_true, decide_eq_true_eq] at ht
    refine trodAll_cons_mk (Below.trod hl ht.1.1 ht.1.2 hd hb (fun x hx => hlt x (by simp [hx]))) (ih _ _ _ ht.2 hr (fun x hx => hlt x (by simp [hx])))

/-- A law's post: it returned true, and nothing old has turned. -/
theorem law_post {H : Type} {enc : TypeId × Value → H} {P : Program} {f : Func} {s : ChangeSpec} {W W' : World} {args : Array Value} {ds gs : List (DataW H)} {before : List MemPlace} {tb : TypeId}
    (hl : laidOutB P = true) (hts : f.params.toList.all (fun t => P.readableRec t && decide (t < P.types.size)) = true) (hr : f.resultTypes = #[tb]) (htb : P.underlying tb = some .bool) (hv : s.vars = [])
    (hW : DataW.Whole enc P f.params.toList s.vars false W args.toList ds gs before) (hfn : s.fn H (ds ++ gs) = { results := [.lit (.bool true)], args := ds }) (hb : Below W.heap.size W W') :
    s.post enc P f false true false false W args (.bool true) W' := by
  have hW' := hW
  obtain ⟨p, q, hA, hV, rfl, hfz, hnd⟩ := hW
  have hlt : ∀ x ∈ p ++ q, x.block < W.heap.size := fun x hx => hW'.lt x hx
  refine ⟨ds, gs, p ++ q, [], p, q, hW', ?_, ?_, ?_, hb.frame _, fun h => by cases h⟩
  · rw [hfn, hr]
    exact trodAll_cons_mk (shut_bool htb _) trodAll_mk0
  · rw [hfn]
    exact trodAll_stays hl hb _ _ _ _ hts hA (fun x hx => hlt x (by simp [hx]))
  · rw [hfn]
    rw [hv] at hV ⊢
    obtain ⟨rfl, rfl⟩ := trodVars_none hV
    rfl

theorem add_plain (b o : Nat) (j : Nat) : (⟨b, o, none⟩ : Addr).add j = ⟨b, o + j, none⟩ := by unfold Addr.add; split <;> simp_all

/-- A slice of integers that came in: it reads as a list. -/
theorem open_ints_at {H : Type} {enc : TypeId × Value → H} {P : Program} {W : World} {base : Nat} {t e : TypeId} {k : IntKind} {v : Value} {d : DataW H} {ps : List MemPlace}
    (ht : P.underlying t = some (.slice e)) (he : P.underlying e = some (.int k)) (hc : P.cellsOf e = 1) (hval : Value.okWide P W .any base t v)
    (h : DataW.Trod enc P W 0 (fun _ => true) true t v d ps) :
    ∃ (a : Option Addr) (xs ys : List Int) (c : Nat), v = .slice a xs.length c ∧ At W a (xs.map (Value.int k)) ∧ (∀ x ∈ xs, (Lit.int k x).wf = true) ∧ xs.length ≤ maxLen ∧
      ((xs = [] ∧ d = .nil) ∨ d = .slice (lits k xs) (lits k ys)) := by
  obtain ⟨a0, len, cap, rfl⟩ := okWide_slice ht hval
  obtain ⟨fuel, hf⟩ := h
  rcases open_ints ht he hc hf with ⟨hcs, hx⟩ | ⟨a, len', cap', zs, hcs, _, hl, hm, hz, hx, hcell, hwz⟩
  · simp [Value.cells] at hcs
    obtain ⟨rfl, rfl, rfl⟩ := hcs
    simp at hx
    exact ⟨none, [], [], 0, rfl, .inl rfl, by simp, by simp [maxLen], .inl ⟨rfl, hx.1⟩⟩
  · simp [Value.cells] at hcs
    obtain ⟨rfl, rfl, rfl⟩ := hcs
    simp only [if_true] at hz
    simp at hx
    have hlen : (zs.take len).length = len := by simp; omega
    refine ⟨some a, zs.take len, zs.drop len, cap, by rw [hlen], ?_, fun x hx => hwz x (List.mem_of_mem_take hx), by rw [hlen]; omega, .inr hx.1⟩
    by_cases h0 : len = 0
    · left; subst h0; simp
    · right
      have hc0 : W.cell? a = some (.int k (zs.getD 0 0)) := by have := hcell 0 (by omega); simpa [Addr.add] using this
      obtain ⟨b, o, sp⟩ := a
      have hsp : sp = none := by
        cases sp with
        | none => rfl
        | some x =>
          simp only [World.cell?] at hc0
          split at hc0 <;> cases hc0
      subst hsp
      refine ⟨b, o, rfl, World.block_lt_of_cell? W _ hc0, fun i hi => ?_⟩
      rw [List.length_map, hlen] at hi
      have := hcell i (by omega)
      rw [add_plain] at this
      rw [this]
      simp [hi, List.getD, List.getElem?_eq_getElem (show i < zs.length by omega)]

/-- A slice of strings that came in. -/
theorem open_strs_at {H : Type} {enc : TypeId × Value → H} {P : Program} {W : World} {base : Nat} {t e : TypeId} {v : Value} {d : DataW H} {ps : List MemPlace}
    (ht : P.underlying t = some (.slice e)) (he : P.underlying e = some .string) (hc : P.cellsOf e = 1) (hval : Value.okWide P W .any base t v)
    (h : DataW.Trod enc P W 0 (fun _ => true) true t v d ps) :
    ∃ (a : Option Addr) (xs ys : List ByteArray) (c : Nat), v = .slice a xs.length c ∧ At W a (Fw.strs xs) ∧ (∀ x ∈ xs, x.size ≤ maxLen) ∧ xs.length ≤ maxLen ∧
      ((xs = [] ∧ d = .nil) ∨ d = .slice (Go.ChangeShapes.strs xs) (Go.ChangeShapes.strs ys)) := by
  obtain ⟨a0, len, cap, rfl⟩ := okWide_slice ht hval
  obtain ⟨fuel, hf⟩ := h
  rcases open_strings ht he hc hf with ⟨hcs, hx⟩ | ⟨a, len', cap', zs, hcs, _, hl, hm, hz, hx, hcell, hwz⟩
  · simp [Value.cells] at hcs
    obtain ⟨rfl, rfl, rfl⟩ := hcs
    simp at hx
    exact ⟨none, [], [], 0, rfl, .inl rfl, by simp, by simp [maxLen], .inl ⟨rfl, hx.1⟩⟩
  · simp [Value.cells] at hcs
    obtain ⟨rfl, rfl, rfl⟩ := hcs
    simp only [if_true] at hz
    simp at hx
    have hlen : (zs.take len).length = len := by simp; omega
    refine ⟨some a, zs.take len, zs.drop len, cap, by rw [hlen], ?_, fun x hx => hwz x (List.mem_of_mem_take hx), by rw [hlen]; omega, .inr hx.1⟩
    by_cases h0 : len = 0
    · left; subst h0; simp
    · right
      have hc0 : W.cell? a = some (.string (zs.getD 0 ByteArray.empty)) := by have := hcell 0 (by omega); simpa [Addr.add] using this
      obtain ⟨b, o, sp⟩ := a
      have hsp : sp = none := by
        cases sp with
        | none => rfl
        | some x =>
          simp only [World.cell?] at hc0
          split at hc0 <;> cases hc0
      subst hsp
      refine ⟨b, o, rfl, World.block_lt_of_cell? W _ hc0, fun i hi => ?_⟩
      rw [List.length_map, hlen] at hi
      have := hcell i (by omega)
      rw [add_plain] at this
      rw [this]
      simp [hi, List.getD, List.getElem?_eq_getElem (show i < zs.length by omega)]

theorem int_bounds {n : Int} (h : (Lit.int .i64 n).wf = true) : -9223372036854775808 ≤ n ∧ n ≤ 9223372036854775807 := by
  simpa [Lit.wf, IntKind.min, IntKind.max, IntKind.signed, IntKind.bits] using h
theorem u8_bounds {n : Int} (h : (Lit.int .u8 n).wf = true) : 0 ≤ n ∧ n ≤ 255 := by
  simpa [Lit.wf, IntKind.min, IntKind.max, IntKind.signed, IntKind.bits] using h
theorem u64_bounds {n : Int} (h : (Lit.int .u64 n).wf = true) : 0 ≤ n ∧ n ≤ 18446744073709551615 := by
  simpa [Lit.wf, IntKind.min, IntKind.max, IntKind.signed, IntKind.bits] using h

end Go.Fw
namespace Go.Proofs.YtflmckoolagikaaDoor
open Go.Fw Go.ChangeShapes
theorem one_le {H : Type} (d : DataW H) : 1 ≤ Rows.uptoBulk d := by
  cases d with
  | lit l => cases l <;> simp [Rows.uptoBulk]
  | nil => simp [Rows.uptoBulk]
  | ptr d => simp [Rows.uptoBulk]
  | slice elems spare => simp [Rows.uptoBulk]
  | agg parts => simp [Rows.uptoBulk]
  | iface t d => simp [Rows.uptoBulk]
  | map entries => simp [Rows.uptoBulk]
  | held h => simp [Rows.uptoBulk]
theorem bulk_part {H : Type} {d : DataW H} {l : List (DataW H)} (h : d ∈ l) : Rows.uptoBulk d ≤ Rows.uptoBulkAll l := by
  induction l with
  | nil => cases h
  | cons x r ih =>
    simp only [Rows.uptoBulkAll]
    cases List.mem_cons.1 h with
    | inl e => subst e; omega
    | inr e => have := ih e; omega
theorem bulk_length {H : Type} (l : List (DataW H)) : l.length ≤ Rows.uptoBulkAll l := by
  induction l with
  | nil => simp [Rows.uptoBulkAll]
  | cons x r ih => have := one_le x; simp only [Rows.uptoBulkAll, List.length_cons]; omega
theorem bulk_all {H : Type} {l : List (DataW H)} (hk : Rows.uptoSmall H l = true) : Rows.uptoBulkAll l ≤ 1048576 := of_decide_eq_true hk
theorem bulk_ints {H : Type} {d : DataW H} {l : List (DataW H)} {k : IntKind} {xs ys : List Int} (hk : Rows.uptoSmall H l = true) (hm : d ∈ l) (h : (xs = [] ∧ d = .nil) ∨ d = .slice (lits k xs) (lits k ys)) : xs.length ≤ 1048576 := by
  rcases h with ⟨rfl, _⟩ | rfl
  · simp
  · have h1 := bulk_all hk
    have h2 := bulk_part hm
    simp only [Rows.uptoBulk] at h2
    have h3 := bulk_length (H := H) (lits k xs)
    simp only [lits, List.length_map] at h3
    simp only [lits] at h2
    omega
theorem bulk_str {H : Type} {l : List (DataW H)} {s : ByteArray} (hk : Rows.uptoSmall H l = true) (hm : DataW.lit (H := H) (.string s.data.toList) ∈ l) : s.size ≤ 1048576 := by
  have h1 := bulk_all hk
  have h2 := bulk_part hm
  simp only [Rows.uptoBulk] at h2
  have e : s.data.toList.length = s.size := by rw [Array.length_toList]; rfl
  omega
theorem bulk_strs_aux {H : Type} (xs : List ByteArray) : xs.length + (xs.map (·.size)).sum ≤ Rows.uptoBulkAll (Go.ChangeShapes.strs (H := H) xs) := by
  induction xs with
  | nil => simp
  | cons x xs ih =>
    simp only [Go.ChangeShapes.strs, List.map_cons, Rows.uptoBulkAll, Rows.uptoBulk, List.length_cons, List.sum_cons] at ih ⊢
    have e : x.data.toList.length = x.size := by rw [Array.length_toList]; rfl
    omega
theorem bulk_strs {H : Type} {d : DataW H} {l : List (DataW H)} {xs ys : List ByteArray} (hk : Rows.uptoSmall H l = true) (hm : d ∈ l) (h : (xs = [] ∧ d = .nil) ∨ d = .slice (Go.ChangeShapes.strs xs) (Go.ChangeShapes.strs ys)) : xs.length + (xs.map (·.size)).sum ≤ 1048576 := by
  rcases h with ⟨rfl, _⟩ | rfl
  · simp
  · have h1 := bulk_all hk
    have h2 := bulk_part hm
    simp only [Rows.uptoBulk] at h2
    have h3 := bulk_strs_aux (H := H) xs
    omega
end Go.Proofs.YtflmckoolagikaaDoor
/- A slice of integers that came in, with its capacity. -/
namespace Go.Fw
open Go.RowKit Go.ChangeShapes Go.WideShapes Go.ChangeAt
theorem open_ints_cap {H : Type} {enc : TypeId × Value → H} {P : Program} {W : World} {base : Nat} {t e : TypeId} {k : IntKind} {v : Value} {d : DataW H} {ps : List MemPlace}
    (ht : P.underlying t = some (.slice e)) (he : P.underlying e = some (.int k)) (hc : P.cellsOf e = 1) (hval : Value.okWide P W .any base t v)
    (h : DataW.Trod enc P W 0 (fun _ => true) true t v d ps) :
    ∃ (a : Option Addr) (xs ys : List Int) (c : Nat), v = .slice a xs.length c ∧ At W a (xs.map (Value.int k)) ∧ (∀ x ∈ xs, (Lit.int k x).wf = true) ∧ xs.length ≤ maxLen ∧
      ((xs = [] ∧ d = .nil) ∨ d = .slice (lits k xs) (lits k ys)) ∧ xs.length ≤ c := by
  obtain ⟨a, xs, ys, c, rfl, h1, h2, h3, h4⟩ := open_ints_at ht he hc hval h
  refine ⟨a, xs, ys, c, rfl, h1, h2, h3, h4, ?_⟩
  obtain ⟨fuel, hf⟩ := h
  rcases open_ints ht he hc hf with ⟨hcs, hx⟩ | ⟨a', len', cap', zs, hcs, _, hl, hm, hz, hx, hcell, hwz⟩
  · simp [Value.cells] at hcs
    simp [hcs]
  · simp [Value.cells] at hcs
    omega
theorem open_strs_cap {H : Type} {enc : TypeId × Value → H} {P : Program} {W : World} {base : Nat} {t e : TypeId} {v : Value} {d : DataW H} {ps : List MemPlace}
    (ht : P.underlying t = some (.slice e)) (he : P.underlying e = some .string) (hc : P.cellsOf e = 1) (hval : Value.okWide P W .any base t v)
    (h : DataW.Trod enc P W 0 (fun _ => true) true t v d ps) :
    ∃ (a : Option Addr) (xs ys : List ByteArray) (c : Nat), v = .slice a xs.length c ∧ At W a (Fw.strs xs) ∧ (∀ x ∈ xs, x.size ≤ maxLen) ∧ xs.length ≤ maxLen ∧
      ((xs = [] ∧ d = .nil) ∨ d = .slice (Go.ChangeShapes.strs xs) (Go.ChangeShapes.strs ys)) ∧ xs.length ≤ c := by
  obtain ⟨a, xs, ys, c, rfl, h1, h2, h3, h4⟩ := open_strs_at ht he hc hval h
  refine ⟨a, xs, ys, c, rfl, h1, h2, h3, h4, ?_⟩
  obtain ⟨fuel, hf⟩ := h
  rcases open_strings ht he hc hf with ⟨hcs, hx⟩ | ⟨a', len', cap', zs, hcs, _, hl, hm, hz, hx, hcell, hwz⟩
  · simp [Value.cells] at hcs
    simp [hcs]
  · simp [Value.cells] at hcs
    omega
end Go.Fw
