/- What comes in, by its type: its data, where they lie, and their bulk. -/
import Derived.Test.YtflmckoolagikaaDoorLawBase
import Derived.Test.YtflmckoolagikaaDoorSxB
namespace Go.Proofs.YtflmckoolagikaaDoor
open Go Go.RowKit Go.ChangeShapes Go.WideShapes Go.ChangeAt Go.Sx Go.Fw
/-- What a type's cells are, when they read. -/
class Tr (P : Program) (t : TypeId) (α : outParam Type) (en : outParam (α → List Value)) (ok : outParam (World → α → Prop)) (bk : outParam (α → Nat)) : Prop where
  op : ∀ {H : Type} {enc : TypeId × Value → H} {W : World} {sp : Nat → Bool} {hd : Bool} {fuel : Nat} {cs : List Value} {x : DataW H × List MemPlace}, DataW.trod enc P W 0 sp hd fuel t cs = some x → ∃ y : α, cs = en y ∧ ok W y ∧ bk y + 1 ≤ Rows.uptoBulk x.1
  sz : ∀ y, (en y).length = P.cellsOf t
section
variable {P : Program} {t : TypeId}
theorem Tr.int {k : IntKind} (ht : P.underlying t = some (.int k)) (hc : P.cellsOf t = 1) : Tr P t Int (fun z => [.int k z]) (fun _ z => (Lit.int k z).wf = true) (fun _ => 0) := ⟨fun h => by
  obtain ⟨n, h1, h2, h3⟩ := DataW.trod_int ht h
  exact ⟨n, h1, h3, by rw [h2]; exact one_le _⟩, fun _ => hc.symm⟩
theorem Tr.bool (ht : P.underlying t = some .bool) (hc : P.cellsOf t = 1) : Tr P t Bool (fun z => [.bool z]) (fun _ _ => True) (fun _ => 0) := ⟨fun h => by
  obtain ⟨n, h1, h2⟩ := DataW.trod_bool ht h
  exact ⟨n, h1, trivial, by rw [h2]; exact one_le _⟩, fun _ => hc.symm⟩
theorem Tr.str (ht : P.underlying t = some .string) (hc : P.cellsOf t = 1) : Tr P t ByteArray (fun z => [.string z]) (fun _ z => z.size ≤ maxLen) (fun z => z.size) := ⟨fun h => by
  obtain ⟨n, h1, h2, h3⟩ := DataW.trod_string ht h
  refine ⟨n, h1, h3, ?_⟩
  rw [h2]
  have e : n.data.toList.length = n.size := by rw [Array.length_toList]; rfl
  simp only [Rows.uptoBulk]
  omega, fun _ => hc.symm⟩
theorem bulkAll_app {H : Type} : ∀ (l r : List (DataW H)), Rows.uptoBulkAll (l ++ r) = Rows.uptoBulkAll l + Rows.uptoBulkAll r
  | [], r => by simp [Rows.uptoBulkAll]
  | x :: l, r => by rw [List.cons_append]; simp only [Rows.uptoBulkAll]; rw [bulkAll_app l r]; omega
theorem Tr.slice {e : TypeId} {α : Type} {en : α → List Value} {ok : World → α → Prop} {bk : α → Nat} (he : Tr P e α en ok bk) (ht : P.underlying t = some (.slice e)) (hc : P.cellsOf t = 1) (h0 : 0 < P.cellsOf e) : Tr P t (Rx α) (fun x => [rxV x]) (fun W x => x.2.2.length ≤ x.2.1 ∧ x.2.2.length ≤ maxLen ∧ At W x.1 (x.2.2.flatMap en) ∧ ∀ y ∈ x.2.2, ok W y) (fun x => (x.2.2.map fun y => bk y + 1).sum) := ⟨fun {H enc W sp hd fuel cs x} h => by
  rcases DataW.trod_slice ht h with ⟨hcs, hx⟩ | ⟨a, len, cap, elems, rest, n, -, hcs, hx, -, hl, hm, hlen, hel, -, -⟩
  · exact ⟨(none, 0, []), hcs, ⟨Nat.le_refl _, by simp [maxLen], .inl rfl, fun y hy => nomatch hy⟩, by rw [hx]; exact one_le _⟩
  · have each : ∀ i, i < len → ∃ q : α, (ok W q ∧ ∃ z, elems[i]? = some z ∧ bk q + 1 ≤ Rows.uptoBulk z.1) ∧ ∀ j, j < P.cellsOf e → W.cell? ((a.add (i * P.cellsOf e)).add j) = (en q)[j]? := fun i hi => by
      have h1 := hel i hi
      rw [List.getElem?_eq_getElem (by omega : i < elems.length), Option.bind_eq_some_iff] at h1
      obtain ⟨cs', hc, ht⟩ := h1
      obtain ⟨q, rfl, hq, hb⟩ := he.op ht
      obtain ⟨_, hlen', hcell⟩ := World.cells?_some hc
      exact ⟨q, ⟨hq, _, List.getElem?_eq_getElem _, hb⟩, fun j hj => hcell j hj⟩
    obtain ⟨L, hL, hLe, hLb⟩ : ∃ L : List α, L.length = len ∧ (∀ i x, L[i]? = some x → ok W x ∧ ∀ j, j < P.cellsOf e → W.cell? ((a.add (i * P.cellsOf e)).add j) = (en x)[j]?) ∧ (L.map fun y => bk y + 1).sum ≤ Rows.uptoBulkAll ((elems.take len).map (·.1)) := by
      clear hel hcs hm hl h hx
      have hle : len ≤ elems.length := by omega
      clear hlen
      induction len with
      | zero => exact ⟨[], rfl, fun i x hx => by simp at hx, by simp⟩
      | succ m ih =>
        obtain ⟨L, h1, h2, h3⟩ := ih (fun i hi => each i (by omega)) (by omega)
        obtain ⟨q, hq, hq2⟩ := each m (by omega)
        refine ⟨L ++ [q], by simp [h1], fun i x hx => ?_, ?_⟩
        · rcases Nat.lt_or_ge i L.length with hi | hi
          · rw [List.getElem?_append_left hi] at hx
            exact h2 i x hx
          · rw [List.getElem?_append_right hi] at hx
            rcases Nat.eq_zero_or_pos (i - L.length) with h0 | h0
            · rw [h0] at hx
              obtain rfl : q = x := by simpa using hx
              obtain rfl : i = m := by omega
              exact ⟨hq.1, hq2⟩
            · rw [List.getElem?_eq_none (by simp; omega)] at hx
              cases hx
        · rw [List.take_succ_eq_append_getElem (by omega), List.map_append, List.map_append, List.sum_append, bulkAll_app]
          obtain ⟨z, hz, this⟩ := hq.2
          rw [List.getElem?_eq_getElem (by omega)] at hz
          rw [Option.some.inj hz]
          simp only [List.map_cons, List.map_nil, List.sum_cons, List.sum_nil, Rows.uptoBulkAll]
          omega
    refine ⟨(some a, cap, L), by rw [hcs]; simp [rxV, hL], ⟨by dsimp only; omega, by dsimp only; omega, ?_, fun y hy => ?_⟩, ?_⟩
    · dsimp only
      by_cases hz : len = 0
      · left
        subst hz
        rw [List.eq_nil_of_length_eq_zero hL]; rfl
      · right
        obtain ⟨x0, hx0⟩ := get_of (X := L) (k := 0) (by omega)
        have hc0 := (hLe 0 x0 hx0).2 0 h0
        have hv0 : ∃ u, (en x0)[0]? = some u := ⟨(en x0)[0]'(by rw [he.sz]; exact h0), List.getElem?_eq_getElem _⟩
        obtain ⟨u, hu⟩ := hv0
        rw [hu] at hc0
        obtain ⟨b, o, sp'⟩ := a
        have hsp : sp' = none := by
          cases sp' with
          | none => rfl
          | some y =>
            exfalso
            simp only [World.cell?, Addr.add] at hc0
            split at hc0 <;> simp_all
        subst hsp
        refine ⟨b, o, rfl, World.block_lt_of_cell? W _ (u := u) (by have := hc0; simpa [Addr.add] using this), fun i hi => ?_⟩
        have hfl : (L.flatMap en).length = len * P.cellsOf e := by
          haveI : En en (P.cellsOf e) := ⟨he.sz⟩
          rw [fm_len, hL]
        rw [hfl] at hi
        have hdiv : i / P.cellsOf e < len := by
          rw [Nat.div_lt_iff_lt_mul h0]
          exact hi
        obtain ⟨y, hy⟩ := get_of (X := L) (k := i / P.cellsOf e) (by omega)
        have h3 := (hLe _ y hy).2 (i % P.cellsOf e) (Nat.mod_lt _ h0)
        rw [Fw.add_plain, Fw.add_plain, Nat.add_assoc, Nat.div_add_mod'] at h3
        haveI : En en (P.cellsOf e) := ⟨he.sz⟩
        have h4 := fm_cell (en := en) (L := L) (i % P.cellsOf e) hy (Nat.mod_lt _ h0)
        rw [Nat.div_add_mod'] at h4
        rw [h3, h4]
    · obtain ⟨i, hi, rfl⟩ := List.getElem_of_mem hy
      exact (hLe i _ (List.getElem?_eq_getElem hi)).1
    · rw [List.take_of_length_le (by omega)] at hLb
      rw [hx]
      simp only [Rows.uptoBulk]
      omega, fun _ => hc.symm⟩
/-- The fields of a struct, from one on. -/
structure TrS (P : Program) (l : List (Nat × TypeId)) (o n : Nat) (α : Type) (en : α → List Value) (ok : World → α → Prop) (bk : α → Nat) : Prop where
  op : ∀ {H : Type} {enc : TypeId × Value → H} {W : World} {sp : Nat → Bool} {hd : Bool} {fuel : Nat} {cs : List Value} {xs : List (DataW H × List MemPlace)}, cs.length = n → xs.length = l.length → (∀ (i : Nat) (p : Nat × TypeId), l[i]? = some p → DataW.trod enc P W 0 sp hd fuel p.2 ((cs.drop p.1).take (P.cellsOf p.2)) = xs[i]?) → ∃ y : α, cs.drop o = en y ∧ ok W y ∧ bk y ≤ Rows.uptoBulkAll (xs.map (·.1))
  sz : ∀ y, o + (en y).length = n
theorem TrS.one {o n : Nat} {α : Type} {en : α → List Value} {ok : World → α → Prop} {bk : α → Nat} (h : Tr P t α en ok bk) (hn : o + P.cellsOf t = n) : TrS P [(o, t)] o n α en ok bk := ⟨fun {H enc W sp hd fuel cs xs} hl hx he => by
  match xs, hx with
  | [x], _ =>
    have h1 := he 0 _ rfl
    obtain ⟨y, h2, h3, h4⟩ := h.op (x := x) h1
    refine ⟨y, ?_, h3, ?_⟩
    · rw [← h2, List.take_of_length_le (by rw [List.length_drop]; show cs.length - o ≤ P.cellsOf t; omega)]
    · simp only [List.map_cons, List.map_nil, Rows.uptoBulkAll]
      omega, fun y => by rw [h.sz, hn]⟩
theorem TrS.cons {o o' n : Nat} {α β : Type} {l : List (Nat × TypeId)} {en : α → List Value} {ok : World → α → Prop} {bk : α → Nat} {en2 : β → List Value} {ok2 : World → β → Prop} {bk2 : β → Nat} (h : Tr P t α en ok bk) (ho : o + P.cellsOf t = o') (hr : TrS P l o' n β en2 ok2 bk2) :
    TrS P ((o, t) :: l) o n (α × β) (fun p => en p.1 ++ en2 p.2) (fun W p => ok W p.1 ∧ ok2 W p.2) (fun p => bk p.1 + bk2 p.2) := ⟨fun {H enc W sp hd fuel cs xs} hl hx he => by
  match xs, hx with
  | x :: xs, hx =>
    obtain ⟨y, h2, h3, h4⟩ := h.op (x := x) (he 0 _ rfl)
    obtain ⟨z, h5, h6, h7⟩ := hr.op (xs := xs) hl (by simpa using hx) fun i p hp => he (i + 1) p (by simpa using hp)
    refine ⟨(y, z), ?_, ⟨h3, h6⟩, ?_⟩
    · dsimp only
      rw [← h2, ← h5, ← ho, ← List.drop_drop]
      exact (List.take_append_drop _ _).symm
    · simp only [List.map_cons, Rows.uptoBulkAll]
      omega, fun y => by rw [List.length_append, h.sz, ← Nat.add_assoc, ho, hr.sz]⟩
theorem Tr.struct {fs : Array Field} {l : List (Nat × TypeId)} {n : Nat} {α : Type} {en : α → List Value} {ok : World → α → Prop} {bk : α → Nat} (hr : TrS P l 0 n α en ok bk) (ht : P.underlying t = some (.struct fs)) (hl : (fs.toList.map fun f => (f.offset, f.type)) = l) (hc : P.cellsOf t = n) : Tr P t α en ok bk := ⟨fun {H enc W sp hd fuel cs x} h => by
  obtain ⟨xs, m, -, hx, hlen, hxs, hel⟩ := DataW.trod_struct ht h
  have hll : l.length = fs.size := by rw [← hl]; simp
  obtain ⟨y, h2, h3, h4⟩ := hr.op (enc := enc) (W := W) (sp := sp) (hd := hd) (fuel := m) (cs := cs) (xs := xs) (by rw [hlen, hc]) (by rw [hxs, hll]) fun i p hp => by
    rw [← hl, List.getElem?_map] at hp
    cases hf : fs.toList[i]? with
    | none => rw [hf] at hp; cases hp
    | some f =>
      rw [hf] at hp
      obtain rfl := Option.some.inj hp
      exact hel i f (by simpa using hf)
  refine ⟨y, by rw [← h2, List.drop_zero], h3, ?_⟩
  rw [hx]
  simp only [Rows.uptoBulk]
  omega, fun y => by have := hr.sz y; rw [hc]; omega⟩
theorem Tr.array {e : TypeId} {n : Nat} {α : Type} {en : α → List Value} {ok : World → α → Prop} {bk : α → Nat} (he : Tr P e α en ok bk) (ht : P.underlying t = some (.array n e)) (hc : P.cellsOf t = n * P.cellsOf e) : Tr P t {L : List α // L.length = n} (fun L => L.1.flatMap en) (fun W L => ∀ y ∈ L.1, ok W y) (fun _ => 0) := ⟨fun {H enc W sp hd fuel cs x} h => by
  obtain ⟨xs, m, -, hx, hlen, hxs, hel⟩ := DataW.trod_array ht h
  have each : ∀ i, i < n → ∃ q : α, ok W q ∧ (cs.drop (i * P.cellsOf e)).take (P.cellsOf e) = en q := fun i hi => by
    have h1 := hel i hi
    rw [List.getElem?_eq_getElem (by omega : i < xs.length)] at h1
    obtain ⟨q, h2, h3, -⟩ := he.op h1
    exact ⟨q, h3, h2⟩
  have key : ∀ k, k ≤ n → ∃ L : List α, L.length = k ∧ (∀ y ∈ L, ok W y) ∧ cs.take (k * P.cellsOf e) = L.flatMap en := fun k => by
    induction k with
    | zero => exact fun _ => ⟨[], rfl, fun y hy => (nomatch hy), by simp⟩
    | succ k ih =>
      intro hk
      obtain ⟨L, h1, h2, h3⟩ := ih (by omega)
      obtain ⟨q, h4, h5⟩ := each k (by omega)
      refine ⟨L ++ [q], by simp [h1], fun y hy => ?_, ?_⟩
      · rcases List.mem_append.1 hy with hy | hy
        · exact h2 y hy
        · obtain rfl := List.mem_singleton.1 hy
          exact h4
      · rw [List.flatMap_append, ← h3, Nat.add_mul, Nat.one_mul, List.take_add, h5]
        simp
  obtain ⟨L, h1, h2, h3⟩ := key n (Nat.le_refl _)
  refine ⟨⟨L, h1⟩, ?_, h2, by rw [hx]; exact one_le _⟩
  dsimp only
  rw [← h3, List.take_of_length_le (by rw [hlen, hc]; exact Nat.le_refl _)], fun L => by
  haveI : En en (P.cellsOf e) := ⟨he.sz⟩
  rw [hc, fm_len, L.2]⟩
/-- An argument that is a struct. -/
theorem tr_agg {H : Type} {enc : TypeId × Value → H} {W : World} {base : Nat} {v : Value} {d : DataW H} {ps : List MemPlace} {fs : Array Field} (ht : P.underlying t = some (.struct fs)) {α : Type} {en : α → List Value} {ok : World → α → Prop} {bk : α → Nat} (tr : Tr P t α en ok bk)
    (k : Value.okWide P W .any base t v) (h : DataW.Trod enc P W 0 (fun _ => true) true t v d ps) : ∃ y : α, v = .agg (en y).toArray ∧ ok W y ∧ bk y + 1 ≤ Rows.uptoBulk d := by
  obtain ⟨cs, rfl, -⟩ := okWide_struct ht k
  obtain ⟨fuel, hf⟩ := h
  rw [show (Value.agg cs).cells.toList = cs.toList from rfl] at hf
  obtain ⟨y, h1, h2, h3⟩ := tr.op hf
  exact ⟨y, by rw [← h1], h2, h3⟩
theorem tr_slice {H : Type} {enc : TypeId × Value → H} {W : World} {base : Nat} {v : Value} {d : DataW H} {ps : List MemPlace} {e : TypeId} (ht : P.underlying t = some (.slice e)) {α : Type} {ok : World → Rx α → Prop} {bk : Rx α → Nat} (tr : Tr P t (Rx α) (fun x => [rxV x]) ok bk)
    (k : Value.okWide P W .any base t v) (h : DataW.Trod enc P W 0 (fun _ => true) true t v d ps) : ∃ y : Rx α, v = rxV y ∧ ok W y ∧ bk y + 1 ≤ Rows.uptoBulk d := by
  obtain ⟨a, l, c, rfl⟩ := okWide_slice ht k
  obtain ⟨fuel, hf⟩ := h
  obtain ⟨y, h1, h2, h3⟩ := tr.op hf
  simp only [Value.cells] at h1
  exact ⟨y, by simpa using h1, h2, h3⟩
theorem tr_int {H : Type} {enc : TypeId × Value → H} {W : World} {base : Nat} {v : Value} {d : DataW H} {ps : List MemPlace} {ik : IntKind} (ht : P.underlying t = some (.int ik)) {ok : World → Int → Prop} {bk : Int → Nat} (tr : Tr P t Int (fun z => [.int ik z]) ok bk)
    (k : Value.okWide P W .any base t v) (h : DataW.Trod enc P W 0 (fun _ => true) true t v d ps) : ∃ y : Int, v = .int ik y ∧ ok W y ∧ bk y + 1 ≤ Rows.uptoBulk d := by
  obtain ⟨z, rfl⟩ := okWide_int ht k
  obtain ⟨fuel, hf⟩ := h
  obtain ⟨y, h1, h2, h3⟩ := tr.op hf
  simp only [Value.cells] at h1
  exact ⟨y, by simpa using h1, h2, h3⟩
theorem tr_bool {H : Type} {enc : TypeId × Value → H} {W : World} {base : Nat} {v : Value} {d : DataW H} {ps : List MemPlace} (ht : P.underlying t = some .bool) {ok : World → Bool → Prop} {bk : Bool → Nat} (tr : Tr P t Bool (fun z => [.bool z]) ok bk)
    (k : Value.okWide P W .any base t v) (h : DataW.Trod enc P W 0 (fun _ => true) true t v d ps) : ∃ y : Bool, v = .bool y ∧ ok W y ∧ bk y + 1 ≤ Rows.uptoBulk d := by
  obtain ⟨z, rfl⟩ := okWide_bool ht k
  obtain ⟨fuel, hf⟩ := h
  obtain ⟨y, h1, h2, h3⟩ := tr.op hf
  simp only [Value.cells] at h1
  exact ⟨y, by simpa using h1, h2, h3⟩
theorem tr_str {H : Type} {enc : TypeId × Value → H} {W : World} {base : Nat} {v : Value} {d : DataW H} {ps : List MemPlace} (ht : P.underlying t = some .string) {ok : World → ByteArray → Prop} {bk : ByteArray → Nat} (tr : Tr P t ByteArray (fun z => [.string z]) ok bk)
    (k : Value.okWide P W .any base t v) (h : DataW.Trod enc P W 0 (fun _ => true) true t v d ps) : ∃ y : ByteArray, v = .string y ∧ ok W y ∧ bk y + 1 ≤ Rows.uptoBulk d := by
  obtain ⟨z, rfl⟩ := okWide_string ht k
  obtain ⟨fuel, hf⟩ := h
  obtain ⟨y, h1, h2, h3⟩ := tr.op hf
  simp only [Value.cells] at h1
  exact ⟨y, by simpa using h1, h2, h3⟩
end
end Go.Proofs.YtflmckoolagikaaDoor
