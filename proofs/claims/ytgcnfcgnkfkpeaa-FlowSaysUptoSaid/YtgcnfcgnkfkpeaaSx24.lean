/- Rows of whatever elements; what is read at many places. -/
import Derived.Test.YtgcnfcgnkfkpeaaSx23
namespace Go.Sx
open Go Go.RowKit Go.Fw
instance (priority := low) rdApp {G : Ctx} {A H : List Ent} {a : Option Addr} {xs : List Value} [h : RdC G H a xs] : RdC G (A ++ H) a xs := ⟨h.here.mono fun _ hw => hw.sub (List.sublist_append_right A H)⟩
theorem Pick.app {x : Ent} {H H' : List Ent} (h : Pick x H H') : ∀ A : List Ent, Pick x (A ++ H) (A ++ H')
  | [] => h
  | _ :: A => .there (Pick.app h A)
instance (priority := low) hasBlkApp {A H : List Ent} {b : Nat} {t : TypeId} {cs : List Value} [h : HasBlk H b t cs] : HasBlk (A ++ H) b t cs := ⟨List.mem_append_right _ h.here⟩
instance (priority := low) pickBlkApp {A H H' : List Ent} {b : Nat} {t : TypeId} {cs : List Value} [h : PickBlk H b t cs H'] : PickBlk (A ++ H) b t cs (A ++ H') := ⟨h.here.app A⟩
theorem own_some {G : Ctx} {H : List Ent} {e sz n c : Nat} {a : Option Addr} {xs : List Value} {w : World} (h : Holds G H w) (hm : Ent.own e sz a n c xs ∈ H) (hn : 0 < n) : ∃ b, a = some ⟨b, 0, none⟩ ∧ n ≤ c := by
  have ho : w.ownsRow G.B e sz (.slice a n c) n xs := h.ok _ hm
  rcases ho.2 with ⟨hv, h0⟩ | ⟨g, cap, cur, hv, -, -, hc, -⟩
  · omega
  · injection hv with h1 h2 h3
    exact ⟨g, h1, by omega⟩
/-- A slice's address, its room and what it holds. -/
abbrev Rx (α : Type) := Option Addr × Nat × List α
def rxV {α : Type} (x : Rx α) : Value := .slice x.1 x.2.2.length x.2.1
/-- It can be read, and has its room. -/
def Sl {α : Type} (f : List α → List Value) (G : Ctx) (H : List Ent) (x : Rx α) : Prop := ∀ w, Holds G H w → x.2.2.length ≤ x.2.1 ∧ (x.2.2.length ≤ maxLen ∧ At w x.1 (f x.2.2))
/-- Each of these can be read. -/
def RdX {α : Type} (f : List α → List Value) (G : Ctx) (H : List Ent) (X : List (Rx α)) : Prop := ∀ x ∈ X, Sl f G H x
section
variable {α : Type} {f : List α → List Value} {G : Ctx} {H H' E : List Ent} {X Y : List (Rx α)} {x : Rx α}
theorem Sl.mono (h : Sl f G H x) (hs : ∀ w, Holds G H' w → Holds G H w) : Sl f G H' x := fun w hw => h w (hs w hw)
theorem Sl.app (h : Sl f G H x) : Sl f G (E ++ H) x := h.mono fun _ hw => hw.sub (List.sublist_append_right E H)
theorem Sl.cons {e : Ent} (h : Sl f G H x) : Sl f G (e :: H) x := h.mono fun _ hw => hw.drop
theorem Sl.rd (h : Sl f G H x) : RdC G H x.1 (f x.2.2) := ⟨fun w hw => (h w hw).2.2⟩
theorem Sl.nil (hf : f [] = []) : Sl f G H (none, 0, []) := fun w _ => ⟨Nat.le_refl _, Nat.zero_le _, by rw [hf]; exact .inl rfl⟩
theorem Sl.own {e sz : Nat} {a : Option Addr} {n c : Nat} {L : List α} {vs : List Value} (hm : Ent.own e sz a n c vs ∈ H) (hv : vs = f L) (hn : n = L.length) : Sl f G H (a, c, L) := fun w hw => by
  subst hv
  have ho : w.ownsRow G.B e sz (.slice a n c) n (f L) := hw.ok _ hm
  have hb : L.length ≤ c ∧ L.length ≤ maxLen := by
    rcases ho.2 with ⟨hv, h0⟩ | ⟨g, cap, cur, hv, -, -, hn', hm', -⟩
    · omega
    · have : c = cap := by injection hv
      omega
  exact ⟨hb.1, hb.2, (Rd.mem hm) w hw⟩
theorem Sl.rd0 (h : Sl f G H x) : Rd G H x.1 (f x.2.2) := fun w hw => (h w hw).2.2
theorem sc_imp {P : Program} {g : FuncId} {args : List Value} {R R' : Value → List Ent → Prop} (h : SC P G g args H R) (hi : ∀ v H', R v H' → R' v H') : SC P G g args H R' := ⟨h.1, fun w hw => (h.2 w hw).mono fun e w' ⟨v, H', h1, h2, h3⟩ => ⟨v, H', h1, h2, hi v H' h3⟩⟩
theorem sv_imp {P : Program} {g : FuncId} {args : List Value} {v : Value} {R' : Value → List Ent → Prop} (h : SV P G g args H v) (hi : R' v H) : SC P G g args H R' := sc_imp (R := fun u H' => u = v ∧ H' = H) h fun u H' ⟨e1, e2⟩ => by subst e1; subst e2; exact hi
theorem RdX.nil : RdX f G H [] := fun _ h => nomatch h
theorem RdX.mono (h : RdX f G H X) (hs : ∀ w, Holds G H' w → Holds G H w) : RdX f G H' X := fun x hx => (h x hx).mono hs
theorem RdX.app (h : RdX f G H X) : RdX f G (E ++ H) X := h.mono fun _ hw => hw.sub (List.sublist_append_right E H)
theorem RdX.cons {e : Ent} (h : RdX f G H X) : RdX f G (e :: H) X := h.mono fun _ hw => hw.drop
theorem RdX.snoc (h : RdX f G H X) (h1 : Sl f G H x) : RdX f G H (X ++ [x]) := fun y hy => by
  rcases List.mem_append.1 hy with hy | hy
  · exact h y hy
  · obtain rfl := List.mem_singleton.1 hy
    exact h1
theorem RdX.join (h : RdX f G H X) (h2 : RdX f G H Y) : RdX f G H (X ++ Y) := fun y hy => by
  rcases List.mem_append.1 hy with hy | hy
  · exact h y hy
  · exact h2 y hy
theorem RdX.sub (h : RdX f G H X) (hs : ∀ y ∈ Y, y ∈ X) : RdX f G H Y := fun y hy => h y (hs y hy)
theorem RdX.set {k : Nat} (h : RdX f G H X) (h1 : Sl f G H x) : RdX f G H (X.set k x) := fun y hy => by
  rcases List.mem_or_eq_of_mem_set hy with hy | rfl
  · exact h y hy
  · exact h1
theorem RdX.at {k : Nat} (h : RdX f G H X) (hx : X[k]? = some x) : Sl f G H x := h x (List.mem_of_getElem? hx)
end
theorem rxV_one {α : Type} (X : List (Rx α)) : (X.map rxV).all (·.oneCell') = true := by
  rw [List.all_map]
  exact List.all_eq_true.2 fun _ _ => rfl
theorem map_at {α β : Type} (f : α → β) {X : List α} {k : Nat} {x : α} (h : X[k]? = some x) : (X.map f)[k]? = some (f x) := by rw [List.getElem?_map, h]; rfl
theorem get_of {α : Type} {X : List α} {k : Nat} (h : k < X.length) : ∃ x, X[k]? = some x := ⟨X[k], List.getElem?_eq_getElem h⟩
theorem take_snoc {α : Type} {X : List α} {k : Nat} {x : α} (h : X[k]? = some x) : X.take (k + 1) = X.take k ++ [x] := by
  obtain ⟨hk, he⟩ := List.getElem?_eq_some_iff.1 h
  rw [List.take_succ_eq_append_getElem hk, he]
theorem drop_at {α : Type} {X : List α} {k : Nat} {x : α} (h : X[k]? = some x) : X.drop k = x :: X.drop (k + 1) := by
  obtain ⟨hk, he⟩ := List.getElem?_eq_some_iff.1 h
  rw [List.drop_eq_getElem_cons hk, he]

/-- Elements of so many cells each. -/
class En {α : Type} (en : α → List Value) (sz : outParam Nat) : Prop where
  len : ∀ x, (en x).length = sz
theorem take?_of : ∀ {l : List Value} {k : Nat}, k ≤ l.length → take? l k = some (l.take k)
  | _, 0, _ => by simp [take?]
  | [], k + 1, h => by simp at h
  | x :: l, k + 1, h => by
    simp only [List.length_cons] at h
    simp [take?, take?_of (show k ≤ l.length by omega)]
section
variable {α : Type} {en : α → List Value} {sz : Nat} [he : En en sz]
theorem fm_len : ∀ L : List α, (L.flatMap en).length = L.length * sz
  | [] => by simp
  | x :: L => by rw [List.flatMap_cons, List.length_append, fm_len L, he.len, List.length_cons, Nat.add_mul]; omega
theorem fm_drop : ∀ (k : Nat) (L : List α), (L.flatMap en).drop (k * sz) = (L.drop k).flatMap en
  | 0, L => by simp
  | k + 1, [] => by simp
  | k + 1, x :: L => by
    rw [List.flatMap_cons, show (k + 1) * sz = (en x).length + k * sz from by rw [he.len, Nat.add_mul]; omega, List.drop_length_add_append, fm_drop k L]
    rfl
theorem fm_take : ∀ (k : Nat) (L : List α), (L.flatMap en).take (k * sz) = (L.take k).flatMap en
  | 0, L => by simp
  | k + 1, [] => by simp
  | k + 1, x :: L => by
    rw [List.flatMap_cons, show (k + 1) * sz = (en x).length + k * sz from by rw [he.len, Nat.add_mul]; omega, List.take_length_add_append, fm_take k L]
    rfl
theorem fm_piece (L : List α) (q m : Nat) (l h : Int) (hl : l = q) (hh : h = q + m) : ((L.flatMap en).drop (l.toNat * sz)).take ((h.toNat - l.toNat) * sz) = ((L.drop q).take m).flatMap en := by
  rw [show l.toNat = q from by omega, show h.toNat - q = m from by omega, fm_drop, fm_take]
theorem fm_cell {L : List α} {k : Nat} {x : α} (j : Nat) (hx : L[k]? = some x) (hj : j < sz) : (L.flatMap en)[k * sz + j]? = (en x)[j]? := by
  rw [← List.getElem?_drop, fm_drop, drop_at hx, List.flatMap_cons, List.getElem?_append_left (by rw [he.len]; exact hj)]
theorem fm_elem {L : List α} {k : Nat} {x : α} (hx : L[k]? = some x) : take? ((L.flatMap en).drop (k * sz)) sz = some (en x) := by
  rw [fm_drop, drop_at hx, List.flatMap_cons, take?_of (by rw [List.length_append, he.len]; omega), List.take_append_of_le_length (by rw [he.len]; exact Nat.le_refl _), List.take_of_length_le (by rw [he.len]; exact Nat.le_refl _)]
theorem fm_part {L : List α} {k o m : Nat} {x : α} (hx : L[k]? = some x) (ho : o + m ≤ sz) : take? ((L.flatMap en).drop (k * sz + o)) m = some (((en x).drop o).take m) := by
  have e := he.len x
  rw [← List.drop_drop, fm_drop, drop_at hx, List.flatMap_cons, List.drop_append_of_le_length (by omega), take?_of (by rw [List.length_append, List.length_drop]; omega), List.take_append_of_le_length (by rw [List.length_drop]; omega)]
theorem fm_over {L : List α} {k : Nat} (x : α) (hk : k < L.length) : over (L.flatMap en) (k * sz) (en x) = (L.set k x).flatMap en := by
  unfold over
  rw [fm_take, he.len, show k * sz + sz = (k + 1) * sz from by rw [Nat.add_mul]; omega, fm_drop, List.set_eq_take_append_cons_drop, if_pos hk, List.flatMap_append, List.flatMap_cons, List.append_assoc]
theorem fm_snoc (L : List α) (x : α) : (L ++ [x]).flatMap en = L.flatMap en ++ en x := by rw [List.flatMap_append]; simp
theorem fm_one (L : List α) (h : ∀ x, (en x).all (·.oneCell') = true) : (L.flatMap en).all (·.oneCell') = true := by
  rw [List.all_flatMap]
  exact List.all_eq_true.2 fun x _ => h x
end
theorem fm_map {α : Type} (g : α → Value) (L : List α) : (L.flatMap fun x => [g x]) = L.map g := by
  induction L with
  | nil => rfl
  | cons x L ih => rw [List.flatMap_cons, ih]; rfl
theorem zeros_eq (zc : List Value) (n sz : Nat) (hz : zc.length = sz) (h0 : 0 < sz) : (Array.range (n * sz)).map (fun x => (zc.toArray)[x % zc.toArray.size]!) = ((List.replicate n zc).flatten).toArray := by
  have e : (List.replicate n zc).flatten = (List.range n).flatMap fun _ => zc := by
    rw [List.flatMap_def]
    congr 1
    rw [List.map_const', List.length_range]
  haveI : En (fun _ : Nat => zc) sz := ⟨fun _ => hz⟩
  rw [e]
  apply Array.toList_inj.1
  apply List.ext_getElem?
  intro i
  simp only [Array.toList_map, Array.toList_range, List.getElem?_map]
  rcases Nat.lt_or_ge i (n * sz) with hi | hi
  · have hd : i / sz < n := by rw [Nat.div_lt_iff_lt_mul h0]; exact hi
    have h3 := fm_cell (en := fun _ : Nat => zc) (L := List.range n) (k := i / sz) (x := i / sz) (i % sz) (List.getElem?_range hd) (Nat.mod_lt _ h0)
    rw [Nat.div_add_mod'] at h3
    rw [h3, List.getElem?_range hi]
    have hm := Nat.mod_lt i h0
    simp only [Option.map_some, List.size_toArray, hz]
    rw [List.getElem?_eq_getElem (by omega)]
    simp [hz, hm]
  · rw [List.getElem?_eq_none (by rw [List.length_range]; exact hi), List.getElem?_eq_none (by rw [fm_len, List.length_range]; exact hi)]
    rfl
section
variable {P : Program} {G : Ctx} {n : Nat} {ops : Array Oper} {Q : Post} {s : Fm} {H : List Ent} {o : Oper} {rest : List Oper}
/-- A literal row whose elements are structs. -/
theorem c_bsA {t e sz bytes len d : Nat} {parts : Array (Nat × Operand)} {zc cs : List Value} {l : List (Nat × List Value)} (hg : o.guard = none) (ho : o.op = .buildSlice t len parts) [hT : SliceT P t e sz bytes] [hz : ZeroT P e zc] (hp : parts? s parts.toList = some l) (hf : fillL? (arrOffs len sz) (List.replicate len zc).flatten l = some cs)
    (hl : Nat.beq cs.length (len * sz) = true) (h0 : Nat.blt 0 len = true) (hm : Nat.ble (len * sz) 1000 = true) (h1d : o.dst = some d) (h2d : Nat.blt d n = true)
    (hk : ∀ b, SL P G n ops Q rest ((d, .slice (some ⟨b, 0, none⟩) len len) :: s) (.own e sz (some ⟨b, 0, none⟩) len len cs :: H)) : SL P G n ops Q (o :: rest) s H := by
  obtain ⟨hu, hsz, hby, z', hzi, hzs⟩ := hT.here
  obtain ⟨z, hz1, hz2⟩ := hz.here
  obtain ⟨ie, hi, hiz⟩ := zero_info hz1
  rw [hi] at hzi
  simp only [Option.map_some, Option.some.injEq, Prod.mk.injEq] at hzi
  obtain ⟨e1, e2, e3⟩ := hzi
  rw [hiz] at e1
  obtain rfl := Option.some.inj e1
  have hzl : zc.length = sz := by rw [← hzs, hz2.cells]; simp
  have hl' := Nat.eq_of_beq_eq_true hl
  have hm' := Nat.le_of_ble_eq_true hm
  have h0' : 0 < len := by simpa [Nat.blt_eq] using h0
  have hpos : 0 < len * sz := Nat.mul_pos h0' hsz
  have hd := okd (n := n) h1d h2d
  simp only [← updd h1d] at hk
  refine sl_op (.inl hg) fun a w ha hw K hK => ?_
  obtain ⟨q1, q2⟩ := parts?_eq parts.toList l a ha hp
  have hb : builtSlice P e len ((parts.map fun (i, x) => (i, a.eval x)).toList) = some cs.toArray := by
    unfold builtSlice
    simp only [hi, hiz, e2]
    rw [if_neg (by omega), hz2.cells, zeros_eq zc len sz hzl hsz]
    rw [Array.toList_map]
    exact fillL?_eq (arrOffs len sz) (fun i => some (i * sz, sz)) (fun i p h => arrOffs_at len sz i p h) l _ _ cs q1 q2 hf
  unfold Oper.wp execOp
  simp only [ho, Sem.run_bind, run_buildSlice w t e len _ cs.toArray hu hb, Result.andThen_ok]
  have hw2 := hw.alloc e cs
  have hlm : len ≤ len * sz := Nat.le_mul_of_pos_right _ hsz
  have hw3 : Holds G (.own e sz (some ⟨w.heap.size, 0, none⟩) len len cs :: H) (w.alloc (.cells cs.toArray e)) := by
    refine ⟨hw2.below, hw2.base, fun x hx => ?_, List.pairwise_cons.2 ⟨fun y hy k hk => (List.pairwise_cons.1 hw2.apart).1 y hy k hk, (List.pairwise_cons.1 hw2.apart).2⟩⟩
    rcases List.mem_cons.1 hx with rfl | hx
    · have := hw2.ok _ List.mem_cons_self
      exact ⟨hl', .inr ⟨w.heap.size, len, cs.toArray, rfl, this.1, this.2, Nat.le_refl _, by unfold maxLen; omega, by simpa using hl', by rw [← hl']; simp⟩⟩
    · exact hw2.ok x (List.mem_cons_of_mem _ hx)
  exact hK _ _ (hk _ _ _ (ha.put _ _ hd) hw3)
end
end Go.Sx
