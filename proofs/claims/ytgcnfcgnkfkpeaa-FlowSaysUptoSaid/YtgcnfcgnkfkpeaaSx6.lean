/- More rules: arrays and structs built, indexed; shifts and masks by literals; a loop unrolled. -/
import Derived.Test.YtgcnfcgnkfkpeaaSx5
namespace Go.Sx
open Go Go.RowKit Go.Fw

/-- Where the parts of a struct or an array lie. -/
class OffsT (P : Program) (t : TypeId) (offs : outParam (List (Nat × Nat))) (z : outParam (List Value)) : Prop where
  here : ∃ place : Nat → Option (Nat × Nat), (∀ (parts : List (Nat × Value)), P.built t parts = Instr.fill place z.toArray parts) ∧ ∀ (i : Nat) p, offs[i]? = some p → place i = some p
def arrOffs (len sz : Nat) : List (Nat × Nat) := (List.range len).map fun i => (i * sz, sz)
theorem arrOffs_at (len sz i : Nat) (p : Nat × Nat) (h : (arrOffs len sz)[i]? = some p) : some (i * sz, sz) = some p := by
  rw [← h, arrOffs, List.getElem?_map]
  have hi : i < len := by
    have := (List.getElem?_eq_some_iff.1 h).1
    simpa [arrOffs] using this
  simp [List.getElem?_range hi]
def putL? : List Value → Nat → List Value → Option (List Value)
  | l, _, [] => some l
  | l, k, v :: vs => match set? l k v with
    | none => none
    | some l' => putL? l' (k + 1) vs
def fillL? (offs : List (Nat × Nat)) : List Value → List (Nat × List Value) → Option (List Value)
  | l, [] => some l
  | l, (i, cs) :: r => match offs[i]? with
    | none => none
    | some (off, sz) => bif Nat.beq cs.length sz && Nat.blt 0 sz then (match putL? l off cs with
      | none => none
      | some l' => fillL? offs l' r) else none
def parts? (s : Fm) : List (Nat × Operand) → Option (List (Nat × List Value))
  | [] => some []
  | (i, x) :: r => match ev s x with
    | none => none
    | some v => match cells? v with
      | none => none
      | some cs => match parts? s r with
        | none => none
        | some l => some ((i, cs) :: l)
theorem set?_length {l : List Value} {k : Nat} {v : Value} {l' : List Value} (h : set? l k v = some l') : l'.length = l.length := by rw [← (set?_eq h).1, List.length_set]
theorem putL?_fold : ∀ (vs l l' : List Value) (off j : Nat), putL? l (off + j) vs = some l' → l'.length = l.length ∧ (vs.length = 0 ∨ off + j + vs.length ≤ l.length) ∧ ((vs.zipIdx j).foldl (fun cs x => cs.setIfInBounds (off + x.2) x.1) l.toArray) = l'.toArray
  | [], l, l', off, j, h => by simp only [putL?, Option.some.injEq] at h; subst h; exact ⟨rfl, .inl rfl, rfl⟩
  | v :: vs, l, l', off, j, h => by
    unfold putL? at h
    split at h
    · cases h
    · rename_i l1 h1
      obtain ⟨e1, e2, e3⟩ := putL?_fold vs l1 l' off (j + 1) (by rw [← Nat.add_assoc]; exact h)
      have hl := set?_length h1
      obtain ⟨f1, f2⟩ := set?_eq h1
      refine ⟨e1.trans hl, .inr ?_, ?_⟩
      · simp only [List.length_cons]
        rcases e2 with e2 | e2
        · omega
        · omega
      · rw [List.zipIdx_cons, List.foldl_cons, ← e3]
        congr 1
        rw [List.setIfInBounds_toArray, f1]
theorem fillL?_eq (offs : List (Nat × Nat)) (place : Nat → Option (Nat × Nat)) (hpl : ∀ (i : Nat) p, offs[i]? = some p → place i = some p) : ∀ (ps : List (Nat × List Value)) (vs : List (Nat × Value)) (l l' : List Value), vs.length = ps.length → (∀ (j : Nat) p q, ps[j]? = some p → vs[j]? = some q → q.1 = p.1 ∧ q.2.cells = p.2.toArray) → fillL? offs l ps = some l' → Instr.fill place l.toArray vs = some l'.toArray
  | [], vs, l, l', hl, _, h => by
    simp only [fillL?, Option.some.injEq] at h
    subst h
    have : vs = [] := List.eq_nil_of_length_eq_zero (by simpa using hl)
    subst this
    rfl
  | (i, cs) :: ps, [], l, l', hl, _, h => by simp at hl
  | (i, cs) :: ps, (i', v) :: vs, l, l', hl, hp, h => by
    obtain ⟨e1, e2⟩ := hp 0 _ _ rfl rfl
    simp only at e1 e2
    subst e1
    unfold fillL? at h
    split at h
    · cases h
    · rename_i off sz ho
      cases hb : (Nat.beq cs.length sz && Nat.blt 0 sz) with
      | false => rw [hb] at h; cases h
      | true =>
        rw [hb, cond_true] at h
        simp only [Bool.and_eq_true] at hb
        have hsz := Nat.eq_of_beq_eq_true hb.1
        have h0 : 0 < sz := by simpa [Nat.blt_eq] using hb.2
        split at h
        · cases h
        · rename_i l1 h1
          obtain ⟨f1, f2, f3⟩ := putL?_fold cs l l1 off 0 h1
          have ih := fillL?_eq offs place hpl ps vs l1 l' (by simpa using hl) (fun j p q h1 h2 => hp (j + 1) p q (by simpa using h1) (by simpa using h2)) h
          unfold Instr.fill
          simp only [hpl _ _ ho, e2]
          rw [if_neg (by simp; omega), ← Array.foldl_toList, Array.toList_zipIdx, ← ih, ← f3]
section
variable {P : Program} {G : Ctx} {n : Nat} {ops : Array Oper} {Q : Post} {s : Fm} {H : List Ent} {o : Oper} {rest : List Oper}
theorem parts?_eq : ∀ (ps : List (Nat × Operand)) (l : List (Nat × List Value)) (a : Act), Fr n s a → parts? s ps = some l →
    (ps.map fun x => (x.1, a.eval x.2)).length = l.length ∧ ∀ (j : Nat) p q, l[j]? = some p → (ps.map fun x => (x.1, a.eval x.2))[j]? = some q → q.1 = p.1 ∧ q.2.cells = p.2.toArray
  | [], l, a, _, h => by simp only [parts?, Option.some.injEq] at h; subst h; exact ⟨rfl, fun j p q h => by simp at h⟩
  | (i, x) :: ps, l, a, ha, h => by
    unfold parts? at h
    split at h
    · cases h
    · rename_i v hv
      split at h
      · cases h
      · rename_i cs hcs
        split at h
        · cases h
        · rename_i l1 hl1
          simp only [Option.some.injEq] at h
          subst h
          obtain ⟨e1, e2⟩ := parts?_eq ps l1 a ha hl1
          refine ⟨by simp only [List.map_cons, List.length_cons, e1], fun j p q hp hq => ?_⟩
          cases j with
          | zero =>
            simp only [List.map_cons, List.getElem?_cons_zero, Option.some.injEq] at hp hq
            subst hp; subst hq
            exact ⟨rfl, by rw [ha.ev hv]; exact (cells?_eq hcs).cells⟩
          | succ j =>
            simp only [List.map_cons, List.getElem?_cons_succ] at hp hq
            exact e2 j p q hp hq
theorem c_build {t : TypeId} {offs : List (Nat × Nat)} {z : List Value} {parts : Array (Nat × Operand)} {l : List (Nat × List Value)} {cs : List Value} (ho : o.op = .build t parts) [h : OffsT P t offs z] (hp : parts? s parts.toList = some l) (hf : fillL? offs z l = some cs) : Yields P G n s H o (.agg cs.toArray) := fun a w ha _ => by
  obtain ⟨place, h1, h2⟩ := h.here
  obtain ⟨e1, e2⟩ := parts?_eq parts.toList l a ha hp
  have hb := h1 (parts.toList.map fun x => (x.1, a.eval x.2))
  rw [fillL?_eq offs place h2 l _ z cs e1 e2 hf] at hb
  unfold execOp; rw [ho]
  exact run_value (run_build w t _ cs.toArray (by rw [Array.toList_map]; exact hb))
theorem c_indexArr {t len e : Nat} {x y : Operand} {k : IntKind} {i : Int} {cs : List Value} {v : Value} (ho : o.op = .index t x y) [h : ArrT P t len e 1] [he : Sc P e] (hx : ev s x = some (.agg cs.toArray)) (hy : ev s y = some (.int k i)) (h0 : 0 ≤ i) (h1 : i < (len : Int)) (hv : cs[i.toNat]? = some v) : Yields P G n s H o v := fun a w ha _ => by
  obtain ⟨hu, hi⟩ := h.here
  obtain ⟨d, hd, hrow, -⟩ := he.here
  unfold execOp; rw [ho]; simp only [ha.ev hx, ha.ev hy]
  refine run_value ?_
  cases hq : P.info? e with
  | none => simp [hq] at hi
  | some inf =>
    have hs : inf.size = 1 := by simpa [hq] using hi
    simp only [Instr.index, asIntOf, Sem.run_bind, Sem.run_pure, Result.andThen_ok, run_underlying hu]
    rw [if_pos ⟨h0, h1⟩]
    simp only [sizeOf, typeInfo, program, Sem.run_bind, Sem.run, Result.andThen_ok, hq, hs, Sem.run_pure, part, run_isAgg hd, hrow]
    simp [hv, Sem.run]
theorem c_indexStr {t : Nat} {x y : Operand} {k : IntKind} {i : Int} {b : ByteArray} {v : UInt8} (ho : o.op = .index t x y) [h : StrT P t] (hx : ev s x = some (.string b)) (hy : ev s y = some (.int k i)) (h0 : 0 ≤ i) (hv : b[i.toNat]? = some v) : Yields P G n s H o (.int .u8 v.toNat) := fun a w ha _ => by
  unfold execOp; rw [ho]; simp only [ha.ev hx, ha.ev hy]
  refine run_value ?_
  simp only [Instr.index, asIntOf, Sem.run_bind, Sem.run_pure, Result.andThen_ok, run_underlying h.here, if_pos h0, hv]
/-- Powers of two, spelled out. -/
def pw? : Nat → Option Int
  | 0 => some 1 | 1 => some 2 | 2 => some 4 | 3 => some 8 | 4 => some 16 | 5 => some 32 | 6 => some 64 | 7 => some 128 | 8 => some 256 | 10 => some 1024 | 16 => some 65536 | 24 => some 16777216 | 32 => some 4294967296 | _ => none
theorem pw?_eq {m : Nat} {D : Int} (h : pw? m = some D) : D = 2 ^ m ∧ m ≤ 32 := by
  unfold pw? at h
  split at h <;> first | (cases h; done) | (simp only [Option.some.injEq] at h; subst h; exact ⟨rfl, by decide⟩)
theorem y_shrl {t t' : TypeId} {x y : Operand} {k k' : IntKind} {p q D : Int} {m : Nat} (ho : o.op = .binOp .shr t x y t') (hx : ev s x = some (.int k p)) (hy : ev s y = some (.int k' q)) (hq : q = m) (hm : pw? m = some D) (hb : Nat.ble m k.bits = true) : Yields P G n s H o (.int k (p / D)) := by
  obtain ⟨e, -⟩ := pw?_eq hm
  rw [e]
  exact y_shr ho hx hy hq hb
theorem y_shll {t t' : TypeId} {x y : Operand} {k k' : IntKind} {p q D : Int} {m : Nat} (ho : o.op = .binOp .shl t x y t') (hx : ev s x = some (.int k p)) (hy : ev s y = some (.int k' q)) (hq : q = m) (hm : pw? m = some D) (hb : Nat.ble m k.bits = true) (hf : Fits k (p * D)) : Yields P G n s H o (.int k (p * D)) := by
  obtain ⟨e, -⟩ := pw?_eq hm
  rw [e] at hf ⊢
  exact y_shl ho hx hy hq hb hf
def msk? : Nat → Option Int
  | 1 => some 2 | 3 => some 4 | 7 => some 8 | 15 => some 16 | 31 => some 32 | 63 => some 64 | 127 => some 128 | 255 => some 256 | 65535 => some 65536 | _ => none
theorem msk?_eq {m : Nat} {D : Int} (h : msk? m = some D) : (∀ x : Nat, ((x &&& m : Nat) : Int) = (x : Int) % D) ∧ m < 65536 := by
  unfold msk? at h
  split at h <;> first | (cases h; done) | (simp only [Option.some.injEq] at h; subst h; refine ⟨fun x => ?_, by decide⟩; (first | rw [nat_mask1] | rw [nat_mask2] | rw [nat_mask3] | rw [nat_mask4] | rw [nat_mask5] | rw [nat_mask6] | rw [nat_mask7] | rw [nat_mask8] | rw [nat_mask16]); exact Int.natCast_emod _ _)
theorem y_mask {t t' : TypeId} {x y : Operand} {p q D : Int} {m : Nat} (ho : o.op = .binOp .and t x y t') (hx : ev s x = some (.int .i64 p)) (hy : ev s y = some (.int .i64 q)) (hq : q = m) (hm : msk? m = some D) (h1 : 0 ≤ p) (h2 : p < 9223372036854775808) : Yields P G n s H o (.int .i64 (p % D)) := by
  subst hq
  obtain ⟨e, hlt⟩ := msk?_eq hm
  have := y_and (P := P) (G := G) (n := n) (H := H) ho hx hy h1 h2 (by omega) (by omega)
  rw [iand_eq, Int.toNat_natCast, e, Int.toNat_of_nonneg h1] at this
  exact this
/-- A loop of so many rounds at most. -/
def SRd (P : Program) (G : Ctx) (n : Nat) (c : Code) (Q : Post) : Nat → Fm → List Ent → Prop
  | 0, _, _ => False
  | m + 1, s, H => SW P G n c (thn (SRd P G n c Q m) Q) s H
theorem sw_loopN {c : Code} (m : Nat) (h : SRd P G n c Q m s H) : SW P G n (.loop c) Q s H := fun a w ha hw => by
  refine wp_loop_rounds m ?_
  induction m generalizing s H a w with
  | zero => exact h.elim
  | succ m ih =>
    rw [rounds_succ]
    refine wp_mono (h a w ha hw) fun e a' w' ⟨s', H', ha', hw', hq⟩ => ?_
    cases e with
    | normal => exact ih hq a' w' ha' hw'
    | _ => exact ⟨s', H', ha', hw', hq⟩
theorem srd_succ {c : Code} {m : Nat} (h : SW P G n c (thn (SRd P G n c Q m) Q) s H) : SRd P G n c Q (m + 1) s H := h
theorem at_srd {c : Code} {m : Nat} (h : SW P G n c (thn (SRd P G n c Q m) Q) s H) : AtQ (thn (SRd P G n c Q (m + 1)) Q) .normal s H := h
end
theorem sv_enter0 {P : Program} {G : Ctx} {f : FuncId} {fn : Func} {c : Code} {n : Nat} {H : List Ent} {rs : List ResultVar} {v : Value} (hf : P.funcs[f]? = some fn) (hb : fn.body = some c) (hn : (fn.name == "runtime.NumGoroutine") = false) (hnt : some fn.ntmps = some n) (hrs : fn.results = rs.toArray) (hl : Nat.ble 0 n = true) (h : SW P G n c (fpost G P rs fun u H' => u = v ∧ H' = H) [] H) : SV P G f [] H v := sc_enter hf hb hn hnt hrs hl h
theorem sv_enter1 {P : Program} {G : Ctx} {f : FuncId} {fn : Func} {c : Code} {n : Nat} {v0 : Value} {H : List Ent} {rs : List ResultVar} {v : Value} (hf : P.funcs[f]? = some fn) (hb : fn.body = some c) (hn : (fn.name == "runtime.NumGoroutine") = false) (hnt : some fn.ntmps = some n) (hrs : fn.results = rs.toArray) (hl : Nat.ble 1 n = true) (h : SW P G n c (fpost G P rs fun u H' => u = v ∧ H' = H) [(0, v0)] H) : SV P G f [v0] H v := sc_enter hf hb hn hnt hrs hl h
theorem sv_enter2 {P : Program} {G : Ctx} {f : FuncId} {fn : Func} {c : Code} {n : Nat} {v0 v1 : Value} {H : List Ent} {rs : List ResultVar} {v : Value} (hf : P.funcs[f]? = some fn) (hb : fn.body = some c) (hn : (fn.name == "runtime.NumGoroutine") = false) (hnt : some fn.ntmps = some n) (hrs : fn.results = rs.toArray) (hl : Nat.ble 2 n = true) (h : SW P G n c (fpost G P rs fun u H' => u = v ∧ H' = H) [(0, v0), (1, v1)] H) : SV P G f [v0, v1] H v := sc_enter hf hb hn hnt hrs hl h
theorem sv_enter3 {P : Program} {G : Ctx} {f : FuncId} {fn : Func} {c : Code} {n : Nat} {v0 v1 v2 : Value} {H : List Ent} {rs : List ResultVar} {v : Value} (hf : P.funcs[f]? = some fn) (hb : fn.body = some c) (hn : (fn.name == "runtime.NumGoroutine") = false) (hnt : some fn.ntmps = some n) (hrs : fn.results = rs.toArray) (hl : Nat.ble 3 n = true) (h : SW P G n c (fpost G P rs fun u H' => u = v ∧ H' = H) [(0, v0), (1, v1), (2, v2)] H) : SV P G f [v0, v1, v2] H v := sc_enter hf hb hn hnt hrs hl h
theorem sv_enter4 {P : Program} {G : Ctx} {f : FuncId} {fn : Func} {c : Code} {n : Nat} {v0 v1 v2 v3 : Value} {H : List Ent} {rs : List ResultVar} {v : Value} (hf : P.funcs[f]? = some fn) (hb : fn.body = some c) (hn : (fn.name == "runtime.NumGoroutine") = false) (hnt : some fn.ntmps = some n) (hrs : fn.results = rs.toArray) (hl : Nat.ble 4 n = true) (h : SW P G n c (fpost G P rs fun u H' => u = v ∧ H' = H) [(0, v0), (1, v1), (2, v2), (3, v3)] H) : SV P G f [v0, v1, v2, v3] H v := sc_enter hf hb hn hnt hrs hl h
theorem sv_enter5 {P : Program} {G : Ctx} {f : FuncId} {fn : Func} {c : Code} {n : Nat} {v0 v1 v2 v3 v4 : Value} {H : List Ent} {rs : List ResultVar} {v : Value} (hf : P.funcs[f]? = some fn) (hb : fn.body = some c) (hn : (fn.name == "runtime.NumGoroutine") = false) (hnt : some fn.ntmps = some n) (hrs : fn.results = rs.toArray) (hl : Nat.ble 5 n = true) (h : SW P G n c (fpost G P rs fun u H' => u = v ∧ H' = H) [(0, v0), (1, v1), (2, v2), (3, v3), (4, v4)] H) : SV P G f [v0, v1, v2, v3, v4] H v := sc_enter hf hb hn hnt hrs hl h
theorem sv_enter6 {P : Program} {G : Ctx} {f : FuncId} {fn : Func} {c : Code} {n : Nat} {v0 v1 v2 v3 v4 v5 : Value} {H : List Ent} {rs : List ResultVar} {v : Value} (hf : P.funcs[f]? = some fn) (hb : fn.body = some c) (hn : (fn.name == "runtime.NumGoroutine") = false) (hnt : some fn.ntmps = some n) (hrs : fn.results = rs.toArray) (hl : Nat.ble 6 n = true) (h : SW P G n c (fpost G P rs fun u H' => u = v ∧ H' = H) [(0, v0), (1, v1), (2, v2), (3, v3), (4, v4), (5, v5)] H) : SV P G f [v0, v1, v2, v3, v4, v5] H v := sc_enter hf hb hn hnt hrs hl h
theorem sc_enter6 {P : Program} {G : Ctx} {f : FuncId} {fn : Func} {c : Code} {n : Nat} {v0 v1 v2 v3 v4 v5 : Value} {H : List Ent} {rs : List ResultVar} {R : Value → List Ent → Prop} (hf : P.funcs[f]? = some fn) (hb : fn.body = some c) (hn : (fn.name == "runtime.NumGoroutine") = false) (hnt : some fn.ntmps = some n) (hrs : fn.results = rs.toArray) (hl : Nat.ble 6 n = true) (h : SW P G n c (fpost G P rs R) [(0, v0), (1, v1), (2, v2), (3, v3), (4, v4), (5, v5)] H) : SC P G f [v0, v1, v2, v3, v4, v5] H R := sc_enter hf hb hn hnt hrs hl h
section
variable {P : Program} {G : Ctx} {n : Nat} {ops : Array Oper} {Q : Post} {s : Fm} {H : List Ent} {o : Oper} {rest : List Oper}
theorem c_indexArrA {t len e sz : Nat} {x y : Operand} {k : IntKind} {i : Int} {cs cs' : List Value} (ho : o.op = .index t x y) [h : ArrT P t len e sz] [he : Ag P e sz] (hx : ev s x = some (.agg cs.toArray)) (hy : ev s y = some (.int k i)) (h0 : 0 ≤ i) (h1 : i < (len : Int)) (hv : take? (cs.drop (i.toNat * sz)) sz = some cs') : Yields P G n s H o (.agg cs'.toArray) := fun a w ha _ => by
  obtain ⟨hu, hi⟩ := h.here
  obtain ⟨d, hd, hrow, -⟩ := he.here
  unfold execOp; rw [ho]; simp only [ha.ev hx, ha.ev hy]
  refine run_value ?_
  cases hq : P.info? e with
  | none => simp [hq] at hi
  | some inf =>
    have hs : inf.size = sz := by simpa [hq] using hi
    simp only [Instr.index, asIntOf, Sem.run_bind, Sem.run_pure, Result.andThen_ok, run_underlying hu]
    rw [if_pos ⟨h0, h1⟩]
    have hz : (sizeOf e).run P w = .ok sz w := by simp [sizeOf, typeInfo, program, Sem.run, hq, hs]
    simp only [Sem.run_bind, hz, Result.andThen_ok, part, run_isAgg hd, hrow, if_true, Sem.run_pure]
    have e1 := (take?_eq hv).1
    congr 2
    rw [← e1]
    apply Array.ext'
    simp
theorem sw_mono {c : Code} {Q Q' : Post} (hq : ∀ e s H, Q e s H → Q' e s H) (h : SW P G n c Q s H) : SW P G n c Q' s H := fun a w ha hw => wp_mono (h a w ha hw) fun _ _ _ ⟨s', H', h1, h2, h3⟩ => ⟨s', H', h1, h2, hq _ _ _ h3⟩
theorem thn_mono {N N' : Fm → List Ent → Prop} {Q Q' : Post} (hn : ∀ s H, N s H → N' s H) (hq : ∀ e s H, Q e s H → Q' e s H) : ∀ e s H, thn N Q e s H → thn N' Q' e s H := fun e s H h => by
  cases e with
  | normal => exact hn _ _ h
  | _ => exact hq _ _ _ h
/-- What is known where ways meet. -/
def Meet {α : Type} (G : Ctx) (S : α → Fm) (E : α → List Ent) (I : α → Prop) : Fm → List Ent → Prop := fun s' H' => ∃ y, I y ∧ Le (S y) s' ∧ ∀ w, Holds G H' w → Holds G (E y) w
theorem sw_cut1 {x y : Code} {α : Type} (S : α → Fm) (E : α → List Ent) (I : α → Prop) (hx : SW P G n x (thn (Meet G S E I) Q) s H) (hy : ∀ g, I g → SW P G n y Q (S g) (E g)) : SW P G n x (thn (SW P G n y Q) Q) s H :=
  sw_mono (thn_mono (fun _ _ ⟨g, h1, h2, h3⟩ => sw_le h2 h3 (hy g h1)) (fun _ _ _ h => h)) hx
theorem sw_cut2 {x c y : Code} {α : Type} (S : α → Fm) (E : α → List Ent) (I : α → Prop) (hx : SW P G n x (thn (SW P G n c (thn (Meet G S E I) Q)) (thn (Meet G S E I) Q)) s H) (hy : ∀ g, I g → SW P G n y Q (S g) (E g)) : SW P G n x (thn (SW P G n c (thn (SW P G n y Q) Q)) (thn (SW P G n y Q) Q)) s H :=
  have hm : ∀ e s H, thn (Meet G S E I) Q e s H → thn (SW P G n y Q) Q e s H := thn_mono (fun _ _ ⟨g, h1, h2, h3⟩ => sw_le h2 h3 (hy g h1)) (fun _ _ _ h => h)
  sw_mono (thn_mono (fun _ _ h => sw_mono hm h) hm) hx
theorem g_reg {id : Nat} {l : Array Oper} {b : Bool} (h : SW P G n (.region id l b) Q s H) : SW P G n (.region id l b) Q s H := h
end
end Go.Sx
