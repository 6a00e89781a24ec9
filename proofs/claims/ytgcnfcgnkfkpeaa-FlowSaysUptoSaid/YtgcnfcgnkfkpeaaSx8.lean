/- Rules that look once: what stands in the slots is fetched, and then the rule is picked by what it is. -/
import Derived.Test.YtgcnfcgnkfkpeaaSx7
namespace Go.Sx
open Go Go.RowKit Go.Fw
section
variable {P : Program} {G : Ctx} {n : Nat} {ops : Array Oper} {Q : Post} {s : Fm} {H : List Ent} {rest : List Oper} {d : Nat} {ty : TypeId} {pos : String} {af : Array Edge}

theorem sl_gd {op : Op} {i j : Nat} {b c : Bool} {o' : Oper} (ho : ops[i]? = some o') (hd : o'.dst = some j) (hl : look s j = some (.bool c)) (h2 : Nat.blt d n = true)
    (hs : (c = b → SL P G n ops Q (⟨some d, op, ty, pos, af, none⟩ :: rest) ((j, .bool b) :: s) H) ∧ (c = !b → SL P G n ops Q rest ((d, undef) :: (j, .bool (!b)) :: s) H)) : SL P G n ops Q (⟨some d, op, ty, pos, af, some (i, b)⟩ :: rest) s H := by
  have key : ∀ v, look s j = some v → ∀ a, Fr n s a → Fr n ((j, v) :: s) a := fun v hv a ha => ⟨ha.defers, ha.size, fun i u hi => by
    simp only [look] at hi
    cases hb : Nat.beq i j with
    | true => rw [hb, cond_true, Option.some.injEq] at hi; subst hi; rw [Nat.eq_of_beq_eq_true hb]; exact ha.has j _ hv
    | false => rw [hb, cond_false] at hi; exact ha.has i u hi⟩
  by_cases hc : c = b
  · subst hc
    exact fun a w ha hw => sl_unguard (o := ⟨some d, op, ty, pos, af, some (i, c)⟩) rfl ho hd (by simp only [look, Nat.beq_refl, cond_true]) (hs.1 rfl) a w (key _ hl a ha) hw
  · have hc' : c = !b := by cases c <;> cases b <;> simp_all
    have hl' : look ((j, Value.bool c) :: s) j = some (.bool c) := by simp only [look, Nat.beq_refl, cond_true]
    have h := hs.2 hc'
    rw [← hc'] at h
    refine fun a w ha hw => sl_skip (o := ⟨some d, op, ty, pos, af, some (i, b)⟩) (fun a ha => Skips.wanted ⟨i, c, o', j, ?_, ho, hd, hl'⟩ ha) rfl h2 h a w (key _ hl a ha) hw
    rw [hc']; simp
theorem sq_gd {Q : Fm → Prop} {op : Op} {i j : Nat} {b c : Bool} {o' : Oper} (ho : ops[i]? = some o') (hd : o'.dst = some j) (hl : look s j = some (.bool c)) (h2 : Nat.blt d n = true)
    (hs : (c = b → SQ P G n ops Q H (⟨some d, op, ty, pos, af, none⟩ :: rest) ((j, .bool b) :: s)) ∧ (c = !b → SQ P G n ops Q H rest ((d, undef) :: (j, .bool (!b)) :: s))) : SQ P G n ops Q H (⟨some d, op, ty, pos, af, some (i, b)⟩ :: rest) s := by
  have key : ∀ v, look s j = some v → ∀ a, Fr n s a → Fr n ((j, v) :: s) a := fun v hv a ha => ⟨ha.defers, ha.size, fun i u hi => by
    simp only [look] at hi
    cases hb : Nat.beq i j with
    | true => rw [hb, cond_true, Option.some.injEq] at hi; subst hi; rw [Nat.eq_of_beq_eq_true hb]; exact ha.has j _ hv
    | false => rw [hb, cond_false] at hi; exact ha.has i u hi⟩
  by_cases hc : c = b
  · subst hc
    exact fun a ha => sq_unguard (o := ⟨some d, op, ty, pos, af, some (i, c)⟩) rfl ho hd (by simp only [look, Nat.beq_refl, cond_true]) (hs.1 rfl) a (key _ hl a ha)
  · have hc' : c = !b := by cases c <;> cases b <;> simp_all
    have hl' : look ((j, Value.bool c) :: s) j = some (.bool c) := by simp only [look, Nat.beq_refl, cond_true]
    have h := hs.2 hc'
    rw [← hc'] at h
    refine fun a ha => sq_skip (o := ⟨some d, op, ty, pos, af, some (i, b)⟩) (fun a ha => Skips.wanted ⟨i, c, o', j, ?_, ho, hd, hl'⟩ ha) rfl h2 h a (key _ hl a ha)
    rw [hc']; simp
/-- By the value fetched. -/
theorem gd_t {A B : Prop} {b : Bool} (h : A) : (b = b → A) ∧ (b = !b → B) := ⟨fun _ => h, fun e => by cases b <;> cases e⟩
theorem gd_tf {A B : Prop} (h : B) : (true = false → A) ∧ (true = !false → B) := ⟨fun e => (by cases e), fun _ => h⟩
theorem gd_ft {A B : Prop} (h : B) : (false = true → A) ∧ (false = !true → B) := ⟨fun e => (by cases e), fun _ => h⟩
theorem gd_dec_t {A B : Prop} {p : Prop} [Decidable p] (h1 : p → A) (h2 : ¬ p → B) : (decide p = true → A) ∧ (decide p = !true → B) := ⟨fun e => h1 (of_decide_eq_true e), fun e => h2 (of_decide_eq_false e)⟩
theorem gd_dec_f {A B : Prop} {p : Prop} [Decidable p] (h1 : ¬ p → A) (h2 : p → B) : (decide p = false → A) ∧ (decide p = !false → B) := ⟨fun e => h1 (of_decide_eq_false e), fun e => h2 (of_decide_eq_true e)⟩
theorem gd_beq_t {A B : Prop} {x y : Int} (h1 : x = y → A) (h2 : ¬ x = y → B) : ((x == y) = true → A) ∧ ((x == y) = !true → B) := ⟨fun e => h1 (by simpa using e), fun e => h2 (by simpa using e)⟩
theorem gd_beq_f {A B : Prop} {x y : Int} (h1 : ¬ x = y → A) (h2 : x = y → B) : ((x == y) = false → A) ∧ ((x == y) = !false → B) := ⟨fun e => h1 (by simpa using e), fun e => h2 (by simpa using e)⟩
theorem gd_bne_t {A B : Prop} {x y : Int} (h1 : ¬ x = y → A) (h2 : x = y → B) : ((x != y) = true → A) ∧ ((x != y) = !true → B) := ⟨fun e => h1 (by simpa using e), fun e => h2 (by simpa using e)⟩
theorem gd_bne_f {A B : Prop} {x y : Int} (h1 : x = y → A) (h2 : ¬ x = y → B) : ((x != y) = false → A) ∧ ((x != y) = !false → B) := ⟨fun e => h1 (by simpa using e), fun e => h2 (by simpa using e)⟩
theorem gd_not_t {A B : Prop} {c : Bool} (h1 : c = false → A) (h2 : c = true → B) : ((!c) = true → A) ∧ ((!c) = !true → B) := ⟨fun e => h1 (by simpa using e), fun e => h2 (by simpa using e)⟩
theorem gd_not_f {A B : Prop} {c : Bool} (h1 : c = true → A) (h2 : c = false → B) : ((!c) = false → A) ∧ ((!c) = !false → B) := ⟨fun e => h1 (by simpa using e), fun e => h2 (by simpa using e)⟩
theorem gd_raw_t {A B : Prop} {c : Bool} (h1 : c = true → A) (h2 : c = false → B) : (c = true → A) ∧ (c = !true → B) := ⟨h1, h2⟩
theorem gd_raw_f {A B : Prop} {c : Bool} (h1 : c = false → A) (h2 : c = true → B) : (c = false → A) ∧ (c = !false → B) := ⟨h1, h2⟩
/-- Of a condition. -/
theorem sw_cd {c : Operand} {x y : Code} {t : Bool} (hc : ev s c = some (.bool t)) (hs : (t = true → SW P G n x Q s H) ∧ (t = !true → SW P G n y Q s H)) : SW P G n (.cond c x y) Q s H := sw_cond hc hs.1 hs.2

/-- Two values met by an operator. -/
def BB (P : Program) (op : BinOp) (t : TypeId) (x y : Operand) (vx vy : Value) (K : Value → Prop) : Prop := ∃ v, (∀ w, (do eqGuard op t x y vx vy; binOp op t vx vy : Sem Value).run P w = .ok v w) ∧ K v
/-- What a load finds. -/
def LD (P : Program) (G : Ctx) (H : List Ent) (t : TypeId) (p : Value) (K : Value → Prop) : Prop := ∃ v, (∀ w, Holds G H w → (Instr.loadAt t p).run P w = .ok v w) ∧ K v
def PK (s : Fm) (b : Bool) (x y : Operand) (K : Value → Prop) : Prop := ∃ v, (∀ (n : Nat) a, Fr n s a → (if b then a.eval x else a.eval y) = v) ∧ K v
variable {K : Value → Prop} {x y : Operand} {t t' : TypeId}
theorem yb {op : BinOp} {vx vy v : Value} {o : Oper} (ho : o.op = .binOp op t x y t') (hx : ev s x = some vx) (hy : ev s y = some vy) (h : ∀ w, (do eqGuard op t x y vx vy; binOp op t vx vy : Sem Value).run P w = .ok v w) : Yields P G n s H o v := fun a w ha _ => by
  unfold execOp; rw [ho]; simp only [ha.ev hx, ha.ev hy]; exact run_value (h w)
theorem bb_of {op : BinOp} {vx vy v : Value} (h : still P (do eqGuard op t x y vx vy; binOp op t vx vy) = some v) (hk : K v) : BB P op t x y vx vy K := ⟨v, fun w => still_run _ _ h w, hk⟩
theorem st_add {k : IntKind} {p q : Int} (h : Fits k (p + q)) : still P (do eqGuard .add t x y (.int k p) (.int k q); binOp .add t (.int k p) (.int k q)) = some (.int k (p + q)) := by simp only [eqGuard, binOp, Op.intArith, h.wrap]; simp; rfl
theorem bb_add {k : IntKind} {p q : Int} (h : Fits k (p + q)) (hk : K (.int k (p + q))) : BB P .add t x y (.int k p) (.int k q) K := bb_of (st_add h) hk
theorem st_sub {k : IntKind} {p q : Int} (h : Fits k (p - q)) : still P (do eqGuard .sub t x y (.int k p) (.int k q); binOp .sub t (.int k p) (.int k q)) = some (.int k (p - q)) := by simp only [eqGuard, binOp, Op.intArith, h.wrap]; simp; rfl
theorem bb_sub {k : IntKind} {p q : Int} (h : Fits k (p - q)) (hk : K (.int k (p - q))) : BB P .sub t x y (.int k p) (.int k q) K := bb_of (st_sub h) hk
theorem st_mul {k : IntKind} {p q : Int} (h : Fits k (p * q)) : still P (do eqGuard .mul t x y (.int k p) (.int k q); binOp .mul t (.int k p) (.int k q)) = some (.int k (p * q)) := by simp only [eqGuard, binOp, Op.intArith, h.wrap]; simp; rfl
theorem bb_mul {k : IntKind} {p q : Int} (h : Fits k (p * q)) (hk : K (.int k (p * q))) : BB P .mul t x y (.int k p) (.int k q) K := bb_of (st_mul h) hk
theorem st_quo {k : IntKind} {p q : Int} (h : Fits k (p / q)) (h0 : 0 ≤ p) (h1 : 0 < q) : still P (do eqGuard .quo t x y (.int k p) (.int k q); binOp .quo t (.int k p) (.int k q)) = some (.int k (p / q)) := by
    have e : p.tdiv q = p / q := Int.tdiv_eq_ediv_of_nonneg h0
    have e2 : ¬ q = 0 := by omega
    simp only [eqGuard, binOp, Op.intDiv, e, h.wrap, e2, if_false]; simp; rfl
theorem bb_quo {k : IntKind} {p q : Int} (h : Fits k (p / q)) (h0 : 0 ≤ p) (h1 : 0 < q) (hk : K (.int k (p / q))) : BB P .quo t x y (.int k p) (.int k q) K := bb_of (st_quo h h0 h1) hk
theorem st_rem {k : IntKind} {p q : Int} (h0 : 0 ≤ p) (h1 : 0 < q) : still P (do eqGuard .rem t x y (.int k p) (.int k q); binOp .rem t (.int k p) (.int k q)) = some (.int k (p % q)) := by
    have e : p.tmod q = p % q := Int.tmod_eq_emod_of_nonneg h0
    have e2 : ¬ q = 0 := by omega
    simp only [eqGuard, binOp, Op.intDiv, e, e2, if_false]; simp; rfl
theorem bb_rem {k : IntKind} {p q : Int} (h0 : 0 ≤ p) (h1 : 0 < q) (hk : K (.int k (p % q))) : BB P .rem t x y (.int k p) (.int k q) K := bb_of (st_rem h0 h1) hk
theorem st_and {p q : Int} (h1 : 0 ≤ p) (h2 : p < 9223372036854775808) (h3 : 0 ≤ q) (h4 : q < 9223372036854775808) : still P (do eqGuard .and t x y (.int .i64 p) (.int .i64 q); binOp .and t (.int .i64 p) (.int .i64 q)) = some (.int .i64 (iand p q)) := by rw [iand_eq, ← i64_and p q h1 h2 h3 h4]; rfl
theorem bb_and {p q : Int} (h1 : 0 ≤ p) (h2 : p < 9223372036854775808) (h3 : 0 ≤ q) (h4 : q < 9223372036854775808) (hk : K (.int .i64 (iand p q))) : BB P .and t x y (.int .i64 p) (.int .i64 q) K := bb_of (st_and h1 h2 h3 h4) hk
theorem st_or {p q : Int} (h1 : 0 ≤ p) (h2 : p < 9223372036854775808) (h3 : 0 ≤ q) (h4 : q < 9223372036854775808) : still P (do eqGuard .or t x y (.int .i64 p) (.int .i64 q); binOp .or t (.int .i64 p) (.int .i64 q)) = some (.int .i64 (ior p q)) := by rw [ior_eq, ← i64_or p q h1 h2 h3 h4]; rfl
theorem bb_or {p q : Int} (h1 : 0 ≤ p) (h2 : p < 9223372036854775808) (h3 : 0 ≤ q) (h4 : q < 9223372036854775808) (hk : K (.int .i64 (ior p q))) : BB P .or t x y (.int .i64 p) (.int .i64 q) K := bb_of (st_or h1 h2 h3 h4) hk
theorem st_andNot {p q : Int} (h1 : 0 ≤ p) (h2 : p < 9223372036854775808) (h3 : 0 ≤ q) (h4 : q < 9223372036854775808) : still P (do eqGuard .andNot t x y (.int .i64 p) (.int .i64 q); binOp .andNot t (.int .i64 p) (.int .i64 q)) = some (.int .i64 (iclr p q)) := by rw [iclr_eq, ← i64_andNot p q h1 h2 h3 h4]; rfl
theorem bb_andNot {p q : Int} (h1 : 0 ≤ p) (h2 : p < 9223372036854775808) (h3 : 0 ≤ q) (h4 : q < 9223372036854775808) (hk : K (.int .i64 (iclr p q))) : BB P .andNot t x y (.int .i64 p) (.int .i64 q) K := bb_of (st_andNot h1 h2 h3 h4) hk
theorem st_bits {op : BinOp} {k : IntKind} {p q : Int} (hop : (match op with | .and | .or | .xor | .andNot => true | _ => false) = true) : still P (do eqGuard op t x y (.int k p) (.int k q); binOp op t (.int k p) (.int k q)) = some (.int k (ibits op k p q)) := by rw [ibits_eq]; cases op <;> first | (cases hop; done) | (simp only [eqGuard, binOp]; simp; rfl)
theorem bb_bits {op : BinOp} {k : IntKind} {p q : Int} (hop : (match op with | .and | .or | .xor | .andNot => true | _ => false) = true) (hk : K (.int k (ibits op k p q))) : BB P op t x y (.int k p) (.int k q) K := bb_of (st_bits hop) hk
theorem st_shr {k k' : IntKind} {p : Int} {m : Nat} (hm : Nat.ble m k.bits = true) : still P (do eqGuard .shr t x y (.int k p) (.int k' m); binOp .shr t (.int k p) (.int k' m)) = some (.int k (p / 2 ^ m)) := by
  have hm' := Nat.le_of_ble_eq_true hm
  have e : min ((m : Int).toNat) k.bits = m := by rw [Int.toNat_natCast]; exact Nat.min_eq_left hm'
  have e2 : p.fdiv (2 ^ m) = p / 2 ^ m := Int.fdiv_eq_ediv_of_nonneg _ (by exact_mod_cast Nat.zero_le (2 ^ m))
  have e3 : ¬ ((m : Int) < 0) := by omega
  simp only [eqGuard, binOp, Op.shift, e3, if_false, e, e2]
  simp
  rfl
theorem bb_shr {k k' : IntKind} {p q D : Int} {m : Nat} (hq : q = m) (hp : pw? m = some D) (hm : Nat.ble m k.bits = true) (hk : K (.int k (p / D))) : BB P .shr t x y (.int k p) (.int k' q) K := by
  subst hq
  obtain ⟨e, -⟩ := pw?_eq hp
  subst e
  exact bb_of (st_shr hm) hk
theorem bb_mask {p q D : Int} {m : Nat} (hq : q = m) (hm : msk? m = some D) (h1 : 0 ≤ p) (h2 : p < 9223372036854775808) (hk : K (.int .i64 (p % D))) : BB P .and t x y (.int .i64 p) (.int .i64 q) K := by
  subst hq
  obtain ⟨e, hlt⟩ := msk?_eq hm
  have h := st_and (P := P) (t := t) (x := x) (y := y) (p := p) (q := m) h1 h2 (by omega) (by omega)
  rw [iand_eq, Int.toNat_natCast, e, Int.toNat_of_nonneg h1] at h
  exact bb_of h hk
theorem ld_cell {t' b off : Nat} {cs : List Value} {v : Value} [h : Sc P t] [hm : HasBlk H b t' cs] (hv : cs[off]? = some v) (hk : K v) : LD P G H t (.pointer (some ⟨b, off, none⟩)) K := by
  obtain ⟨d, h1, h2, -⟩ := h.here
  exact ⟨v, fun w hw => run_load_cell h1 h2 ((row_cell (hw.ok _ hm.here).2).trans hv), hk⟩
theorem ld_whole {t' b sz : Nat} {cs : List Value} [h : Ag P t sz] [hm : HasBlk H b t' cs] (hl' : Nat.beq cs.length sz = true) (hk : K (.agg cs.toArray)) : LD P G H t (.pointer (some ⟨b, 0, none⟩)) K := by
  obtain ⟨d, h1, h2, h3⟩ := h.here
  have hl := Nat.eq_of_beq_eq_true hl'
  exact ⟨_, fun w hw => run_load_cells h1 h2 (by rw [h3, hl]) fun j v hj => by rw [Nat.zero_add]; exact (row_cell (hw.ok _ hm.here).2).trans hj, hk⟩
theorem ld_part {t' b off sz : Nat} {cs cs' : List Value} [h : Ag P t sz] [hm : HasBlk H b t' cs] (hn : take? (cs.drop off) sz = some cs') (hz : Nat.blt 0 sz = true) (hk : K (.agg cs'.toArray)) : LD P G H t (.pointer (some ⟨b, off, none⟩)) K := by
  obtain ⟨d, h1, h2, h3⟩ := h.here
  obtain ⟨e1, e2⟩ := take?_eq hn
  rw [List.length_drop] at e2
  refine ⟨_, fun w hw => run_load_cells h1 h2 (cs := cs') (by rw [h3, ← e1, List.length_take, List.length_drop, Nat.min_eq_left (by omega)]) fun j v hj => ?_, hk⟩
  refine (row_cell (hw.ok _ hm.here).2).trans ?_
  rw [← e1] at hj
  have hlt : j < sz := by
    have := (List.getElem?_eq_some_iff.1 hj).1
    rw [List.length_take] at this; omega
  rw [List.getElem?_take, if_pos hlt, List.getElem?_drop] at hj
  exact hj
theorem ld_elem {a : Option Addr} {k : Nat} {xs : List Value} {v : Value} [h : Sc P t] [hr : RdC G H a xs] (hv : xs[k]? = some v) (hk : K v) : LD P G H t (elemPtr a k) K := by
  obtain ⟨d, h1, h2, -⟩ := h.here
  refine ⟨v, fun w hw => ?_, hk⟩
  have hkk := (List.getElem?_eq_some_iff.1 hv).1
  obtain ⟨b, off, rfl, hc⟩ := At.someAt (hr.here w hw) (by omega)
  simp only [elemPtr, Option.map_some, Addr.add_mid]
  exact run_load_cell h1 h2 ((hc k hkk).trans hv)
theorem pk_t {v : Value} (hx : ev s x = some v) (hk : K v) : PK s true x y K := ⟨v, fun _ _ ha => ha.ev hx, hk⟩
theorem pk_f {v : Value} (hx : ev s y = some v) (hk : K v) : PK s false x y K := ⟨v, fun _ _ ha => ha.ev hx, hk⟩
theorem pk_s {b p q : Bool} (hx : ev s x = some (.bool p)) (hy : ev s y = some (.bool q)) (hk : K (.bool (if b then p else q))) : PK s b x y K := ⟨_, fun _ _ ha => by rw [ha.ev hx, ha.ev hy]; cases b <;> rfl, hk⟩

theorem s_bin {op : BinOp} {vx vy : Value} (hx : ev s x = some vx) (hy : ev s y = some vy) (h2 : Nat.blt d n = true) (h : BB P op t x y vx vy fun v => SL P G n ops Q rest ((d, v) :: s) H) : SL P G n ops Q (⟨some d, Op.binOp op t x y t', ty, pos, af, none⟩ :: rest) s H := by
  obtain ⟨v, h3, h4⟩ := h
  exact sl_val rfl (yb rfl hx hy h3) rfl h2 h4
theorem s_load {vx : Value} (hx : ev s x = some vx) (h2 : Nat.blt d n = true) (h : LD P G H t vx fun v => SL P G n ops Q rest ((d, v) :: s) H) : SL P G n ops Q (⟨some d, Op.load t x, ty, pos, af, none⟩ :: rest) s H := by
  obtain ⟨v, h3, h4⟩ := h
  exact sl_val rfl (fun a w ha hw => by unfold execOp; simp only [ha.ev hx]; exact run_value (h3 w hw)) rfl h2 h4
theorem s_pick {c : Operand} {b : Bool} (hc : ev s c = some (.bool b)) (h2 : Nat.blt d n = true) (h : PK s b x y fun v => SL P G n ops Q rest ((d, v) :: s) H) : SL P G n ops Q (⟨some d, Op.pick c x y, ty, pos, af, none⟩ :: rest) s H := by
  obtain ⟨v, h3, h4⟩ := h
  exact sl_val rfl (fun a w ha _ => by unfold execOp; simp only [ha.ev hc, asBool, Sem.run_bind, Sem.run_pure, Result.andThen_ok, h3 n a ha]) rfl h2 h4
theorem s_move {v : Value} (hx : ev s x = some v) (h2 : Nat.blt d n = true) (h : SL P G n ops Q rest ((d, v) :: s) H) : SL P G n ops Q (⟨some d, Op.move x, ty, pos, af, none⟩ :: rest) s H := sl_val rfl (y_move rfl hx) rfl h2 h
theorem s_asgn {v : Value} (hx : ev s x = some v) (h2 : Nat.blt d n = true) (h : SL P G n ops Q rest ((d, v) :: s) H) : SL P G n ops Q (⟨some d, Op.assign x, ty, pos, af, none⟩ :: rest) s H := sl_val rfl (y_assign rfl hx) rfl h2 h
theorem s_un {u : UnOp} {v : Value} (hy : Yields P G n s H ⟨some d, Op.unOp u t x, ty, pos, af, none⟩ v) (h2 : Nat.blt d n = true) (h : SL P G n ops Q rest ((d, v) :: s) H) : SL P G n ops Q (⟨some d, Op.unOp u t x, ty, pos, af, none⟩ :: rest) s H := sl_val rfl hy rfl h2 h
theorem s_field {i : Nat} {v : Value} (hy : Yields P G n s H ⟨some d, Op.fieldAddr t x i, ty, pos, af, none⟩ v) (h2 : Nat.blt d n = true) (h : SL P G n ops Q rest ((d, v) :: s) H) : SL P G n ops Q (⟨some d, Op.fieldAddr t x i, ty, pos, af, none⟩ :: rest) s H := sl_val rfl hy rfl h2 h
theorem s_build {parts : Array (Nat × Operand)} {v : Value} (hy : Yields P G n s H ⟨some d, Op.build t parts, ty, pos, af, none⟩ v) (h2 : Nat.blt d n = true) (h : SL P G n ops Q rest ((d, v) :: s) H) : SL P G n ops Q (⟨some d, Op.build t parts, ty, pos, af, none⟩ :: rest) s H := sl_val rfl hy rfl h2 h
theorem s_index {v : Value} (hy : Yields P G n s H ⟨some d, Op.index t x y, ty, pos, af, none⟩ v) (h2 : Nat.blt d n = true) (h : SL P G n ops Q rest ((d, v) :: s) H) : SL P G n ops Q (⟨some d, Op.index t x y, ty, pos, af, none⟩ :: rest) s H := sl_val rfl hy rfl h2 h
theorem s_indexA {v : Value} (hy : Yields P G n s H ⟨some d, Op.indexAddr t x y, ty, pos, af, none⟩ v) (h2 : Nat.blt d n = true) (h : SL P G n ops Q rest ((d, v) :: s) H) : SL P G n ops Q (⟨some d, Op.indexAddr t x y, ty, pos, af, none⟩ :: rest) s H := sl_val rfl hy rfl h2 h
theorem s_conv {v : Value} (hy : Yields P G n s H ⟨some d, Op.convert t t' x, ty, pos, af, none⟩ v) (h2 : Nat.blt d n = true) (h : SL P G n ops Q rest ((d, v) :: s) H) : SL P G n ops Q (⟨some d, Op.convert t t' x, ty, pos, af, none⟩ :: rest) s H := sl_val rfl hy rfl h2 h
theorem s_extr {i : Nat} {v : Value} (hy : Yields P G n s H ⟨some d, Op.extract x i, ty, pos, af, none⟩ v) (h2 : Nat.blt d n = true) (h : SL P G n ops Q rest ((d, v) :: s) H) : SL P G n ops Q (⟨some d, Op.extract x i, ty, pos, af, none⟩ :: rest) s H := sl_val rfl hy rfl h2 h
theorem s_nilc {v : Value} (hy : Yields P G n s H ⟨some d, Op.nilCheck x, ty, pos, af, none⟩ v) (h2 : Nat.blt d n = true) (h : SL P G n ops Q rest ((d, v) :: s) H) : SL P G n ops Q (⟨some d, Op.nilCheck x, ty, pos, af, none⟩ :: rest) s H := sl_val rfl hy rfl h2 h
theorem s_call {c : Call} {v : Value} (hy : Yields P G n s H ⟨some d, .call c, ty, pos, af, none⟩ v) (h2 : Nat.blt d n = true) (h : SL P G n ops Q rest ((d, v) :: s) H) : SL P G n ops Q (⟨some d, .call c, ty, pos, af, none⟩ :: rest) s H := sl_val rfl hy rfl h2 h
theorem q_bin {Q : Fm → Prop} {op : BinOp} {vx vy : Value} (hx : ev s x = some vx) (hy : ev s y = some vy) (h2 : Nat.blt d n = true) (h : BB P op t x y vx vy fun v => SQ P G n ops Q H rest ((d, v) :: s)) : SQ P G n ops Q H (⟨some d, Op.binOp op t x y t', ty, pos, af, none⟩ :: rest) s := by
  obtain ⟨v, h3, h4⟩ := h
  exact sq_val rfl (yb rfl hx hy h3) rfl h2 h4
theorem q_load {Q : Fm → Prop} {vx : Value} (hx : ev s x = some vx) (h2 : Nat.blt d n = true) (h : LD P G H t vx fun v => SQ P G n ops Q H rest ((d, v) :: s)) : SQ P G n ops Q H (⟨some d, Op.load t x, ty, pos, af, none⟩ :: rest) s := by
  obtain ⟨v, h3, h4⟩ := h
  exact sq_val rfl (fun a w ha hw => by unfold execOp; simp only [ha.ev hx]; exact run_value (h3 w hw)) rfl h2 h4
theorem q_pick {Q : Fm → Prop} {c : Operand} {b : Bool} (hc : ev s c = some (.bool b)) (h2 : Nat.blt d n = true) (h : PK s b x y fun v => SQ P G n ops Q H rest ((d, v) :: s)) : SQ P G n ops Q H (⟨some d, Op.pick c x y, ty, pos, af, none⟩ :: rest) s := by
  obtain ⟨v, h3, h4⟩ := h
  exact sq_val rfl (fun a w ha _ => by unfold execOp; simp only [ha.ev hc, asBool, Sem.run_bind, Sem.run_pure, Result.andThen_ok, h3 n a ha]) rfl h2 h4
theorem q_move {Q : Fm → Prop} {v : Value} (hx : ev s x = some v) (h2 : Nat.blt d n = true) (h : SQ P G n ops Q H rest ((d, v) :: s)) : SQ P G n ops Q H (⟨some d, Op.move x, ty, pos, af, none⟩ :: rest) s := sq_val rfl (y_move rfl hx) rfl h2 h
theorem q_asgn {Q : Fm → Prop} {v : Value} (hx : ev s x = some v) (h2 : Nat.blt d n = true) (h : SQ P G n ops Q H rest ((d, v) :: s)) : SQ P G n ops Q H (⟨some d, Op.assign x, ty, pos, af, none⟩ :: rest) s := sq_val rfl (y_assign rfl hx) rfl h2 h
theorem q_un {Q : Fm → Prop} {u : UnOp} {v : Value} (hy : Yields P G n s H ⟨some d, Op.unOp u t x, ty, pos, af, none⟩ v) (h2 : Nat.blt d n = true) (h : SQ P G n ops Q H rest ((d, v) :: s)) : SQ P G n ops Q H (⟨some d, Op.unOp u t x, ty, pos, af, none⟩ :: rest) s := sq_val rfl hy rfl h2 h
theorem q_field {Q : Fm → Prop} {i : Nat} {v : Value} (hy : Yields P G n s H ⟨some d, Op.fieldAddr t x i, ty, pos, af, none⟩ v) (h2 : Nat.blt d n = true) (h : SQ P G n ops Q H rest ((d, v) :: s)) : SQ P G n ops Q H (⟨some d, Op.fieldAddr t x i, ty, pos, af, none⟩ :: rest) s := sq_val rfl hy rfl h2 h
theorem q_build {Q : Fm → Prop} {parts : Array (Nat × Operand)} {v : Value} (hy : Yields P G n s H ⟨some d, Op.build t parts, ty, pos, af, none⟩ v) (h2 : Nat.blt d n = true) (h : SQ P G n ops Q H rest ((d, v) :: s)) : SQ P G n ops Q H (⟨some d, Op.build t parts, ty, pos, af, none⟩ :: rest) s := sq_val rfl hy rfl h2 h
theorem q_index {Q : Fm → Prop} {v : Value} (hy : Yields P G n s H ⟨some d, Op.index t x y, ty, pos, af, none⟩ v) (h2 : Nat.blt d n = true) (h : SQ P G n ops Q H rest ((d, v) :: s)) : SQ P G n ops Q H (⟨some d, Op.index t x y, ty, pos, af, none⟩ :: rest) s := sq_val rfl hy rfl h2 h
theorem q_indexA {Q : Fm → Prop} {v : Value} (hy : Yields P G n s H ⟨some d, Op.indexAddr t x y, ty, pos, af, none⟩ v) (h2 : Nat.blt d n = true) (h : SQ P G n ops Q H rest ((d, v) :: s)) : SQ P G n ops Q H (⟨some d, Op.indexAddr t x y, ty, pos, af, none⟩ :: rest) s := sq_val rfl hy rfl h2 h
theorem q_conv {Q : Fm → Prop} {v : Value} (hy : Yields P G n s H ⟨some d, Op.convert t t' x, ty, pos, af, none⟩ v) (h2 : Nat.blt d n = true) (h : SQ P G n ops Q H rest ((d, v) :: s)) : SQ P G n ops Q H (⟨some d, Op.convert t t' x, ty, pos, af, none⟩ :: rest) s := sq_val rfl hy rfl h2 h
theorem q_extr {Q : Fm → Prop} {i : Nat} {v : Value} (hy : Yields P G n s H ⟨some d, Op.extract x i, ty, pos, af, none⟩ v) (h2 : Nat.blt d n = true) (h : SQ P G n ops Q H rest ((d, v) :: s)) : SQ P G n ops Q H (⟨some d, Op.extract x i, ty, pos, af, none⟩ :: rest) s := sq_val rfl hy rfl h2 h
theorem q_nilc {Q : Fm → Prop} {v : Value} (hy : Yields P G n s H ⟨some d, Op.nilCheck x, ty, pos, af, none⟩ v) (h2 : Nat.blt d n = true) (h : SQ P G n ops Q H rest ((d, v) :: s)) : SQ P G n ops Q H (⟨some d, Op.nilCheck x, ty, pos, af, none⟩ :: rest) s := sq_val rfl hy rfl h2 h
theorem q_call {Q : Fm → Prop} {c : Call} {v : Value} (hy : Yields P G n s H ⟨some d, .call c, ty, pos, af, none⟩ v) (h2 : Nat.blt d n = true) (h : SQ P G n ops Q H rest ((d, v) :: s)) : SQ P G n ops Q H (⟨some d, .call c, ty, pos, af, none⟩ :: rest) s := sq_val rfl hy rfl h2 h
end
end Go.Sx
