/- The operations, one rule each, over what is known. -/
import Derived.Test.YtgcnfcgnkfkpeaaSx
namespace Go.Sx
open Go Go.RowKit Go.Fw

/-- The operation is carried out: it bears no guard, or its guard stands. -/
def Want (ops : Array Oper) (o : Oper) (s : Fm) : Prop := o.guard = none ∨ ∃ i b o' d, o.guard = some (i, b) ∧ ops[i]? = some o' ∧ o'.dst = some d ∧ look s d = some (.bool b)
def Skips (ops : Array Oper) (o : Oper) (s : Fm) : Prop := ∃ i b o' d, o.guard = some (i, !b) ∧ ops[i]? = some o' ∧ o'.dst = some d ∧ look s d = some (.bool b)
theorem tmp_of_getD {a : Act} {d : Nat} {v : Value} (h : a.tmps.getD d undef = v) (hv : v ≠ undef) : a.tmps[d]? = some v := by
  rw [Array.getD_eq_getD_getElem?] at h
  cases hd : a.tmps[d]? with
  | none => rw [hd] at h; exact absurd h.symm hv
  | some u => rw [hd] at h; exact congrArg some h
theorem bool_ne_undef (b : Bool) : Value.bool b ≠ undef := by intro h; cases h
theorem Want.wanted {ops : Array Oper} {o : Oper} {s : Fm} {n : Nat} {a : Act} (h : Want ops o s) (ha : Fr n s a) : Region.wanted o (yielded ops a.tmps) = true := by
  rcases h with h | ⟨i, b, o', d, hg, ho, hd, hl⟩
  · simp [Region.wanted, h]
  · have := tmp_of_getD (ha.has d _ hl) (bool_ne_undef b)
    simp [Region.wanted, hg, yielded, ho, hd, this]
theorem Skips.wanted {ops : Array Oper} {o : Oper} {s : Fm} {n : Nat} {a : Act} (h : Skips ops o s) (ha : Fr n s a) : Region.wanted o (yielded ops a.tmps) = false := by
  obtain ⟨i, b, o', d, hg, ho, hd, hl⟩ := h
  have := tmp_of_getD (ha.has d _ hl) (bool_ne_undef b)
  cases b <;> simp [Region.wanted, hg, yielded, ho, hd, this]

section
variable {P : Program} {G : Ctx} {n : Nat} {ops : Array Oper} {Q : Post} {s : Fm} {H : List Ent} {o : Oper} {rest : List Oper}

theorem sl_nil (h : AtQ Q .normal s H) : SL P G n ops Q [] s H := fun _ _ ha hw => ⟨s, H, ha, hw, h⟩
theorem sw_region {id : Nat} {l : List Oper} (h : SL P G n l.toArray Q l s H) : SW P G n (.region id l.toArray false) Q s H := fun a w ha hw => wp_region_lit (h a w ha hw)
theorem sl_op (hg : Want ops o s) (h : ∀ a w, Fr n s a → Holds G H w → ∀ K : Act → World → Prop, (∀ a' w', wpList P ops (lift G n Q) rest a' w' → K a' w') → o.wp P a w K (lift G n Q)) : SL P G n ops Q (o :: rest) s H := fun a w ha hw =>
  wpList_step fun K hK => by rw [if_pos (hg.wanted ha)]; exact h a w ha hw K hK
theorem sl_skip {d : Nat} (hg : ∀ a, Fr n s a → Region.wanted o (yielded ops a.tmps) = false) (h1 : o.dst = some d) (h2 : Nat.blt d n = true) (h : SL P G n ops Q rest ((d, undef) :: s) H) : SL P G n ops Q (o :: rest) s H := fun a w ha hw =>
  wpList_step fun K hK => by
    rw [if_neg (by rw [hg a ha]; decide)]
    have h3 : okDst n o.dst = true := by rw [h1]; exact h2
    have h4 : upd s o.dst undef = (d, undef) :: s := by rw [h1]; rfl
    rw [← h4] at h
    exact hK _ _ (h _ w (ha.put _ _ h3) hw)
theorem Skips.undef {ops : Array Oper} {o o' : Oper} {s : Fm} {n i j : Nat} {b : Bool} {a : Act} (hg : o.guard = some (i, b)) (ho : ops[i]? = some o') (hd : o'.dst = some j) (hl : look s j = some undef) (ha : Fr n s a) : Region.wanted o (yielded ops a.tmps) = false := by
  have h := ha.has j _ hl
  have hy : yielded ops a.tmps i = none := by
    unfold yielded
    simp only [ho, Option.bind_some, hd]
    rw [Array.getD_eq_getD_getElem?] at h
    cases hq : a.tmps[j]? with
    | none => rfl
    | some u => rw [hq] at h; simp only [Option.getD_some] at h; subst h; rfl
  simp [Region.wanted, hg, hy]
/-- A guard that is not known: both ways. -/
theorem sl_split {i d : Nat} {b c : Bool} {o' : Oper} (hg : o.guard = some (i, b)) (ho : ops[i]? = some o') (hd : o'.dst = some d) (hl : look s d = some (.bool c))
    (ht : c = true → SL P G n ops Q (o :: rest) ((d, .bool true) :: s) H) (hf : c = false → SL P G n ops Q (o :: rest) ((d, .bool false) :: s) H) : SL P G n ops Q (o :: rest) s H := by
  have key : ∀ v, look s d = some v → ∀ a, Fr n s a → Fr n ((d, v) :: s) a := fun v hv a ha => ⟨ha.defers, ha.size, fun i u hi => by
    simp only [look] at hi
    cases hb : Nat.beq i d with
    | true => rw [hb, cond_true, Option.some.injEq] at hi; subst hi; rw [Nat.eq_of_beq_eq_true hb]; exact ha.has d _ hv
    | false => rw [hb, cond_false] at hi; exact ha.has i u hi⟩
  cases c
  · exact fun a w ha hw => hf rfl a w (key _ hl a ha) hw
  · exact fun a w ha hw => ht rfl a w (key _ hl a ha) hw

/-- The operation yields this value and leaves the world as it is. -/
def Yields (P : Program) (G : Ctx) (n : Nat) (s : Fm) (H : List Ent) (o : Oper) (v : Value) : Prop := ∀ a w, Fr n s a → Holds G H w → (execOp a.eval o).run P w = .ok (.value v) w
theorem okd {d : Nat} (h1 : o.dst = some d) (h2 : Nat.blt d n = true) : okDst n o.dst = true := by rw [h1]; exact h2
theorem updd {d : Nat} (h1 : o.dst = some d) (v : Value) : upd s o.dst v = (d, v) :: s := by rw [h1]; rfl
theorem sl_unguard {i d : Nat} {b : Bool} {o' : Oper} (hg : o.guard = some (i, b)) (ho : ops[i]? = some o') (hd : o'.dst = some d) (hl : look s d = some (.bool b)) (h : SL P G n ops Q ({ o with guard := none } :: rest) s H) : SL P G n ops Q (o :: rest) s H := fun a w ha hw => by
  have hwant : Region.wanted o (yielded ops a.tmps) = true := Want.wanted (.inr ⟨i, b, o', d, hg, ho, hd, hl⟩) ha
  have h' := h a w ha hw
  unfold wpList at h' ⊢
  rw [if_pos hwant]
  rw [if_pos (by simp [Region.wanted])] at h'
  exact h'
theorem sl_val {v : Value} {d : Nat} (hg : o.guard = none) (hy : Yields P G n s H o v) (h1 : o.dst = some d) (h2 : Nat.blt d n = true) (h : SL P G n ops Q rest ((d, v) :: s) H) : SL P G n ops Q (o :: rest) s H := by
  have hd := okd (n := n) h1 h2
  rw [← updd h1] at h
  replace hg : Want ops o s := .inl hg
  exact
  sl_op hg fun a w ha hw K hK => by
    unfold Oper.wp
    rw [hy a w ha hw]
    exact hK _ _ (h _ _ (ha.put _ _ hd) hw)
theorem run_value {s : Sem Value} {v : Value} {w : World} (h : s.run P w = .ok v w) : (do pure (Next.value (← s)) : Sem Next).run P w = .ok (.value v) w := by
  simp only [Sem.run_bind, h, Result.andThen_ok, Sem.run_pure]

theorem y_move {x : Operand} {v : Value} (ho : o.op = .move x) (hx : ev s x = some v) : Yields P G n s H o v := fun a w ha _ => by unfold execOp; rw [ho]; simp only [ha.ev hx, Sem.run_pure]
theorem y_assign {x : Operand} {v : Value} (ho : o.op = .assign x) (hx : ev s x = some v) : Yields P G n s H o v := fun a w ha _ => by unfold execOp; rw [ho]; simp only [ha.ev hx, Sem.run_pure]
theorem y_pick_t {c x y : Operand} {v : Value} (ho : o.op = .pick c x y) (hc : ev s c = some (.bool true)) (hx : ev s x = some v) : Yields P G n s H o v := fun a w ha _ => by
  unfold execOp; rw [ho]; simp only [ha.ev hc, ha.ev hx, asBool, Sem.run_bind, Sem.run_pure, Result.andThen_ok, if_true]
theorem y_pick_f {c x y : Operand} {v : Value} (ho : o.op = .pick c x y) (hc : ev s c = some (.bool false)) (hx : ev s y = some v) : Yields P G n s H o v := fun a w ha _ => by
  unfold execOp; rw [ho]; simp only [ha.ev hc, ha.ev hx, asBool, Sem.run_bind, Sem.run_pure, Result.andThen_ok]; rfl
theorem y_pick {c x y : Operand} {b p q : Bool} (ho : o.op = .pick c x y) (hc : ev s c = some (.bool b)) (hx : ev s x = some (.bool p)) (hy : ev s y = some (.bool q)) : Yields P G n s H o (.bool (if b then p else q)) := fun a w ha _ => by
  unfold execOp; rw [ho]; simp only [ha.ev hc, ha.ev hx, ha.ev hy, asBool, Sem.run_bind, Sem.run_pure, Result.andThen_ok]; cases b <;> rfl
theorem y_bin {op : BinOp} {t t' : TypeId} {x y : Operand} {vx vy v : Value} (ho : o.op = .binOp op t x y t') (hx : ev s x = some vx) (hy : ev s y = some vy) (hs : still P (do eqGuard op t x y vx vy; binOp op t vx vy) = some v) : Yields P G n s H o v := fun a w ha _ => by
  unfold execOp; rw [ho]; simp only [ha.ev hx, ha.ev hy]; exact run_value (still_run _ _ hs w)
theorem y_un {op : UnOp} {t : TypeId} {x : Operand} {vx v : Value} (ho : o.op = .unOp op t x) (hx : ev s x = some vx) (hs : still P (Op.unary op vx) = some v) : Yields P G n s H o v := fun a w ha _ => by
  unfold execOp; rw [ho]; simp only [ha.ev hx]; exact run_value (still_run _ _ hs w)
theorem y_extract {i : Nat} {x : Operand} {vx v : Value} (ho : o.op = .extract x i) (hx : ev s x = some vx) (hs : still P (Instr.extract vx i) = some v) : Yields P G n s H o v := fun a w ha _ => by
  unfold execOp; rw [ho]; simp only [ha.ev hx]; exact run_value (still_run _ _ hs w)
theorem y_nilCheck {x : Operand} {p : Addr} (ho : o.op = .nilCheck x) (hx : ev s x = some (.pointer (some p))) : Yields P G n s H o (.pointer (some p)) := fun a w ha _ => by
  unfold execOp; rw [ho]; simp only [ha.ev hx, Sem.run_pure]
theorem y_convert {src dst : TypeId} {x : Operand} {vx v : Value} (ho : o.op = .convert src dst x) (hx : ev s x = some vx) (hs : still P (convert src dst vx) = some v) : Yields P G n s H o v := fun a w ha _ => by
  unfold execOp; rw [ho]; simp only [ha.ev hx]; exact run_value (still_run _ _ hs w)
theorem y_index {t : TypeId} {x y : Operand} {vx vy v : Value} (ho : o.op = .index t x y) (hx : ev s x = some vx) (hy : ev s y = some vy) (hs : still P (Instr.index t vx vy) = some v) : Yields P G n s H o v := fun a w ha _ => by
  unfold execOp; rw [ho]; simp only [ha.ev hx, ha.ev hy]; exact run_value (still_run _ _ hs w)
theorem y_field {t : TypeId} {x : Operand} {i : Nat} {vx v : Value} (ho : o.op = .field t x i) (hx : ev s x = some vx) (hs : still P (Instr.field t vx i) = some v) : Yields P G n s H o v := fun a w ha _ => by
  unfold execOp; rw [ho]; simp only [ha.ev hx]; exact run_value (still_run _ _ hs w)

/-- The numbers of a kind. -/
def Fits : IntKind → Int → Prop
  | .i64, r => -9223372036854775808 ≤ r ∧ r ≤ 9223372036854775807
  | .u64, r => 0 ≤ r ∧ r ≤ 18446744073709551615
  | .u8, r => 0 ≤ r ∧ r ≤ 255
  | .i32, r => -2147483648 ≤ r ∧ r ≤ 2147483647
  | _, _ => False
theorem Fits.wrap {k : IntKind} {r : Int} (h : Fits k r) : k.wrap r = r := by
  cases k <;> simp only [Fits] at h
  case i64 => exact IntWalk.i64_in _ (by omega)
  case u64 => exact IntWalk.u64_in _ (by omega)
  case u8 => exact IntWalk.u8_in _ (by omega)
  case i32 => exact IntWalk.i32_in _ (by omega)
theorem y_add {t t' : TypeId} {x y : Operand} {k : IntKind} {p q : Int} (ho : o.op = .binOp .add t x y t') (hx : ev s x = some (.int k p)) (hy : ev s y = some (.int k q)) (h : Fits k (p + q)) : Yields P G n s H o (.int k (p + q)) :=
  y_bin ho hx hy (by simp only [eqGuard, binOp, Op.intArith, h.wrap]; simp; rfl)
theorem y_sub {t t' : TypeId} {x y : Operand} {k : IntKind} {p q : Int} (ho : o.op = .binOp .sub t x y t') (hx : ev s x = some (.int k p)) (hy : ev s y = some (.int k q)) (h : Fits k (p - q)) : Yields P G n s H o (.int k (p - q)) :=
  y_bin ho hx hy (by simp only [eqGuard, binOp, Op.intArith, h.wrap]; simp; rfl)
theorem y_mul {t t' : TypeId} {x y : Operand} {k : IntKind} {p q : Int} (ho : o.op = .binOp .mul t x y t') (hx : ev s x = some (.int k p)) (hy : ev s y = some (.int k q)) (h : Fits k (p * q)) : Yields P G n s H o (.int k (p * q)) :=
  y_bin ho hx hy (by simp only [eqGuard, binOp, Op.intArith, h.wrap]; simp; rfl)
theorem y_quo {t t' : TypeId} {x y : Operand} {k : IntKind} {p q : Int} (ho : o.op = .binOp .quo t x y t') (hx : ev s x = some (.int k p)) (hy : ev s y = some (.int k q)) (h : Fits k (p / q)) (h0 : 0 ≤ p) (h1 : 0 < q) : Yields P G n s H o (.int k (p / q)) :=
  y_bin ho hx hy (by
    have e : p.tdiv q = p / q := Int.tdiv_eq_ediv_of_nonneg h0
    have e2 : ¬ q = 0 := by omega
    simp only [eqGuard, binOp, Op.intDiv, e, h.wrap, e2, if_false]; simp; rfl)
theorem y_rem {t t' : TypeId} {x y : Operand} {k : IntKind} {p q : Int} (ho : o.op = .binOp .rem t x y t') (hx : ev s x = some (.int k p)) (hy : ev s y = some (.int k q)) (h0 : 0 ≤ p) (h1 : 0 < q) : Yields P G n s H o (.int k (p % q)) :=
  y_bin ho hx hy (by
    have e : p.tmod q = p % q := Int.tmod_eq_emod_of_nonneg h0
    have e2 : ¬ q = 0 := by omega
    simp only [eqGuard, binOp, Op.intDiv, e, e2, if_false]; simp; rfl)

/-- A list, spelled out. -/
inductive NF : List Value → List Value → Prop where
  | nil {l : List Value} (h : l = []) : NF l []
  | cons {l r r' : List Value} {v : Value} (h : l = v :: r) (hr : NF r r') : NF l (v :: r')
  | keep (l : List Value) : NF l l
theorem NF.eq {l l' : List Value} (h : NF l l') : l = l' := by
  induction h with
  | nil h => exact h
  | cons h _ ih => rw [h, ih]
  | keep l => rfl
/-- The cells of a value. -/
inductive Cs : Value → List Value → Prop where
  | agg (l : List Value) : Cs (.agg l.toArray) l
  | one {v : Value} (h : v.oneCell' = true) : Cs v [v]
theorem Cs.cells {v : Value} {l : List Value} (h : Cs v l) : v.cells = l.toArray := by
  cases h with
  | agg l => rfl
  | one h => cases v <;> first | rfl | cases h
/-- The values of operands. -/
inductive Evs (s : Fm) : List Operand → List Value → Prop where
  | nil : Evs s [] []
  | cons {x : Operand} {v : Value} {l : List Operand} {r : List Value} (h : ev s x = some v) (hr : Evs s l r) : Evs s (x :: l) (v :: r)
theorem Evs.map {s : Fm} {l : List Operand} {r : List Value} (h : Evs s l r) {n : Nat} {a : Act} (ha : Fr n s a) : l.map a.eval = r := by
  induction h with
  | nil => rfl
  | cons h _ ih => rw [List.map_cons, ha.ev h, ih]

/-- A new variable. -/
theorem sl_box {elem : TypeId} {x : Operand} {v : Value} {cs : List Value} {d : Nat} (hg : o.guard = none) (ho : o.op = .box elem x) (hx : ev s x = some v) (hc : Cs v cs) (h1 : o.dst = some d) (h2 : Nat.blt d n = true)
    (h : ∀ b, SL P G n ops Q rest ((d, .pointer (some ⟨b, 0, none⟩)) :: s) (.blk b elem cs :: H)) : SL P G n ops Q (o :: rest) s H := by
  have hd := okd (n := n) h1 h2
  simp only [← updd h1] at h
  replace hg : Want ops o s := .inl hg
  exact
  sl_op hg fun a w ha hw K hK => by
    unfold Oper.wp execOp
    simp only [ho, ha.ev hx, Instr.box, newVar, newRow, newObj, hc.cells]
    exact hK _ _ (h _ _ _ (ha.put _ _ hd) (hw.alloc elem cs))
theorem sl_alloc {elem : TypeId} {z : Value} {cs : List Value} {d : Nat} (hg : o.guard = none) (ho : o.op = .alloc elem) (hz : still P (zeroValue elem) = some z) (hc : Cs z cs) (h1 : o.dst = some d) (h2 : Nat.blt d n = true)
    (h : ∀ b, SL P G n ops Q rest ((d, .pointer (some ⟨b, 0, none⟩)) :: s) (.blk b elem cs :: H)) : SL P G n ops Q (o :: rest) s H := by
  have hd := okd (n := n) h1 h2
  simp only [← updd h1] at h
  replace hg : Want ops o s := .inl hg
  exact
  sl_op hg fun a w ha hw K hK => by
    unfold Oper.wp execOp
    simp only [ho, Instr.alloc, newVar, newRow, newObj, Sem.run_bind, still_run _ _ hz w, Result.andThen_ok, hc.cells]
    exact hK _ _ (h _ _ _ (ha.put _ _ hd) (hw.alloc elem cs))

def rowB : TypeDesc → Bool
  | .struct _ | .array _ _ => true
  | _ => false
theorem run_isAgg {w : World} {t : TypeId} {d : TypeDesc} (hu : P.underlying t = some d) : (isAgg t).run P w = .ok (rowB d) w := by
  unfold isAgg
  simp only [Sem.run_bind, run_underlying hu, Result.andThen_ok]
  cases d <;> rfl
theorem run_load_cell {w : World} {t : TypeId} {d : TypeDesc} {p : Addr} {v : Value} (hu : P.underlying t = some d) (hr : rowB d = false) (hc : w.cell? p = some v) : (Instr.loadAt t (.pointer (some p))).run P w = .ok v w := by
  simp only [Instr.loadAt, Instr.sureAddr, loadVar, Sem.run_bind, Sem.run_pure, Result.andThen_ok, run_isAgg hu, hr]
  show (load p).run P w = _
  unfold load Sem.run
  simp only [hc, Sem.run]
theorem run_load_cells {w : World} {t : TypeId} {d : TypeDesc} {b o : Nat} {cs : List Value} (hu : P.underlying t = some d) (hr : rowB d = true) (hi : (P.info? t).map (·.size) = some cs.length) (hc : ∀ j v, cs[j]? = some v → w.cell? ⟨b, o + j, none⟩ = some v) :
    (Instr.loadAt t (.pointer (some ⟨b, o, none⟩))).run P w = .ok (.agg cs.toArray) w := by
  simp only [Instr.loadAt, Instr.sureAddr, Sem.run_bind, Sem.run_pure, Result.andThen_ok]
  exact run_loadVar_mid w b o t cs d hc hu (by cases d <;> simp_all [rowB, TypeDesc.isRow]) hi

theorem y_load {t t' : TypeId} {d : TypeDesc} {x : Operand} {b off : Nat} {cs : List Value} {v : Value} (ho : o.op = .load t x) (hx : ev s x = some (.pointer (some ⟨b, off, none⟩))) (hm : Ent.blk b t' cs ∈ H) (hu : P.underlying t = some d) (hr : rowB d = false) (hv : cs[off]? = some v) :
    Yields P G n s H o v := fun a w ha hw => by
  unfold execOp; rw [ho]; simp only [ha.ev hx]
  exact run_value (run_load_cell hu hr ((row_cell (hw.ok _ hm).2).trans hv))
theorem y_load_whole {t t' : TypeId} {d : TypeDesc} {x : Operand} {b : Nat} {cs : List Value} (ho : o.op = .load t x) (hx : ev s x = some (.pointer (some ⟨b, 0, none⟩))) (hm : Ent.blk b t' cs ∈ H) (hu : P.underlying t = some d) (hr : rowB d = true) (hi : (P.info? t).map (·.size) = some cs.length) :
    Yields P G n s H o (.agg cs.toArray) := fun a w ha hw => by
  unfold execOp; rw [ho]; simp only [ha.ev hx]
  exact run_value (run_load_cells hu hr hi fun j v hj => by rw [Nat.zero_add]; exact (row_cell (hw.ok _ hm).2).trans hj)
theorem y_load_part {t t' : TypeId} {d : TypeDesc} {x : Operand} {b off sz : Nat} {cs cs' : List Value} (ho : o.op = .load t x) (hx : ev s x = some (.pointer (some ⟨b, off, none⟩))) (hm : Ent.blk b t' cs ∈ H) (hu : P.underlying t = some d) (hr : rowB d = true) (hi : (P.info? t).map (·.size) = some sz)
    (hn : NF ((cs.drop off).take sz) cs') (hl : off + sz ≤ cs.length) : Yields P G n s H o (.agg cs'.toArray) := fun a w ha hw => by
  unfold execOp; rw [ho]; simp only [ha.ev hx]
  rw [← hn.eq]
  refine run_value (run_load_cells hu hr (by rw [hi, List.length_take, List.length_drop, Nat.min_eq_left (by omega)]) fun j v hj => ?_)
  refine (row_cell (hw.ok _ hm).2).trans ?_
  have hlt : j < sz := by
    have := (List.getElem?_eq_some_iff.1 hj).1
    rw [List.length_take] at this; omega
  rw [List.getElem?_take, if_pos hlt, List.getElem?_drop] at hj
  exact hj

/-- The place of element k. -/
def elemPtr (a : Option Addr) (k : Nat) : Value := .pointer (a.map (·.add k))
theorem At.someAt {w : World} {a : Option Addr} {xs : List Value} (h : At w a xs) (hx : 0 < xs.length) : ∃ b o, a = some ⟨b, o, none⟩ ∧ ∀ i, i < xs.length → w.cell? ⟨b, o + i, none⟩ = xs[i]? := by
  rcases h with h | ⟨b, o, ha, _, hc⟩
  · subst h; exact absurd hx (by simp)
  · exact ⟨b, o, ha, hc⟩
theorem y_indexAddr {t e : TypeId} {x y : Operand} {a : Option Addr} {len c sz : Nat} {k : IntKind} {i : Int} {xs : List Value} (ho : o.op = .indexAddr t x y) (hx : ev s x = some (.slice a len c)) (hy : ev s y = some (.int k i)) (hu : P.underlying t = some (.slice e)) (hi : (P.info? e).map (·.size) = some sz)
    (hr : Rd G H a xs) (hl : len ≤ xs.length) (h0 : 0 ≤ i) (h1 : i < len) : Yields P G n s H o (elemPtr a (i.toNat * sz)) := fun act w ha hw => by
  unfold execOp; rw [ho]; simp only [ha.ev hx, ha.ev hy]
  obtain ⟨b, off, rfl, -⟩ := At.someAt (hr w hw) (by omega)
  refine run_value ?_
  cases hq : P.info? e with
  | none => simp [hq] at hi
  | some inf =>
    have hs : inf.size = sz := by simpa [hq] using hi
    simp only [Instr.indexAt, asIntOf, Sem.run_bind, Sem.run_pure, Result.andThen_ok, run_underlying hu]
    rw [if_pos ⟨h0, h1⟩]
    simp only [sizeOf, typeInfo, Sem.run_bind, Sem.run_pure, Result.andThen_ok]
    simp [hq, hs, elemPtr, program, Sem.run]
theorem y_load_elem {t : TypeId} {d : TypeDesc} {x : Operand} {a : Option Addr} {k : Nat} {xs : List Value} {v : Value} (ho : o.op = .load t x) (hx : ev s x = some (elemPtr a k)) (hr : Rd G H a xs) (hu : P.underlying t = some d) (hrow : rowB d = false) (hv : xs[k]? = some v) :
    Yields P G n s H o v := fun act w ha hw => by
  unfold execOp; rw [ho]; simp only [ha.ev hx]
  have hk := (List.getElem?_eq_some_iff.1 hv).1
  obtain ⟨b, off, rfl, hc⟩ := At.someAt (hr w hw) (by omega)
  simp only [elemPtr, Option.map_some, Addr.add_mid]
  exact run_value (run_load_cell hu hrow ((hc k hk).trans hv))
theorem y_load_elems {t : TypeId} {d : TypeDesc} {x : Operand} {a : Option Addr} {k : Nat} {xs cs : List Value} (ho : o.op = .load t x) (hx : ev s x = some (elemPtr a k)) (hr : Rd G H a xs) (hu : P.underlying t = some d) (hrow : rowB d = true) (hi : (P.info? t).map (·.size) = some cs.length) (h0 : 0 < cs.length)
    (hv : ∀ j v, cs[j]? = some v → xs[k + j]? = some v) : Yields P G n s H o (.agg cs.toArray) := fun act w ha hw => by
  unfold execOp; rw [ho]; simp only [ha.ev hx]
  have hk := (List.getElem?_eq_some_iff.1 (hv 0 _ (List.getElem?_eq_getElem h0))).1
  obtain ⟨b, off, rfl, hc⟩ := At.someAt (hr w hw) (by omega)
  simp only [elemPtr, Option.map_some, Addr.add_mid]
  refine run_value (run_load_cells hu hrow hi fun j v hj => ?_)
  have := hv j v hj
  rw [Nat.add_assoc]
  exact (hc (k + j) (List.getElem?_eq_some_iff.1 this).1).trans this

/-- A field's place. -/
theorem y_fieldAddr {t : TypeId} {x : Operand} {b off fo i sz : Nat} {fs : Array Field} {f : Field} {p : Addr} (ho : o.op = .fieldAddr t x i) (hx : ev s x = some (.pointer (some ⟨b, off, none⟩))) (hu : P.underlying t = some (.struct fs)) (hf : fs[i]? = some f) (hfo : some f.offset = some fo) (hi : (P.info? f.type).map (·.size) = some (sz + 1)) (hp : p = ⟨b, off + fo, none⟩) :
    Yields P G n s H o (.pointer (some p)) := fun act w ha _ => by
  subst hp
  simp only [Option.some.injEq] at hfo
  subst hfo
  unfold execOp; rw [ho]; simp only [ha.ev hx]
  refine run_value ?_
  cases hq : P.info? f.type with
  | none => simp [hq] at hi
  | some inf =>
    have hs : inf.size = sz + 1 := by simpa [hq] using hi
    simp [Instr.fieldAt, run_underlying hu, hf, Instr.sureAddr, fieldPlace, sizeOf, typeInfo, program, Sem.run, hq, hs, Addr.add_mid]

/-- A store into a block that the call holds. -/
theorem sl_store {t t' : TypeId} {x y : Operand} {b off : Nat} {cs cs' : List Value} {v : Value} {H' : List Ent} (hg : o.guard = none) (ho : o.op = .store t x y) (hx : ev s x = some (.pointer (some ⟨b, off, none⟩))) (hy : ev s y = some v) (hp : Pick (.blk b t' cs) H H') (h1 : v.oneCell' = true)
    (hi : (P.info? t).map (·.size) = some 1) (hl : off < cs.length) (hn : NF (cs.set off v) cs') (hd : o.dst = none) (h : SL P G n ops Q rest s (.blk b t' cs' :: H')) : SL P G n ops Q (o :: rest) s H :=
  sl_op (.inl hg) fun a w ha hw K hK => by
    have hw := hw.pick hp
    have hrow := (hw.ok _ List.mem_cons_self).2
    unfold Oper.wp execOp
    simp only [ho, ha.ev hx, ha.ev hy]
    cases hq : P.info? t with
    | none => simp [hq] at hi
    | some inf =>
      have hs : inf.size = 1 := by simpa [hq] using hi
      have hcell : w.cell? ⟨b, off, none⟩ = some cs[off] := (row_cell hrow).trans (List.getElem?_eq_getElem hl)
      have hfz : w.frozen? ⟨b, off, none⟩ = false := row_free hrow
      have hcs : v.cells = #[v] := by cases v <;> first | rfl | cases h1
      have hrun : (Instr.storeAt t (.pointer (some ⟨b, off, none⟩)) v).run P w = .ok () (w.setCell ⟨b, off, none⟩ v) := by
        simp only [Instr.storeAt, Instr.sureAddr, storeVar, hcs, Sem.run_bind, Sem.run_pure, Result.andThen_ok, sizeOf, typeInfo, program]
        simp only [Sem.run, hq, hs, Result.andThen_ok, Sem.run_pure]
        simp only [List.size_toArray, List.length_cons, List.length_nil, Nat.zero_add, ne_eq, not_true_eq_false, if_false, storeCells, store, Addr.add_mid, Nat.add_zero]
        cases v <;> first | (cases h1; done) | simp [Sem.run, hcell, hfz, Sem.bind, bind, pure]
      simp only [Sem.run_bind, hrun, Result.andThen_ok]
      have hw' : Holds G (.blk b t' cs' :: H') (w.setCell ⟨b, off, none⟩ v) := by
        rw [← hn.eq]
        exact hw.set (row_set v hrow) (fun k hk => Below.heap_setCell w _ v k hk) (by simp [World.setCell]) rfl rfl rfl
      exact hK _ _ (h _ _ (by rw [hd]; exact ha) hw')
theorem sl_store_whole {t t' : TypeId} {x y : Operand} {b : Nat} {cs cs' : List Value} {H' : List Ent} (hg : o.guard = none) (ho : o.op = .store t x y) (hx : ev s x = some (.pointer (some ⟨b, 0, none⟩))) (hy : ev s y = some (.agg cs'.toArray)) (hp : Pick (.blk b t' cs) H H') (h1 : cs'.all (·.oneCell') = true)
    (hi : (P.info? t).map (·.size) = some cs'.length) (hl : cs.length = cs'.length) (hd : o.dst = none) (h : SL P G n ops Q rest s (.blk b t' cs' :: H')) : SL P G n ops Q (o :: rest) s H :=
  sl_op (.inl hg) fun a w ha hw K hK => by
    have hw := hw.pick hp
    have hrow := (hw.ok _ List.mem_cons_self).2
    unfold Oper.wp execOp
    simp only [ho, ha.ev hx, ha.ev hy, Instr.storeAt, Instr.sureAddr, Sem.run_bind, Sem.run_pure, Result.andThen_ok, run_storeVar_row w b t' t cs.toArray cs'.toArray hrow (by simpa using hi) (by simpa using hl) (all_oneCell_toArray (by simpa using h1))]
    have hw' : Holds G (.blk b t' cs' :: H') (w.setRow b cs'.toArray) := hw.set (setRow_heap w b _ _ t' (0, 0) hrow) (fun k hk => setRow_other w b k _ hk) (by simp [World.setRow]) rfl rfl rfl
    exact hK _ _ (h _ _ (by rw [hd]; exact ha) hw')
end
end Go.Sx
