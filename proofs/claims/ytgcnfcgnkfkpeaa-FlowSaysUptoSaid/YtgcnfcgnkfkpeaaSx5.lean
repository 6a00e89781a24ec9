/- More rules: bits, shifts, ways. -/
import Derived.Test.YtgcnfcgnkfkpeaaSx4
namespace Go.Sx
open Go Go.RowKit Go.Fw
@[irreducible] def iand (p q : Int) : Int := ((p.toNat &&& q.toNat : Nat) : Int)
@[irreducible] def ior (p q : Int) : Int := ((p.toNat ||| q.toNat : Nat) : Int)
@[irreducible] def iclr (p q : Int) : Int := ((p.toNat &&& (18446744073709551615 - q.toNat) : Nat) : Int)
@[irreducible] def ibits (op : BinOp) (k : IntKind) (p q : Int) : Int := bits op k p q
theorem iand_eq (p q : Int) : iand p q = ((p.toNat &&& q.toNat : Nat) : Int) := by unfold iand; rfl
theorem ior_eq (p q : Int) : ior p q = ((p.toNat ||| q.toNat : Nat) : Int) := by unfold ior; rfl
theorem iclr_eq (p q : Int) : iclr p q = ((p.toNat &&& (18446744073709551615 - q.toNat) : Nat) : Int) := by unfold iclr; rfl
theorem ibits_eq (op : BinOp) (k : IntKind) (p q : Int) : ibits op k p q = bits op k p q := by unfold ibits; rfl
theorem iand_nn (p q : Int) : 0 ≤ iand p q := by rw [iand_eq]; omega
theorem iand_l (p q B : Int) (h0 : 0 ≤ p) (h : p < B) : iand p q < B := by
  rw [iand_eq]
  have := Nat.and_le_left (n := p.toNat) (m := q.toNat)
  omega
theorem ior_nn (p q : Int) : 0 ≤ ior p q := by rw [ior_eq]; omega
theorem ior_lt63 (p q : Int) (h1 : 0 ≤ p) (h2 : p < 9223372036854775808) (h3 : 0 ≤ q) (h4 : q < 9223372036854775808) : ior p q < 9223372036854775808 := by
  rw [ior_eq]
  have : p.toNat ||| q.toNat < 2 ^ 63 := Nat.or_lt_two_pow (by omega) (by omega)
  omega
theorem iclr_nn (p q : Int) : 0 ≤ iclr p q := by rw [iclr_eq]; omega
theorem iclr_l (p q B : Int) (h0 : 0 ≤ p) (h : p < B) : iclr p q < B := by
  rw [iclr_eq]
  have := Nat.and_le_left (n := p.toNat) (m := 18446744073709551615 - q.toNat)
  omega
section
variable {P : Program} {G : Ctx} {n : Nat} {ops : Array Oper} {Q : Post} {s : Fm} {H : List Ent} {o : Oper} {rest : List Oper}

theorem i64_andNot (a b : Int) (h1 : 0 ≤ a) (h2 : a < 9223372036854775808) (h3 : 0 ≤ b) (h4 : b < 9223372036854775808) : bits .andNot .i64 a b = ((a.toNat &&& (18446744073709551615 - b.toNat) : Nat) : Int) := by
  obtain ⟨m, rfl⟩ := Int.eq_ofNat_of_zero_le h1
  obtain ⟨k, rfl⟩ := Int.eq_ofNat_of_zero_le h3
  have hm : (BitVec.ofInt 64 (m : Int)).toNat = m := ofInt_u64 m (by omega)
  have hk : (BitVec.ofInt 64 (k : Int)).toNat = k := ofInt_u64 k (by omega)
  have hlt : m &&& (18446744073709551615 - k) < 2 ^ 63 := Nat.lt_of_le_of_lt Nat.and_le_left (by omega)
  unfold bits
  show IntKind.i64.wrap (((BitVec.ofInt 64 (m : Int)) &&& ~~~ (BitVec.ofInt 64 (k : Int))).toNat : Int) = _
  rw [BitVec.toNat_and, BitVec.toNat_not, hm, hk, Int.toNat_natCast, Int.toNat_natCast]
  show IntKind.i64.wrap ((m &&& (18446744073709551615 - k) : Nat) : Int) = _
  exact IntWalk.i64_in _ (by omega)
theorem y_and {t t' : TypeId} {x y : Operand} {p q : Int} (ho : o.op = .binOp .and t x y t') (hx : ev s x = some (.int .i64 p)) (hy : ev s y = some (.int .i64 q)) (h1 : 0 ≤ p) (h2 : p < 9223372036854775808) (h3 : 0 ≤ q) (h4 : q < 9223372036854775808) : Yields P G n s H o (.int .i64 (iand p q)) :=
  y_bin ho hx hy (by rw [iand_eq, ← i64_and p q h1 h2 h3 h4]; rfl)
theorem y_or {t t' : TypeId} {x y : Operand} {p q : Int} (ho : o.op = .binOp .or t x y t') (hx : ev s x = some (.int .i64 p)) (hy : ev s y = some (.int .i64 q)) (h1 : 0 ≤ p) (h2 : p < 9223372036854775808) (h3 : 0 ≤ q) (h4 : q < 9223372036854775808) : Yields P G n s H o (.int .i64 (ior p q)) :=
  y_bin ho hx hy (by rw [ior_eq, ← i64_or p q h1 h2 h3 h4]; rfl)
theorem y_andNot {t t' : TypeId} {x y : Operand} {p q : Int} (ho : o.op = .binOp .andNot t x y t') (hx : ev s x = some (.int .i64 p)) (hy : ev s y = some (.int .i64 q)) (h1 : 0 ≤ p) (h2 : p < 9223372036854775808) (h3 : 0 ≤ q) (h4 : q < 9223372036854775808) : Yields P G n s H o (.int .i64 (iclr p q)) :=
  y_bin ho hx hy (by rw [iclr_eq, ← i64_andNot p q h1 h2 h3 h4]; rfl)
theorem y_bits {op : BinOp} {t t' : TypeId} {x y : Operand} {k : IntKind} {p q : Int} (ho : o.op = .binOp op t x y t') (hx : ev s x = some (.int k p)) (hy : ev s y = some (.int k q)) (hop : (match op with | .and | .or | .xor | .andNot => true | _ => false) = true) : Yields P G n s H o (.int k (ibits op k p q)) :=
  y_bin ho hx hy (by rw [ibits_eq]; cases op <;> first | (cases hop; done) | (simp only [eqGuard, binOp]; simp; rfl))
/-- A shift to the right by a number that is told. -/
theorem y_shr {t t' : TypeId} {x y : Operand} {k k' : IntKind} {p q : Int} {m : Nat} (ho : o.op = .binOp .shr t x y t') (hx : ev s x = some (.int k p)) (hy : ev s y = some (.int k' q)) (hq : q = m) (hm : Nat.ble m k.bits = true) : Yields P G n s H o (.int k (p / 2 ^ m)) := by
  subst hq
  have hm' := Nat.le_of_ble_eq_true hm
  refine y_bin ho hx hy ?_
  have e : min ((m : Int).toNat) k.bits = m := by rw [Int.toNat_natCast]; exact Nat.min_eq_left hm'
  have e2 : p.fdiv (2 ^ m) = p / 2 ^ m := Int.fdiv_eq_ediv_of_nonneg _ (by exact_mod_cast Nat.zero_le (2 ^ m))
  have e3 : ¬ ((m : Int) < 0) := by omega
  simp only [eqGuard, binOp, Op.shift, e3, if_false, e, e2]
  simp
  rfl
theorem y_shl {t t' : TypeId} {x y : Operand} {k k' : IntKind} {p q : Int} {m : Nat} (ho : o.op = .binOp .shl t x y t') (hx : ev s x = some (.int k p)) (hy : ev s y = some (.int k' q)) (hq : q = m) (hm : Nat.ble m k.bits = true) (hf : Fits k (p * 2 ^ m)) : Yields P G n s H o (.int k (p * 2 ^ m)) := by
  subst hq
  have hm' := Nat.le_of_ble_eq_true hm
  refine y_bin ho hx hy ?_
  have e : min ((m : Int).toNat) k.bits = m := by rw [Int.toNat_natCast]; exact Nat.min_eq_left hm'
  have e3 : ¬ ((m : Int) < 0) := by omega
  simp only [eqGuard, binOp, Op.shift, e3, if_false, e, hf.wrap]
  simp
  rfl

theorem sl_split_not {i d : Nat} {b c : Bool} {o' : Oper} (hg : o.guard = some (i, b)) (ho : ops[i]? = some o') (hd : o'.dst = some d) (hl : look s d = some (.bool (!c)))
    (ht : c = false → SL P G n ops Q (o :: rest) ((d, .bool true) :: s) H) (hf : c = true → SL P G n ops Q (o :: rest) ((d, .bool false) :: s) H) : SL P G n ops Q (o :: rest) s H := sl_split hg ho hd hl (fun h => ht (by simpa using h)) (fun h => hf (by simpa using h))
theorem sq_split_not {Q : Fm → Prop} {i d : Nat} {b c : Bool} {o' : Oper} (hg : o.guard = some (i, b)) (ho : ops[i]? = some o') (hd : o'.dst = some d) (hl : look s d = some (.bool (!c)))
    (ht : c = false → SQ P G n ops Q H (o :: rest) ((d, .bool true) :: s)) (hf : c = true → SQ P G n ops Q H (o :: rest) ((d, .bool false) :: s)) : SQ P G n ops Q H (o :: rest) s := sq_split hg ho hd hl (fun h => ht (by simpa using h)) (fun h => hf (by simpa using h))
theorem sw_cond_nb {c : Operand} {x y : Code} {b : Bool} (hc : ev s c = some (.bool (!b))) (ht : b = false → SW P G n x Q s H) (hf : b = true → SW P G n y Q s H) : SW P G n (.cond c x y) Q s H := sw_cond hc (fun h => ht (by simpa using h)) (fun h => hf (by simpa using h))
theorem ri_t {k : IntKind} {p : Prop} [Decidable p] {a b c : Int} (h : p) (e : c = a) : resV [.int k c] = .int k (if p then a else b) := by rw [if_pos h, e]; rfl
theorem ri_f {k : IntKind} {p : Prop} [Decidable p] {a b c : Int} (h : ¬ p) (e : c = b) : resV [.int k c] = .int k (if p then a else b) := by rw [if_neg h, e]; rfl
end
theorem Holds.ext {G : Ctx} {H : List Ent} {w w' : World} (h : Holds G H w) (hb : Below w.heap.size w w') : Holds G H w' :=
  ⟨h.below.trans (hb.mono h.base), Nat.le_trans h.base hb.size, fun x hx => Ent.ok_of (h.ok x hx) fun k hk => hb.block k (Ent.ok_lt (h.ok x hx) hk).2, h.apart⟩
/-- Contracts told the other way. -/
theorem sv_of_calls {P : Program} {G : Ctx} {f : FuncId} {args : List Value} {H : List Ent} {v : Value} (hc : Callee P f) (h : ∀ w, Holds G H w → Calls P f args.toArray w fun e w' => e = .returned v ∧ Below w.heap.size w w') : SV P G f args H v :=
  ⟨hc, fun w hw => (h w hw).mono fun _ _ ⟨he, hb⟩ => ⟨v, H, he, hw.ext hb, rfl, rfl⟩⟩
theorem calls_of_sv {P : Program} {f : FuncId} {args : List Value} {W : World} {v : Value} (h : SV P ⟨W.heap.size, W⟩ f args [] v) : Calls P f args.toArray W fun e w' => e = .returned v ∧ Below W.heap.size W w' :=
  (h.2 W ⟨Below.refl _ _, Nat.le_refl _, fun _ hx => by (cases hx), List.Pairwise.nil⟩).mono fun _ _ ⟨_, _, he, hw, e1, _⟩ => ⟨by rw [he, e1], hw.below⟩
theorem RdC.top {W : World} {H : List Ent} {a : Option Addr} {xs : List Value} (h : At W a xs) : RdC ⟨W.heap.size, W⟩ H a xs := ⟨Rd.top h rfl⟩
end Go.Sx
