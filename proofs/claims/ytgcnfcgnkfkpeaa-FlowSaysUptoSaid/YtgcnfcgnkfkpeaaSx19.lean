/- More rules: words of 64 bits; two structs that may differ. -/
import Derived.Test.YtgcnfcgnkfkpeaaSx18
namespace Go.Sx
open Go Go.RowKit Go.Fw
/-- A power of two. -/
def pw (m : Nat) : Int := 2 ^ m
theorem pw_eq (m : Nat) : pw m = 2 ^ m := rfl
theorem pw_pos (m : Nat) : 0 < pw m := by rw [pw_eq]; exact Int.pow_pos (by omega)
theorem pw_63 {m : Nat} (h : m ≤ 63) : pw m ≤ 9223372036854775808 := by
  rw [pw_eq]
  have : (2 : Nat) ^ m ≤ 2 ^ 63 := Nat.pow_le_pow_right (by omega) h
  have h2 : ((2 ^ m : Nat) : Int) ≤ ((2 ^ 63 : Nat) : Int) := Int.ofNat_le.2 this
  have h3 : ((2 ^ m : Nat) : Int) = (2 : Int) ^ m := by simp
  have h4 : ((2 ^ 63 : Nat) : Int) = 9223372036854775808 := by decide
  omega
attribute [irreducible] pw
theorem pdiv_bd {p : Int} (m : Nat) (h0 : 0 ≤ p) : 0 ≤ p / pw m ∧ p / pw m ≤ p := ⟨Int.ediv_nonneg h0 (Int.le_of_lt (pw_pos m)), Int.ediv_le_self _ h0⟩
section
variable {P : Program} {K : Value → Prop} {x y : Operand} {t : TypeId}
theorem bb_shrN {k k' : IntKind} {p q : Int} (h0 : 0 ≤ q) (h1 : q.toNat ≤ k.bits) (hk : K (.int k (p / pw q.toNat))) : BB P .shr t x y (.int k p) (.int k' q) K := by
  obtain ⟨m, rfl⟩ := Int.eq_ofNat_of_zero_le h0
  rw [Int.toNat_natCast] at h1 hk
  rw [pw_eq] at hk
  exact bb_of (st_shr (Nat.ble_eq_true_of_le h1)) hk
theorem st_shl1 {k' : IntKind} {m : Nat} (hm : m ≤ 63) : still P (do eqGuard .shl t x y (.int .u64 1) (.int k' m); binOp .shl t (.int .u64 1) (.int k' m)) = some (.int .u64 (pw m)) := by
  have hp := pw_63 hm
  have hq := pw_pos m
  have e : min ((m : Int).toNat) 64 = m := by rw [Int.toNat_natCast]; exact Nat.min_eq_left (by omega)
  have e3 : ¬ ((m : Int) < 0) := by omega
  have e4 : IntKind.u64.wrap ((1 : Int) * 2 ^ m) = pw m := by
    rw [Int.one_mul, ← pw_eq]
    exact IntWalk.u64_in _ (by omega)
  simp only [eqGuard, binOp, Op.shift, e3, if_false, IntKind.bits, e, e4]
  simp
  rfl
theorem bb_shl1 {k' : IntKind} {q : Int} (h0 : 0 ≤ q) (h1 : q ≤ 63) (hk : K (.int .u64 (pw q.toNat))) : BB P .shl t x y (.int .u64 1) (.int k' q) K := by
  obtain ⟨m, rfl⟩ := Int.eq_ofNat_of_zero_le h0
  rw [Int.toNat_natCast] at hk
  exact bb_of (st_shl1 (by omega)) hk
/-- The last bit of a word. -/
theorem u64_and1 (p : Int) (h0 : 0 ≤ p) (h1 : p < 18446744073709551616) : bits .and .u64 p 1 = p % 2 := by
  obtain ⟨m, rfl⟩ := Int.eq_ofNat_of_zero_le h0
  have hm : (BitVec.ofInt 64 (m : Int)).toNat = m := ofInt_u64 m (by omega)
  have hn : (BitVec.ofInt 64 ((1 : Nat) : Int)).toNat = 1 := ofInt_u64 1 (by omega)
  unfold bits
  show IntKind.u64.wrap (((BitVec.ofInt 64 (m : Int)) &&& (BitVec.ofInt 64 ((1 : Nat) : Int))).toNat : Int) = _
  rw [BitVec.toNat_and, hm, hn]
  have e : m &&& 1 = m % 2 := Nat.and_one_is_mod m
  rw [e]
  have e2 : (((m % 2 : Nat)) : Int) = (m : Int) % 2 := by omega
  rw [e2]
  exact IntWalk.u64_in _ (by omega)
theorem bb_and1 {p : Int} (h0 : 0 ≤ p) (h1 : p < 18446744073709551616) (hk : K (.int .u64 (p % 2))) : BB P .and t x y (.int .u64 p) (.int .u64 1) K := by
  refine bb_of ?_ hk
  rw [← u64_and1 p h0 h1]
  rfl

/-- Two values: are they equal? -/
def EqVal (P : Program) (d : Nat) (t : TypeId) (u v : Value) (b : Bool) : Prop := ∀ w, (Op.equalIn d t u v).run P w = .ok b w
theorem eqval_int {d : Nat} {k : IntKind} (a b : Int) [h : IntT P t k] : EqVal P (d + 1) t (.int k a) (.int k b) (a == b) := fun w => by rw [run_equalIn_int w d t k k a b h.here]
theorem eqval_str {d : Nat} (a b : ByteArray) [h : StrT P t] : EqVal P (d + 1) t (.string a) (.string b) (a.toList == b.toList) := fun w => by rw [run_equalIn_string w d t a b h.here]
theorem eqval_self {d : Nat} {u : Value} (h : EqSelf P d t u) : EqVal P d t u u true := h
/-- Field by field. -/
inductive EqParts (P : Program) (d : Nat) (cs cs' : List Value) : List Field → Bool → Prop
  | nil : EqParts P d cs cs' [] true
  | eq {f : Field} {fs : List Field} {u v : Value} {b : Bool} (hn : f.name ≠ "_") (h1 : ∀ w, (part f.type cs.toArray f.offset).run P w = .ok u w) (h2 : ∀ w, (part f.type cs'.toArray f.offset).run P w = .ok v w) (he : EqVal P d f.type u v true) (hr : EqParts P d cs cs' fs b) : EqParts P d cs cs' (f :: fs) b
  | ne {f : Field} {fs : List Field} {u v : Value} (hn : f.name ≠ "_") (h1 : ∀ w, (part f.type cs.toArray f.offset).run P w = .ok u w) (h2 : ∀ w, (part f.type cs'.toArray f.offset).run P w = .ok v w) (he : EqVal P d f.type u v false) : EqParts P d cs cs' (f :: fs) false
theorem eqParts_run {d : Nat} {cs cs' : List Value} {fs : List Field} {b : Bool} (h : EqParts P d cs cs' fs b) (w : World) : (Op.eqFields d cs.toArray cs'.toArray fs).run P w = .ok b w := by
  induction h with
  | nil => simp [Op.eqFields]
  | eq hn h1 h2 he _ ih => simp only [Op.eqFields, ne_eq, hn, not_false_eq_true, if_true, Sem.run_bind, h1, h2, Result.andThen_ok, he w, Bool.not_true, Bool.false_eq_true, if_false]; exact ih
  | ne hn h1 h2 he => simp only [Op.eqFields, ne_eq, hn, not_false_eq_true, if_true, Sem.run_bind, h1, h2, Result.andThen_ok, he w, Bool.not_false, Sem.run_pure]
theorem eqval_struct {d : Nat} {cs cs' : List Value} {b : Bool} (ht : P.underlying t = some (.struct (P.fieldsOf t))) (hp : P.stoodInHeld t = false) (h : EqParts P d cs cs' (P.fieldsOf t).toList b) : EqVal P (d + 1) t (.agg cs.toArray) (.agg cs'.toArray) b := fun w => by
  rw [run_equalIn_struct w d t _ _ ht hp]
  exact eqParts_run h w
theorem bb_eqv {cs cs' : Array Value} {b : Bool} (hs : EqVal P 10000 t (.agg cs) (.agg cs') b) (hm : P.eqGuardType P.depth t = false) (hk : K (.bool b)) : BB P .eql t x y (.agg cs) (.agg cs') K := ⟨_, fun w => by
  have h1 := run_eqGuard_agg w .eql t x y cs cs' hm
  have h2 := run_eql_struct w (P := P) t cs cs'
  rw [hs w] at h2
  simp only [Sem.run_bind, h1, Result.andThen_ok, h2], hk⟩
theorem bb_nev {cs cs' : Array Value} {b : Bool} (hs : EqVal P 10000 t (.agg cs) (.agg cs') b) (hm : P.eqGuardType P.depth t = false) (hk : K (.bool (!b))) : BB P .neq t x y (.agg cs) (.agg cs') K := ⟨_, fun w => by
  have h1 := run_eqGuard_agg w .neq t x y cs cs' hm
  have h2 := run_neq_struct w (P := P) t cs cs'
  rw [hs w] at h2
  simp only [Sem.run_bind, h1, Result.andThen_ok, h2], hk⟩
end
end Go.Sx
