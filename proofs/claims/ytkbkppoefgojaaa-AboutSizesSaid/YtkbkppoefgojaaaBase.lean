/- What the texts of this seat share: slices that read as lists, worlds that only grow, strings as lists of bytes. Nothing here speaks of the program. -/
import Derived.WalkKit
import Derived.WalkSpells
import Derived.WalkLawsBesides
import Derived.Handy
import Derived.Lib.Hide
import Derived.Laws.BitsAllLaws
namespace Go.Fw
open Go Go.RowKit

/-- In w, from address a on, the cells xs. -/
def At (w : World) (a : Option Addr) (xs : List Value) : Prop :=
  xs = [] ∨ ∃ b o, a = some ⟨b, o, none⟩ ∧ b < w.heap.size ∧ ∀ i, i < xs.length → w.cell? ⟨b, o + i, none⟩ = xs[i]?

theorem At.nil (w : World) (a : Option Addr) : At w a [] := .inl rfl

theorem At.mono {w w' : World} {a : Option Addr} {xs : List Value} (h : At w a xs) (hb : Below w.heap.size w w') : At w' a xs := by
  rcases h with h | ⟨b, o, ha, hlt, hc⟩
  · exact .inl h
  · exact .inr ⟨b, o, ha, Nat.lt_of_lt_of_le hlt hb.size, fun i hi => (hb.cell (p := ⟨b, o + i, none⟩) hlt).trans (hc i hi)⟩

theorem ext_trans {a b c : World} (h : Below a.heap.size a b) (k : Below b.heap.size b c) : Below a.heap.size a c :=
  h.trans (k.mono h.size)

/-- The cell of place k. -/
theorem At.get {w : World} {a : Option Addr} {xs : List Value} (h : At w a xs) (hne : xs ≠ []) :
    ∃ b o, a = some ⟨b, o, none⟩ ∧ b < w.heap.size ∧ ∀ i, i < xs.length → w.cell? ⟨b, o + i, none⟩ = xs[i]? := by
  rcases h with h | h
  · exact absurd h hne
  · exact h

abbrev ints (xs : List Int) : List Value := xs.map (Value.int .i64)
abbrev octs (xs : List Int) : List Value := xs.map (Value.int .u8)
abbrev strs (xs : List ByteArray) : List Value := xs.map Value.string

theorem At.int {w : World} {a : Option Addr} {k : IntKind} {xs : List Int} (h : At w a (xs.map (Value.int k))) {i : Nat} (hi : i < xs.length) :
    ∃ b o, a = some ⟨b, o, none⟩ ∧ b < w.heap.size ∧ ∀ i, i < xs.length → w.cell? ⟨b, o + i, none⟩ = some (.int k (xs.getD i 0)) := by
  obtain ⟨b, o, ha, hb, hc⟩ := h.get (by intro e; have := congrArg List.length e; simp at this; subst this; simp at hi)
  refine ⟨b, o, ha, hb, fun i hi => ?_⟩
  rw [hc i (by simpa using hi)]
  simp [List.getD, List.getElem?_eq_getElem hi]

theorem At.str {w : World} {a : Option Addr} {xs : List ByteArray} (h : At w a (strs xs)) {i : Nat} (hi : i < xs.length) :
    ∃ b o, a = some ⟨b, o, none⟩ ∧ b < w.heap.size ∧ ∀ i, i < xs.length → w.cell? ⟨b, o + i, none⟩ = some (.string (xs.getD i ByteArray.empty)) := by
  obtain ⟨b, o, ha, hb, hc⟩ := h.get (by intro e; have := congrArg List.length e; simp at this; subst this; simp at hi)
  refine ⟨b, o, ha, hb, fun i hi => ?_⟩
  rw [hc i (by simpa using hi)]
  simp [List.getD, List.getElem?_eq_getElem hi]

/-- A new block reads as it was laid. -/
theorem At.new (w : World) (cs : Array Value) (t : TypeId) : At (w.alloc (.cells cs t)) (some ⟨w.heap.size, 0, none⟩) cs.toList := by
  rcases Nat.eq_zero_or_pos cs.size with h | h
  · left; exact List.eq_nil_of_length_eq_zero (by simpa using h)
  · right
    refine ⟨_, _, rfl, by simp, fun i hi => ?_⟩
    simp [go_sem]

/-- What a call owns reads as it is owned. -/
theorem At.own {w : World} {B : Nat} {e : TypeId} {v : Value} {n : Nat} {xs : List Value} (h : w.ownsRow B e 1 v n xs) :
    ∃ a c, v = .slice a n c ∧ At w a xs := by
  obtain ⟨hl, h | ⟨g, cap, cur, hv, hg, hh, hn, hm, hs, ht⟩⟩ := h
  · obtain ⟨rfl, rfl⟩ := h
    exact ⟨_, _, rfl, .inl (List.eq_nil_of_length_eq_zero (by simpa using hl))⟩
  · have hlt : g < w.heap.size := by
      rcases Nat.lt_or_ge g w.heap.size with h | h
      · exact h
      · rw [Array.getElem?_eq_none (by omega)] at hh; cases hh
    refine ⟨_, _, hv, .inr ⟨g, 0, rfl, hlt, fun i hi => ?_⟩⟩
    rw [Nat.zero_add]
    have := World.ownsRow.cellAt (w := w) (base := B) (e := e) (size := 1) (g := g) (n := n) (cap := cap) (xs := xs) ⟨hl, .inr ⟨g, cap, cur, rfl, hg, hh, hn, hm, hs, ht⟩⟩ i (by omega)
    exact this

theorem ret_str {s t : ByteArray} (h : s = t) : Ending.returned (.string s) = .returned (.string t) := by rw [h]
theorem ret_int {k : IntKind} {a b : Int} (h : a = b) : Ending.returned (.int k a) = .returned (.int k b) := by rw [h]
theorem ret_bool {a b : Bool} (h : a = b) : Ending.returned (.bool a) = .returned (.bool b) := by rw [h]

theorem ret2 {a b c d : Value} (h1 : a = c) (h2 : b = d) : Ending.returned (.tuple #[a, b]) = .returned (.tuple #[c, d]) := by rw [h1, h2]
theorem ret3 {a b c d e f : Value} (h1 : a = d) (h2 : b = e) (h3 : c = f) : Ending.returned (.tuple #[a, b, c]) = .returned (.tuple #[d, e, f]) := by rw [h1, h2, h3]

theorem _root_.Go.RowKit.Below.drewN {B : Nat} {a w : World} (h : Below B a w) (n : Nat) : Below B a (w.drewN n) := ⟨h.os, h.tape, h.output, h.size, h.block⟩

/-- int's or and and of numbers that are not negative. -/
theorem i64_or (a b : Int) (h1 : 0 ≤ a) (h2 : a < 9223372036854775808) (h3 : 0 ≤ b) (h4 : b < 9223372036854775808) : bits .or .i64 a b = ((a.toNat ||| b.toNat : Nat) : Int) := by
  obtain ⟨m, rfl⟩ := Int.eq_ofNat_of_zero_le h1
  obtain ⟨n, rfl⟩ := Int.eq_ofNat_of_zero_le h3
  have hm : (BitVec.ofInt 64 (m : Int)).toNat = m := ofInt_u64 m (by omega)
  have hn : (BitVec.ofInt 64 (n : Int)).toNat = n := ofInt_u64 n (by omega)
  have hlt : m ||| n < 2 ^ 63 := Nat.or_lt_two_pow (by omega) (by omega)
  unfold bits
  show IntKind.i64.wrap (((BitVec.ofInt 64 (m : Int)) ||| (BitVec.ofInt 64 (n : Int))).toNat : Int) = _
  rw [BitVec.toNat_or, hm, hn, Int.toNat_natCast, Int.toNat_natCast]
  exact IntWalk.i64_in _ (by omega)
theorem i64_and (a b : Int) (h1 : 0 ≤ a) (h2 : a < 9223372036854775808) (h3 : 0 ≤ b) (h4 : b < 9223372036854775808) : bits .and .i64 a b = ((a.toNat &&& b.toNat : Nat) : Int) := by
  obtain ⟨m, rfl⟩ := Int.eq_ofNat_of_zero_le h1
  obtain ⟨n, rfl⟩ := Int.eq_ofNat_of_zero_le h3
  have hm : (BitVec.ofInt 64 (m : Int)).toNat = m := ofInt_u64 m (by omega)
  have hn : (BitVec.ofInt 64 (n : Int)).toNat = n := ofInt_u64 n (by omega)
  have hlt : m &&& n < 2 ^ 63 := Nat.and_lt_two_pow _ (by omega)
  unfold bits
  show IntKind.i64.wrap (((BitVec.ofInt 64 (m : Int)) &&& (BitVec.ofInt 64 (n : Int))).toNat : Int) = _
  rw [BitVec.toNat_and, hm, hn, Int.toNat_natCast, Int.toNat_natCast]
  exact IntWalk.i64_in _ (by omega)
theorem shl_or (a b : Nat) (ha : a < 256) (hb : b < 256) : bits .or .i64 ((a : Int) * 256) (b : Int) = 256 * (a : Int) + b := by
  rw [i64_or _ _ (by omega) (by omega) (by omega) (by omega), show ((a : Int) * 256).toNat = a * 256 from by omega, Int.toNat_natCast, nat_join 8 (a * 256) b (by omega) (by omega)]
  omega

end Go.Fw
