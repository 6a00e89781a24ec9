/- The beginning of a row that is held: its piece, and the row made shorter. -/
import Derived.Test.YthllelffblpdkaaDoorSx29
namespace Go.Sx
open Go Go.RowKit Go.Fw
theorem c_sliceTake {P : Program} {G : Ctx} {n : Nat} {s : Fm} {H : List Ent} {o : Oper} {t e sz bytes : Nat} {x : Operand} {hi : Option Operand} {a : Option Addr} {len c : Nat} {h : Int} {xs : List Value} {H' : List Ent} (ho : o.op = .slice t x none hi none) [hT : SliceT P t e sz bytes] [hp : PickOwn H a e sz len c xs H'] (hx : ev s x = some (.slice a len c)) (hh : bnd s len hi = some h) (h1 : 0 ≤ h) (h2 : h ≤ len) : Yields P G n s H o (.slice a h.toNat c) := fun act w ha hw => by
  have hown : w.ownsRow G.B e sz (.slice a len c) len xs := (hw.pick hp.here).ok _ List.mem_cons_self
  rcases hown.2 with ⟨hv, h0⟩ | ⟨g, cap, cur, hv, hbg, hcells, hnc, hcm, hcs, htake⟩
  · subst h0
    obtain ⟨rfl, rfl⟩ : a = none ∧ c = 0 := by simpa [Value.slice.injEq] using hv
    obtain rfl : h = 0 := by omega
    obtain ⟨hu, hsz, -, -⟩ := hT.here
    have hS := hT.size
    unfold execOp; rw [ho]; simp only [ha.ev hx]
    refine run_value ?_
    have hb := run_bounds (P := P) (isSl := true) (w := w) (cap := 0) (lo := none) ha rfl hh (by omega : (0 : Int) ≤ ((0 : Nat) : Int)) (by omega) (by omega)
    cases hq : P.info? e with
    | none => simp [hq] at hS
    | some inf =>
      have hs : inf.size = sz := by simpa [hq] using hS
      have hz : (sizeOf e).run P w = .ok sz w := by simp [sizeOf, typeInfo, program, Sem.run, hq, hs]
      simp only [Option.map_none] at hb
      simp only [Instr.sliceAt, Sem.run_bind, run_underlying hu, Result.andThen_ok, Instr.slice, Option.map_none]
      simp [hb, hz, Sem.run]
  · obtain ⟨rfl, rfl⟩ : a = some ⟨g, 0, none⟩ ∧ c = cap := by simpa [Value.slice.injEq] using hv
    exact y_slice0 ho hx hh h1 (by omega) act w ha hw
theorem Holds.shrinkA {G : Ctx} {H : List Ent} {e sz n c m : Nat} {a : Option Addr} {xs : List Value} {w : World} (h : Holds G (.own e sz a n c xs :: H) w) (hm : m ≤ n) : Holds G (.own e sz a m c (xs.take (m * sz)) :: H) w := by
  have hown : w.ownsRow G.B e sz (.slice a n c) n xs := h.ok _ List.mem_cons_self
  rcases hown.2 with ⟨hv, h0⟩ | ⟨g, cap, cur, hv, -⟩
  · subst h0
    obtain rfl : m = 0 := by omega
    have hx : xs = [] := List.eq_nil_of_length_eq_zero (by simpa using hown.1)
    subst hx
    simpa using h
  · obtain ⟨rfl, rfl⟩ : a = some ⟨g, 0, none⟩ ∧ c = cap := by simpa [Value.slice.injEq] using hv
    exact h.shrink hm
end Go.Sx
