/- slices.EqualFunc over rows that hold the same; slices.Equal of the same. -/
import Derived.Test.YtflmckoolagikaaDoorSxB
import Derived.Test.YtflmckoolagikaaDoorSxp
import Derived.Test.YtflmckoolagikaaDoorSlices
namespace Go.Proofs.YtflmckoolagikaaDoor
open Go Go.RowKit Go.Fw Go.Sx
set_option maxRecDepth 100000
set_option maxHeartbeats 1000000
attribute [local irreducible] SW SL SQ AtQ SV SC BB LD PK Yields SO SOT SOA SY
theorem eqI_sv (G : Ctx) (H : List Ent) (x y : Rx Int) (hx : Sl ints G H x) (hy : Sl ints G H y) (he : x.2.2 = y.2.2) : SV Tryd.prog G 15 [rxV x, rxV y] H (.bool true) := by
  obtain ⟨a, c, L⟩ := x
  obtain ⟨a2, c2, L2⟩ := y
  dsimp only at he
  subst he
  have h : ∀ w, Holds G H w → Calls Tryd.prog 15 #[.slice a L.length c, .slice a2 L.length c2] w fun e w' => e = .returned (.bool (decide (L = L))) ∧ Below w.heap.size w w' := fun w hw => eqInts_any L L a a2 _ _ c c2 w rfl rfl (hx w hw).2.1 (hx w hw).2.1 (hx w hw).2.2 (hy w hw).2.2
  rw [decide_eq_true rfl] at h
  exact sv_of_calls (callee_of Tryd.func15 rfl rfl) h
end Go.Proofs.YtflmckoolagikaaDoor
