/- The cell of a package variable, in every world above the first. -/
import Derived.Test.YtflmckoolagikaaDoorCardBase
import Derived.Test.YtflmckoolagikaaDoorSxp
import Derived.Shelf.Vars
namespace Go.Proofs.YtflmckoolagikaaDoor
open Go Go.RowKit Go.Fw Go.Sx
theorem maxLen_cell (W : World) (hS : W.ShapedOpen Tryd.prog) : ∃ m, ∀ H w, Holds ⟨W.heap.size, W⟩ H w → w.cell? ⟨2, 0, none⟩ = some (.int .i64 m) := by
  obtain ⟨m, hm⟩ := cell_of_shapedOpen_int (P := Tryd.prog) (w := W) (g := 2) (t := 3) (zero := #[.int .i64 0]) (k := .i64) hS (by decide +kernel) (by kernel_rfl) rfl (by kernel_rfl) (by kernel_rfl) Tryd.underlying3
  refine ⟨m, fun H w hw => ?_⟩
  have hlt : 2 < W.heap.size := by
    rcases Nat.lt_or_ge 2 W.heap.size with h | h
    · exact h
    · exfalso
      simp [World.cell?, Array.getElem?_eq_none h] at hm
  have e := hw.below.block 2 hlt
  rw [← hm]
  unfold World.cell?
  rw [e]
end Go.Proofs.YtflmckoolagikaaDoor
