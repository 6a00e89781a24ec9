/- farref.Between; a text of no bytes. -/
import Derived.Test.YtflmckoolagikaaDoorPen
namespace Go.Proofs.YtflmckoolagikaaDoor
open Go Go.RowKit Go.Fw Go.Sx
theorem size_nil {s : ByteArray} (h : s.size = 0) : s = ⟨#[]⟩ := by
  obtain ⟨d⟩ := s
  congr 1
  exact Array.eq_empty_of_size_eq_zero h
theorem bet_sv (G : Ctx) (H : List Ent) (x lo hi : Int) : SV Tryd.prog G 26 [.int .i64 x, .int .i64 lo, .int .i64 hi] H (.bool (decide (lo ≤ x ∧ x ≤ hi))) := by have h := between_sv G H x lo hi; unfold betB at h; exact h
end Go.Proofs.YtflmckoolagikaaDoor
