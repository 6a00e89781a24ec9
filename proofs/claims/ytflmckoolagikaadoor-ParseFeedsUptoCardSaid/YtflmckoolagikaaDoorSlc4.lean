/- farref.KeySaid, slc.all, slc.All, farref.KeysText: walks. -/
import Derived.Test.YtflmckoolagikaaDoorSlc2
namespace Go.Proofs.YtflmckoolagikaaDoor
open Go Go.RowKit Go.Fw Go.Sx
set_option maxRecDepth 100000
set_option maxHeartbeats 2000000
attribute [local irreducible] SW SL SQ AtQ SV SC BB LD PK Yields SO SOT SOA SY
theorem bytes_sv (G : Ctx) (H : List Ent) (xs : List Int) {vs : List Value} (a : Option Addr) (n c : Nat) [h1 : RdC G H a vs] (hv : vs = ints xs) (hn : n = xs.length) (hl : xs.length ≤ 100000) (ho : ∀ x ∈ xs, Oct x) : SV Tryd.prog G 47 [.slice a n c] H (.string (strOfNums xs)) := by
  subst hv
  have e : bytesOf xs = strOfNums xs := by
    have : xs.map (· % 256) = xs := by
      refine (List.map_congr_left fun x hx => ?_).trans (List.map_id _)
      have := ho x hx
      show x % 256 = x
      exact Int.emod_eq_of_lt this.1 (by have := this.2; omega)
    first | (unfold bytesOf; rw [this]) | skip
  rw [← e]
  exact sv_of_calls (callee_of Tryd.func47 rfl rfl) fun w hw => bytes_any xs a n c w hn hl (h1.here w hw)
end Go.Proofs.YtflmckoolagikaaDoor
