/- choice.Ask, farref.AskFor: walks. -/
import Derived.Test.YtflmckoolagikaaDoorChoQ
import Derived.Test.YtflmckoolagikaaDoorIdxG
import Derived.Test.YtflmckoolagikaaDoorSlc4
import Derived.Test.YtflmckoolagikaaDoorShelf
import Derived.Test.YtflmckoolagikaaDoorBet
namespace Go.Proofs.YtflmckoolagikaaDoor
open Go Go.RowKit Go.Fw Go.Sx
set_option maxRecDepth 100000
set_option maxHeartbeats 1000000
attribute [local irreducible] SW SL SQ AtQ SV SC BB LD PK Yields SO SOT SOA SY
theorem joinS_sv (G : Ctx) (H : List Ent) (L : List ByteArray) (sep : ByteArray) {vs : List Value} (a : Option Addr) (n c : Nat) [h1 : RdC G H a vs] (hv : vs = strs L) (hn : n = L.length) (h0 : 1 ≤ n) (hnc : n ≤ c) (hl : (L.map (·.size)).sum + L.length * sep.size ≤ 140737488355328) (hlen : L.length ≤ 1000) : SV Tryd.prog G 83 [.slice a n c, .string sep] H (.string (joinS L sep)) := by
  subst hv hn
  refine sv_of_calls (callee_of Tryd.func83 rfl rfl) fun w hw => ?_
  rcases h1.here w hw with h | ⟨b, off, rfl, hb, hc⟩
  · have : L = [] := by simpa [strs] using h
    subst this
    simp at h0
  · exact Tryd.strings_Join b off c L sep w (fun j x hj => by
      have hj' : j < (strs L).length := by simp [strs]; exact (List.getElem?_eq_some_iff.1 hj).1
      rw [hc j hj']
      simp [strs, hj]) hb (by omega) hnc (Nat.le_trans (join_len L sep) hl)
end Go.Proofs.YtflmckoolagikaaDoor
