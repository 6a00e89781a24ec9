/- utf8's two tables, as the row lays them. -/
import Derived.Test.YteicfkhaaeoheaaDoorCardM
import Derived.Test.YteicfkhaaeoheaaDoorSxB
import Derived.Test.YteicfkhaaeoheaaDoorShelf
import Derived.Lib.LaidU8
namespace Go.Proofs.YteicfkhaaeoheaaDoor
open Go Go.RowKit Go.Fw Go.Sx
set_option maxRecDepth 1000000
set_option maxHeartbeats 4000000
theorem u8_first : Rows.laid_unicode_utf8_first = Lib.firstData := by kernel_rfl
theorem u8_accept : (Rows.laid_unicode_utf8_acceptRanges : DataW Unit) = Lib.acceptData := by kernel_rfl
theorem u8Tabs {laid : List (String × DataW Unit)} {W : World} (hL : laidMet Tryd.prog laid W) (h1 : ("unicode/utf8.first", Rows.laid_unicode_utf8_first) ∈ laid) (h2 : ("unicode/utf8.acceptRanges", Rows.laid_unicode_utf8_acceptRanges) ∈ laid) : Lib.Utf8Tabs 0 1 W :=
  utf8Tabs_of_reads { Tryd.lays197 with } ⟨by kernel_rfl, by kernel_rfl, by kernel_rfl, by kernel_rfl, by kernel_rfl, by kernel_rfl, by kernel_rfl⟩ (u8_first ▸ Lib.laidMet.reads hL h1) (u8_accept ▸ Lib.laidMet.reads hL h2)
theorem u8_hold {W : World} (h : Lib.Utf8Tabs 0 1 W) : ∀ H w, Holds ⟨W.heap.size, W⟩ H w → Lib.Utf8Tabs 0 1 w := by
  intro H w hw
  have key : ∀ b c v, W.cell? ⟨b, c, none⟩ = some v → w.cell? ⟨b, c, none⟩ = some v := fun b c v hm => by
    have hlt : b < W.heap.size := by
      rcases Nat.lt_or_ge b W.heap.size with h | h
      · exact h
      · exfalso
        simp [World.cell?, Array.getElem?_eq_none h] at hm
    have e := hw.below.block b hlt
    rw [← hm]
    unfold World.cell?
    rw [e]
  exact ⟨fun c hc => key _ _ _ (h.1 c hc), fun i hi => ⟨key _ _ _ (h.2 i hi).1, key _ _ _ (h.2 i hi).2⟩⟩
end Go.Proofs.YteicfkhaaeoheaaDoor
