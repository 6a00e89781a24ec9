/- The table of powers of ten, as the row lays it. -/
import Derived.Test.YthllelffblpdkaaDoorCardM
import Derived.Test.YthllelffblpdkaaDoorArg2
import Derived.Lib.LaidU8
namespace Go.Proofs.YthllelffblpdkaaDoor
open Go Go.RowKit Go.Fw Go.Sx
set_option maxRecDepth 1000000
set_option maxHeartbeats 4000000
theorem tab_reads {P : Program} {W : World} {name : String} {k : IntKind} {zs : List Int} {g : Nat} {t e : TypeId} {n : Nat} (hg : P.globalNamed name = some g) (hty : (P.globals[g]?).map (·.type) = some t) (ht : P.underlying t = some (.array n e)) (he : P.underlying e = some (.int k)) (hce : P.cellsOf e = 1) (hct : P.cellsOf t = n)
    (h : Lib.VarReads P W name (Lib.tabData k zs)) : Lib.TabIs P W name k zs := by
  obtain ⟨g', t', cs, fuel, p, hg', ht', hvar, hd⟩ := h
  obtain rfl := Option.some.inj (hg.symm.trans hg')
  obtain rfl := Option.some.inj (hty.symm.trans ht')
  unfold Lib.TabIs
  rw [hvar, ← Lib.cells_of_tab ht he hce hct hd]
theorem pow10_data : (Rows.laid_internal_strconv_uint64pow10 : DataW Unit) = Lib.tabData .u64 Lib.pow10Tab := by kernel_rfl
theorem pow10_hold {laid : List (String × DataW Unit)} {W : World} (hL : laidMet Tryd.prog laid W) (h1 : ("internal/strconv.uint64pow10", Rows.laid_internal_strconv_uint64pow10) ∈ laid) : ∀ H, Pow10 ⟨W.heap.size, W⟩ H := fun H w hw =>
  Lib.tabBelow_of_tabIs (tab_reads (g := 5) (t := 278) (e := 68) (n := 20) (by kernel_rfl) (by kernel_rfl) Tryd.underlying278 Tryd.underlying68 (by kernel_rfl) (by kernel_rfl) (pow10_data ▸ Lib.laidMet.reads hL h1)) w hw.below
end Go.Proofs.YthllelffblpdkaaDoor
