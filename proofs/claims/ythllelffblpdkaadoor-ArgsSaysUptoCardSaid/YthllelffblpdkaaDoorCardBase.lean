/- Of cards: the cells of a datum. -/
import Derived.Test.YthllelffblpdkaaDoorLawTr
import Derived.Test.YthllelffblpdkaaDoorCards
import Derived.Test.YthllelffblpdkaaDoorTie
import Derived.Deep.DeepHandedRow
namespace Go.Proofs.YthllelffblpdkaaDoor
open Go
mutual
/-- The cells of a datum without places. -/
def dCells : DataW Unit → List Value
  | .lit (.int k z) => [.int k z]
  | .lit (.bool b) => [.bool b]
  | .agg parts => dCellsAll parts
  | _ => []
def dCellsAll : List (DataW Unit) → List Value
  | [] => []
  | d :: r => dCells d ++ dCellsAll r
end
end Go.Proofs.YthllelffblpdkaaDoor
