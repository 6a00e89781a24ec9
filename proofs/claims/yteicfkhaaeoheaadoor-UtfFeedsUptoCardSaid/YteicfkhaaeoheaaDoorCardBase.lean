/- Of cards: the cells of a datum. -/
import Derived.Test.YteicfkhaaeoheaaDoorLawTr
import Derived.Test.YteicfkhaaeoheaaDoorCards
import Derived.Test.YteicfkhaaeoheaaDoorTie
import Derived.Deep.DeepHandedRow
namespace Go.Proofs.YteicfkhaaeoheaaDoor
open Go
mutual
/-- The cells of a datum without places. -/
def dCells : DataW Unit → List Value
  | .lit (.int k z) => [.int k z]
  | .lit (.bool b) => [.bool b]
  | .agg parts => dCellsAll parts
  | _ => []
def dCellsAll : List (DataW Unit) → List Value
  | [] => []
  | d :: r => dCells d ++ dCellsAll r
end
end Go.Proofs.YteicfkhaaeoheaaDoor
