/- Of cards: the cells of a datum. -/
import Derived.Test.YtflmckoolagikaaDoorLawTr
import Derived.Test.YtflmckoolagikaaDoorCards
import Derived.Test.YtflmckoolagikaaDoorTie
import Derived.Deep.DeepHandedRow
namespace Go.Proofs.YtflmckoolagikaaDoor
open Go
mutual
/-- The cells of a datum without places. -/
def dCells : DataW Unit → List Value
  | .lit (.int k z) => [.int k z]
  | .lit (.bool b) => [.bool b]
  | .agg parts => dCellsAll parts
  | _ => []
def dCellsAll : List (DataW Unit) → List Value
  | [] => []
  | d :: r => dCells d ++ dCellsAll r
end
end Go.Proofs.YtflmckoolagikaaDoor
