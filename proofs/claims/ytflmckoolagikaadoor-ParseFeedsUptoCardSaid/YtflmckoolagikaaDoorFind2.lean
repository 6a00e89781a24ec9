/- find.In: walks. -/
import Derived.Test.YtflmckoolagikaaDoorFind
import Derived.Test.YtflmckoolagikaaDoorKmpA
namespace Go.Proofs.YtflmckoolagikaaDoor
open Go Go.RowKit Go.Fw Go.Sx
set_option maxRecDepth 100000
set_option maxHeartbeats 1000000
attribute [local irreducible] SW SL SQ AtQ SV SC BB LD PK Yields
end Go.Proofs.YtflmckoolagikaaDoor
