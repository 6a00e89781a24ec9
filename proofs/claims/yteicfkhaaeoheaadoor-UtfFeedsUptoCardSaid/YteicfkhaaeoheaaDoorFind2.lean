/- find.In: walks. -/
import Derived.Test.YteicfkhaaeoheaaDoorFind
import Derived.Test.YteicfkhaaeoheaaDoorKmpA
namespace Go.Proofs.YteicfkhaaeoheaaDoor
open Go Go.RowKit Go.Fw Go.Sx
set_option maxRecDepth 100000
set_option maxHeartbeats 1000000
attribute [local irreducible] SW SL SQ AtQ SV SC BB LD PK Yields
end Go.Proofs.YteicfkhaaeoheaaDoor
