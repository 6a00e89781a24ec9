/- find.In: walks. -/
import Derived.Test.YthllelffblpdkaaDoorFind
import Derived.Test.YthllelffblpdkaaDoorKmpA
namespace Go.Proofs.YthllelffblpdkaaDoor
open Go Go.RowKit Go.Fw Go.Sx
set_option maxRecDepth 100000
set_option maxHeartbeats 1000000
attribute [local irreducible] SW SL SQ AtQ SV SC BB LD PK Yields
end Go.Proofs.YthllelffblpdkaaDoor
