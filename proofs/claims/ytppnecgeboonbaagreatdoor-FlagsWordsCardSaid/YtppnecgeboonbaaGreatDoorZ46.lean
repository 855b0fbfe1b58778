/- The reference of layer 7: Star on matrices where no two steps meet. -/
import Derived.Test.YtppnecgeboonbaaGreatDoorZ44
namespace Go.Proofs.YtppnecgeboonbaaGreatDoor
set_option maxRecDepth 100000
set_option linter.unusedVariables false
open Go.RowKit
end Go.Proofs.YtppnecgeboonbaaGreatDoor
