/- Walks. -/
import Derived.Test.YtppnecgeboonbaaGreatDoorZ39
namespace Go.Proofs.YtppnecgeboonbaaGreatDoor
set_option maxRecDepth 100000
set_option linter.all false
open Go.RowKit
end Go.Proofs.YtppnecgeboonbaaGreatDoor
