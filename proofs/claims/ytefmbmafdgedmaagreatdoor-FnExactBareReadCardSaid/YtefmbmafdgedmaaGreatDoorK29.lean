/- Lists of pages, marked. Conditions: none. -/
import Derived.Test.YtefmbmafdgedmaaGreatDoorK20
import Derived.Test.YtefmbmafdgedmaaGreatDoorK21
set_option linter.unusedVariables false
set_option linter.unusedSimpArgs false
namespace Go.Proofs.YtefmbmafdgedmaaGreatDoor
section
open Go.RowKit
set_option maxRecDepth 100000
set_option maxHeartbeats 4000000
end
end Go.Proofs.YtefmbmafdgedmaaGreatDoor
