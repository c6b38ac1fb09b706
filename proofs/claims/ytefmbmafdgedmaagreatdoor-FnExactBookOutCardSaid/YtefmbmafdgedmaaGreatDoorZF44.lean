/- The law FnExactBookOf: what it answers. Conditions: none. -/
import Derived.Test.YtefmbmafdgedmaaGreatDoorK32
import Derived.Test.YtefmbmafdgedmaaGreatDoorK13
import Derived.Test.YtefmbmafdgedmaaGreatDoorK21
set_option linter.unusedVariables false
set_option linter.unusedSimpArgs false
namespace Go.Proofs.YtefmbmafdgedmaaGreatDoor
set_option maxRecDepth 100000
set_option maxHeartbeats 8000000
end Go.Proofs.YtefmbmafdgedmaaGreatDoor
