/- Lines, drawn and torn. Conditions: none. -/
import Derived.Test.YtefmbmafdgedmaaGreatDoorK10
import Derived.Test.YtefmbmafdgedmaaGreatDoorK7
set_option linter.unusedVariables false
set_option linter.unusedSimpArgs false
namespace Go.Proofs.YtefmbmafdgedmaaGreatDoor
section
set_option maxRecDepth 100000
set_option maxHeartbeats 4000000
end
section
set_option maxRecDepth 100000
set_option maxHeartbeats 4000000
end
section
set_option maxRecDepth 100000
set_option maxHeartbeats 4000000
end
end Go.Proofs.YtefmbmafdgedmaaGreatDoor
