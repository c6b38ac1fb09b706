/- Lines are read: the program's. Conditions: none. -/
import Derived.Test.YtefmbmafdgedmaaGreatDoorMt
import Derived.Test.YtefmbmafdgedmaaGreatDoorMn
import Derived.Test.YtefmbmafdgedmaaGreatDoorMl
set_option linter.unusedVariables false
set_option linter.unusedSimpArgs false
namespace Go.Proofs.YtefmbmafdgedmaaGreatDoor
section
set_option maxRecDepth 100000
set_option maxHeartbeats 8000000
end
section
set_option maxRecDepth 100000
set_option maxHeartbeats 8000000
end
end Go.Proofs.YtefmbmafdgedmaaGreatDoor
