/- Books: lines with what they are turned into, plainly. Conditions: none. -/
import Derived.Test.YtefmbmafdgedmaaGreatDoorK11
import Derived.Test.YtefmbmafdgedmaaGreatDoorK1
import Derived.Test.YtefmbmafdgedmaaGreatDoorKr
set_option linter.unusedVariables false
set_option linter.unusedSimpArgs false
namespace Go.Proofs.YtefmbmafdgedmaaGreatDoor
section
set_option maxRecDepth 100000
end
section
set_option maxRecDepth 100000
end
section
set_option maxRecDepth 100000
end
section
set_option maxRecDepth 100000
set_option maxHeartbeats 4000000
end
end Go.Proofs.YtefmbmafdgedmaaGreatDoor
