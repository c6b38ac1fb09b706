/- What the exact laws do with pages, and lists of them: size, copies, sameness. Conditions: none. -/
import Derived.Test.YtefmbmafdgedmaaGreatDoorK11
import Derived.Test.YtefmbmafdgedmaaGreatDoorK12
set_option linter.unusedVariables false
set_option linter.unusedSimpArgs false
namespace Go.Proofs.YtefmbmafdgedmaaGreatDoor
section
set_option maxRecDepth 100000
set_option maxHeartbeats 4000000
/-! lists -/
end
end Go.Proofs.YtefmbmafdgedmaaGreatDoor
