/- Rows of numbers and of lines; the first for which something holds. Conditions: none. -/
import Derived.Test.YtefmbmafdgedmaaGreatDoorKj
set_option linter.unusedVariables false
set_option linter.unusedSimpArgs false
namespace Go.Proofs.YtefmbmafdgedmaaGreatDoor
section
set_option maxRecDepth 100000
end
end Go.Proofs.YtefmbmafdgedmaaGreatDoor
