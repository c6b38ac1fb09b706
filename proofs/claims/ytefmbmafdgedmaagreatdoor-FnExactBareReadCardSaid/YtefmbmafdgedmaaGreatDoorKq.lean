/- Programs: lists of lines; whether they are ok; what they are turned into. Conditions: none. -/
import Derived.Test.YtefmbmafdgedmaaGreatDoorKo
import Derived.Test.YtefmbmafdgedmaaGreatDoorKx
import Derived.Test.YtefmbmafdgedmaaGreatDoorKl
set_option linter.unusedVariables false
set_option linter.unusedSimpArgs false
namespace Go.Proofs.YtefmbmafdgedmaaGreatDoor
section
set_option maxRecDepth 100000
set_option maxHeartbeats 4000000
end
section
set_option maxRecDepth 100000
set_option maxHeartbeats 4000000
/-! lists -/
end
section
open Go.ChangeShapes Go.WideShapes Go.ChangeAt Go.RowKit
set_option maxRecDepth 100000
section
variable {H : Type} {enc : TypeId × Value → H} {W : World}
end
end
end Go.Proofs.YtefmbmafdgedmaaGreatDoor
