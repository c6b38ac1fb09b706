/- What the exact laws of books with marked arguments share. Conditions: none. -/
import Derived.Test.YtefmbmafdgedmaaGreatDoorK29
import Derived.Test.YtefmbmafdgedmaaGreatDoorK25
import Derived.Test.YtefmbmafdgedmaaGreatDoorK13
import Derived.Test.YtefmbmafdgedmaaGreatDoorK21
set_option linter.unusedVariables false
set_option linter.unusedSimpArgs false
namespace Go.Proofs.YtefmbmafdgedmaaGreatDoor
section
open Go.RowKit
set_option maxRecDepth 100000
end
end Go.Proofs.YtefmbmafdgedmaaGreatDoor
