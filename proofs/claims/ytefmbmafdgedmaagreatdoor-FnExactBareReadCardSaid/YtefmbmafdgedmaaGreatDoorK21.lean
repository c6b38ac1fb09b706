/- Pages as trees of places of one's own. Conditions: none. -/
import Derived.Test.YtefmbmafdgedmaaGreatDoorK18
import Derived.Test.YtefmbmafdgedmaaGreatDoorK17
import Derived.Test.YtefmbmafdgedmaaGreatDoorK20
import Derived.Test.YtefmbmafdgedmaaGreatDoorKj
import Derived.Test.YtefmbmafdgedmaaGreatDoorKr
set_option linter.unusedVariables false
set_option linter.unusedSimpArgs false
namespace Go.Proofs.YtefmbmafdgedmaaGreatDoor
section
open Go.RowKit
set_option maxRecDepth 100000
set_option maxHeartbeats 4000000
end
section
open Go.RowKit
set_option maxRecDepth 100000
set_option maxHeartbeats 8000000
/-! ### markBareS -/
end
section
open Go.RowKit
set_option maxRecDepth 100000
set_option maxHeartbeats 8000000
/-! ### markStmtS -/
end
section
open Go.RowKit
set_option maxRecDepth 100000
end
end Go.Proofs.YtefmbmafdgedmaaGreatDoor
