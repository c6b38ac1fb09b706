/- Places of words: the same, marked, held. Conditions: none. -/
import Derived.Test.YtefmbmafdgedmaaGreatDoorN20
import Derived.Test.YtefmbmafdgedmaaGreatDoorN4
import Derived.Test.YtefmbmafdgedmaaGreatDoorN1
import Derived.Test.YtefmbmafdgedmaaGreatDoorN21
import Derived.Test.YtefmbmafdgedmaaGreatDoorN13
set_option linter.unusedVariables false
set_option linter.unusedSimpArgs false
namespace Go.Proofs.YtefmbmafdgedmaaGreatDoor
section
open Go.RowKit
set_option maxRecDepth 100000
set_option maxHeartbeats 4000000
end
section
set_option maxRecDepth 100000
set_option maxHeartbeats 4000000
end
section
open Go.RowKit
set_option maxRecDepth 100000
end
section
set_option maxRecDepth 100000
set_option maxHeartbeats 4000000
end
end Go.Proofs.YtefmbmafdgedmaaGreatDoor
