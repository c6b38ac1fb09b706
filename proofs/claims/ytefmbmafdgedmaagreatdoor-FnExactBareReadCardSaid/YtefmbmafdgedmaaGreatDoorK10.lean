/- What the library's functions answer: strings.Contains for a newline. Conditions: none. -/
import Derived.Test.YtefmbmafdgedmaaGreatDoorKv
import Derived.Lib.IndexAny
import Derived.Test.YtefmbmafdgedmaaGreatDoorK7
import Derived.Test.YtefmbmafdgedmaaGreatDoorKq
import Derived.Test.YtefmbmafdgedmaaGreatDoorKh
import Derived.Test.YtefmbmafdgedmaaGreatDoorK6
import Derived.Test.YtefmbmafdgedmaaGreatDoorKo
set_option linter.unusedVariables false
set_option linter.unusedSimpArgs false
namespace Go.Proofs.YtefmbmafdgedmaaGreatDoor
section
open Go.RowKit
set_option maxRecDepth 100000
end
section
set_option maxRecDepth 100000
set_option maxHeartbeats 4000000
end
section
set_option maxRecDepth 100000
set_option maxHeartbeats 4000000
end
end Go.Proofs.YtefmbmafdgedmaaGreatDoor
