/- What is drawn: two lines without types, a line; the two languages are disjoint. Conditions: none. -/
import Derived.Test.YtefmbmafdgedmaaGreatDoorKu
import Derived.Test.YtefmbmafdgedmaaGreatDoorKl
import Derived.Test.YtefmbmafdgedmaaGreatDoorKq
import Derived.Lib.Split
import Derived.Lib.IndexBytes
import Derived.Test.YtefmbmafdgedmaaGreatDoorKf
import Derived.Lib.SmallJoins
import Derived.Lib.SplitLaws
import Derived.Test.YtefmbmafdgedmaaGreatDoorKn
set_option linter.unusedVariables false
set_option linter.unusedSimpArgs false
namespace Go.Proofs.YtefmbmafdgedmaaGreatDoor
section
set_option maxRecDepth 100000
set_option maxHeartbeats 4000000
end
section
end
section
open Go.RowKit
set_option maxRecDepth 100000
end
section
set_option maxRecDepth 100000
set_option maxHeartbeats 4000000
end
end Go.Proofs.YtefmbmafdgedmaaGreatDoor
