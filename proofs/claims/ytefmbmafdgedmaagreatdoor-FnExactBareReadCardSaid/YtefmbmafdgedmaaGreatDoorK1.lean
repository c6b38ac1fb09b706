/- Whence the words of a program came, plainly. Conditions: none. -/
import Derived.Test.YtefmbmafdgedmaaGreatDoorKy
import Derived.Test.YtefmbmafdgedmaaGreatDoorKo
import Derived.Test.YtefmbmafdgedmaaGreatDoorKn
import Derived.Test.YtefmbmafdgedmaaGreatDoorKq
import Derived.Test.YtefmbmafdgedmaaGreatDoorKr
set_option linter.unusedVariables false
set_option linter.unusedSimpArgs false
namespace Go.Proofs.YtefmbmafdgedmaaGreatDoor
section
end
section
set_option maxRecDepth 100000
set_option maxHeartbeats 4000000
end
section
set_option maxRecDepth 100000
set_option maxHeartbeats 4000000
end
section
set_option maxRecDepth 100000
set_option maxHeartbeats 4000000
end
section
end
section
end
section
end
end Go.Proofs.YtefmbmafdgedmaaGreatDoor
