/- What programs say, as they are and turned into lines without types; what texts say, plainly. Conditions: none. -/
import Derived.Test.YtefmbmafdgedmaaGreatDoorNv
import Derived.Test.YtefmbmafdgedmaaGreatDoorNr
import Derived.Test.YtefmbmafdgedmaaGreatDoorNu
import Derived.Test.YtefmbmafdgedmaaGreatDoorNq
import Derived.Test.YtefmbmafdgedmaaGreatDoorNl
set_option linter.unusedVariables false
set_option linter.unusedSimpArgs false
namespace Go.Proofs.YtefmbmafdgedmaaGreatDoor
section
theorem zb_ {s : Sl} (h : sok s = true) : emT s = z6_ (bof s) := by unfold emT z6_; rw [if_pos h]
end
section
set_option maxRecDepth 100000
set_option maxHeartbeats 4000000
end
section
set_option maxRecDepth 100000
set_option maxHeartbeats 4000000
end
section
set_option maxRecDepth 100000
set_option maxHeartbeats 4000000
end
end Go.Proofs.YtefmbmafdgedmaaGreatDoor
