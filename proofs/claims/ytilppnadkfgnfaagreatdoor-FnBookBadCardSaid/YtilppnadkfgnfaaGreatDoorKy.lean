/- What programs say, as they are and turned into lines without types; what texts say, plainly. Conditions: none. -/
import Derived.Test.YtilppnadkfgnfaaGreatDoorKw
import Derived.Test.YtilppnadkfgnfaaGreatDoorKr
import Derived.Test.YtilppnadkfgnfaaGreatDoorKu
import Derived.Test.YtilppnadkfgnfaaGreatDoorKq
set_option linter.unusedVariables false
set_option linter.unusedSimpArgs false
namespace Go.Proofs.YtilppnadkfgnfaaGreatDoor
section
theorem r0_ {s : Sl} (h : sok s = true) : emT s = zr_ (bof s) := by unfold emT zr_; rw [if_pos h]
end
section
set_option maxRecDepth 100000
set_option maxHeartbeats 4000000
end
section
set_option maxRecDepth 100000
set_option maxHeartbeats 4000000
end
end Go.Proofs.YtilppnadkfgnfaaGreatDoor
