/- What programs say, as they are and turned into lines without types; what texts say, plainly. Conditions: none. -/
import Derived.Test.YtpikbndepapbhabGreatDoorKw
import Derived.Test.YtpikbndepapbhabGreatDoorKr
import Derived.Test.YtpikbndepapbhabGreatDoorKu
import Derived.Test.YtpikbndepapbhabGreatDoorKq
set_option linter.unusedVariables false
set_option linter.unusedSimpArgs false
namespace Go.Proofs.YtpikbndepapbhabGreatDoor
section
theorem aav_ {s : Sl} (h : sok s = true) : emT s = ab9_ (bof s) := by unfold emT ab9_; rw [if_pos h]
end
section
set_option maxRecDepth 100000
set_option maxHeartbeats 4000000
end
section
set_option maxRecDepth 100000
set_option maxHeartbeats 4000000
end
end Go.Proofs.YtpikbndepapbhabGreatDoor
