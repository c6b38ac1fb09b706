/- What programs say, as they are and turned into lines without types; what texts say, plainly. Conditions: none. -/
import Derived.Test.YtpikbndepapbhaaGreatDoorKw
import Derived.Test.YtpikbndepapbhaaGreatDoorKr
import Derived.Test.YtpikbndepapbhaaGreatDoorKu
import Derived.Test.YtpikbndepapbhaaGreatDoorKq
set_option linter.unusedVariables false
set_option linter.unusedSimpArgs false
namespace Go.Proofs.YtpikbndepapbhaaGreatDoor
section
theorem zx_ {s : Sl} (h : sok s = true) : emT s = afx_ (bof s) := by unfold emT afx_; rw [if_pos h]
end
section
set_option maxRecDepth 100000
set_option maxHeartbeats 4000000
end
section
set_option maxRecDepth 100000
set_option maxHeartbeats 4000000
end
end Go.Proofs.YtpikbndepapbhaaGreatDoor
