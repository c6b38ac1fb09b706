/- What programs say, as they are and turned into lines without types; what texts say, plainly. Conditions: none. -/
import Derived.Test.YtcigkafioinfoaaGreatDoorKw
import Derived.Test.YtcigkafioinfoaaGreatDoorKr
import Derived.Test.YtcigkafioinfoaaGreatDoorKu
import Derived.Test.YtcigkafioinfoaaGreatDoorKq
set_option linter.unusedVariables false
set_option linter.unusedSimpArgs false
namespace Go.Proofs.YtcigkafioinfoaaGreatDoor
section
theorem xx_ {s : Sl} (h : sok s = true) : emT s = ab1_ (bof s) := by unfold emT ab1_; rw [if_pos h]
end
section
set_option maxRecDepth 100000
set_option maxHeartbeats 4000000
end
section
set_option maxRecDepth 100000
set_option maxHeartbeats 4000000
end
end Go.Proofs.YtcigkafioinfoaaGreatDoor
