/- Books: lines with what they are turned into, plainly. Conditions: none. -/
import Derived.Test.YtcigkafioinfoaaGreatDoorK11
import Derived.Test.YtcigkafioinfoaaGreatDoorK3
import Derived.Test.YtcigkafioinfoaaGreatDoorKr
set_option linter.unusedVariables false
set_option linter.unusedSimpArgs false
namespace Go.Proofs.YtcigkafioinfoaaGreatDoor
section
set_option maxRecDepth 100000
end
section
set_option maxRecDepth 100000
end
section
set_option maxRecDepth 100000
theorem ack_ (s : Sl) : (emF s).length ≤ 1000 := by
 by_cases h : sok s = true
 ·have := acp_ h; omega
 ·unfold emF; rw [if_neg h]; simp
end
section
set_option maxRecDepth 100000
set_option maxHeartbeats 4000000
end
end Go.Proofs.YtcigkafioinfoaaGreatDoor
