/- What is drawn: programs, and lists of lines without types. Conditions: none. -/
import Derived.Test.YtcigkafioinfoaaGreatDoorKb
import Derived.Test.YtcigkafioinfoaaGreatDoorKr
set_option linter.unusedVariables false
set_option linter.unusedSimpArgs false
namespace Go.Proofs.YtcigkafioinfoaaGreatDoor
section
set_option maxRecDepth 100000
set_option maxHeartbeats 4000000
end
section
set_option maxRecDepth 100000
set_option maxHeartbeats 4000000
end
end Go.Proofs.YtcigkafioinfoaaGreatDoor
