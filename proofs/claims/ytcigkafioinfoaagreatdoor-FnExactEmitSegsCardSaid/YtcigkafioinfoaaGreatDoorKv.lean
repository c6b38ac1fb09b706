/- What is drawn: two lines without types, a line; the two languages are disjoint. Conditions: none. -/
import Derived.Test.YtcigkafioinfoaaGreatDoorKu
import Derived.Test.YtcigkafioinfoaaGreatDoorKl
set_option linter.unusedVariables false
set_option linter.unusedSimpArgs false
namespace Go.Proofs.YtcigkafioinfoaaGreatDoor
section
set_option maxRecDepth 100000
set_option maxHeartbeats 4000000
end
end Go.Proofs.YtcigkafioinfoaaGreatDoor
