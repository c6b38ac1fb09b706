/- Programs: lists of lines; whether they are ok; what they are turned into. Conditions: none. -/
import Derived.Test.YtcigkafioinfoaaGreatDoorKo
import Derived.Test.YtcigkafioinfoaaGreatDoorKx
set_option linter.unusedVariables false
set_option linter.unusedSimpArgs false
namespace Go.Proofs.YtcigkafioinfoaaGreatDoor
section
set_option maxRecDepth 100000
set_option maxHeartbeats 4000000
end
end Go.Proofs.YtcigkafioinfoaaGreatDoor
