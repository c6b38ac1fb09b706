/- Programs are drawn, one in ten bent. Conditions: none. -/
import Derived.Test.YtcigkafioinfoaaGreatDoorKs
import Derived.Test.YtcigkafioinfoaaGreatDoorKl
import Derived.Test.YtcigkafioinfoaaGreatDoorKq
set_option linter.unusedVariables false
set_option linter.unusedSimpArgs false
namespace Go.Proofs.YtcigkafioinfoaaGreatDoor
section
set_option maxRecDepth 100000
set_option maxHeartbeats 4000000
end
end Go.Proofs.YtcigkafioinfoaaGreatDoor
