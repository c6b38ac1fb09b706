/- What the exact laws do with lists of lines without types. Conditions: none. -/
import Derived.Test.YtcigkafioinfoaaGreatDoorKm
import Derived.Test.YtcigkafioinfoaaGreatDoorKr
import Derived.Test.YtcigkafioinfoaaGreatDoorKq2
set_option linter.unusedVariables false
set_option linter.unusedSimpArgs false
namespace Go.Proofs.YtcigkafioinfoaaGreatDoor
section
set_option maxRecDepth 100000
set_option maxHeartbeats 4000000
/-! lists -/
end
end Go.Proofs.YtcigkafioinfoaaGreatDoor
