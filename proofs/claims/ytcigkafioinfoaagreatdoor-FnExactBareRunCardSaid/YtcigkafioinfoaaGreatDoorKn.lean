/- What the library's functions answer: strconv.Atoi, strings.Contains; numbers. Conditions: none. -/
import Derived.Test.YtcigkafioinfoaaGreatDoorKf
import Derived.Test.YtcigkafioinfoaaGreatDoorKg
import Derived.Test.YtcigkafioinfoaaGreatDoorKh
import Derived.Test.YtcigkafioinfoaaGreatDoorKd
set_option linter.unusedVariables false
set_option linter.unusedSimpArgs false
namespace Go.Proofs.YtcigkafioinfoaaGreatDoor
section
open Go.RowKit
set_option maxRecDepth 100000
set_option maxHeartbeats 1000000
end
section
set_option maxRecDepth 100000
set_option maxHeartbeats 4000000
end
end Go.Proofs.YtcigkafioinfoaaGreatDoor
