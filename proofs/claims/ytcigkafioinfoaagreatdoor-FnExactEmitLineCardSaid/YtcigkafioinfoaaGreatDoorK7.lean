/- Texts and their lines: the reference's TextOk, TextLines. Conditions: none. -/
import Derived.Test.YtcigkafioinfoaaGreatDoorK6
import Derived.Test.YtcigkafioinfoaaGreatDoorKw
import Derived.Test.YtcigkafioinfoaaGreatDoorKy
set_option linter.unusedVariables false
set_option linter.unusedSimpArgs false
namespace Go.Proofs.YtcigkafioinfoaaGreatDoor
section
set_option maxRecDepth 100000
set_option maxHeartbeats 4000000
end
section
set_option maxRecDepth 100000
set_option maxHeartbeats 4000000
end
end Go.Proofs.YtcigkafioinfoaaGreatDoor
