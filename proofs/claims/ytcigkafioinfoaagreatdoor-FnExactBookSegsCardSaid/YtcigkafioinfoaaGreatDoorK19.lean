/- Copies of the exact laws, as trees of places of one's own. Conditions: none. -/
import Derived.Test.YtcigkafioinfoaaGreatDoorK18
import Derived.Test.YtcigkafioinfoaaGreatDoorKm
import Derived.Test.YtcigkafioinfoaaGreatDoorKq2
import Derived.Test.YtcigkafioinfoaaGreatDoorK18b
set_option linter.unusedVariables false
set_option linter.unusedSimpArgs false
namespace Go.Proofs.YtcigkafioinfoaaGreatDoor
section
open Go.RowKit
set_option maxRecDepth 100000
set_option maxHeartbeats 4000000
/-! ### the walks -/
end
end Go.Proofs.YtcigkafioinfoaaGreatDoor
