/- Room made for pages. Conditions: none. -/
import Derived.Test.YtcigkafioinfoaaGreatDoorKg
import Derived.Test.YtcigkafioinfoaaGreatDoorKb
import Derived.Test.YtcigkafioinfoaaGreatDoorK15
import Derived.Test.YtcigkafioinfoaaGreatDoorK12
import Derived.Test.YtcigkafioinfoaaGreatDoorK13
import Derived.Test.YtcigkafioinfoaaGreatDoorK14
import Derived.Test.YtcigkafioinfoaaGreatDoorK10
set_option linter.unusedVariables false
set_option linter.unusedSimpArgs false
namespace Go.Proofs.YtcigkafioinfoaaGreatDoor
section
set_option maxRecDepth 100000
set_option maxHeartbeats 4000000
end
section
set_option maxRecDepth 100000
set_option maxHeartbeats 4000000
end
section
set_option maxRecDepth 100000
set_option maxHeartbeats 4000000
end
section
set_option maxRecDepth 100000
end
end Go.Proofs.YtcigkafioinfoaaGreatDoor
