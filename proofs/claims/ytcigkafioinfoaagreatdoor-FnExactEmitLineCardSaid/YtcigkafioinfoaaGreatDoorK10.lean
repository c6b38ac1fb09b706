/- What the library's functions answer: strings.Contains for a newline. Conditions: none. -/
import Derived.Test.YtcigkafioinfoaaGreatDoorKw
import Derived.Lib.IndexAny
import Derived.Test.YtcigkafioinfoaaGreatDoorK7
import Derived.Test.YtcigkafioinfoaaGreatDoorKq
import Derived.Test.YtcigkafioinfoaaGreatDoorKh
import Derived.Test.YtcigkafioinfoaaGreatDoorK8
import Derived.Test.YtcigkafioinfoaaGreatDoorK6
import Derived.Test.YtcigkafioinfoaaGreatDoorKo
set_option linter.unusedVariables false
set_option linter.unusedSimpArgs false
namespace Go.Proofs.YtcigkafioinfoaaGreatDoor
section
open Go.RowKit
set_option maxRecDepth 100000
end
section
set_option maxRecDepth 100000
set_option maxHeartbeats 4000000
end
section
set_option maxRecDepth 100000
set_option maxHeartbeats 4000000
end
end Go.Proofs.YtcigkafioinfoaaGreatDoor
