/- Texts and their lines, plainly. Conditions: none. -/
import Derived.Test.YtcigkafioinfoaaGreatDoorKq
import Derived.Lib.Split
import Derived.Lib.IndexBytes
import Derived.Test.YtcigkafioinfoaaGreatDoorKf
import Derived.Lib.SmallJoins
import Derived.Lib.SplitLaws
import Derived.Test.YtcigkafioinfoaaGreatDoorKn
set_option linter.unusedVariables false
set_option linter.unusedSimpArgs false
namespace Go.Proofs.YtcigkafioinfoaaGreatDoor
section
end
section
open Go.RowKit
set_option maxRecDepth 100000
end
section
set_option maxRecDepth 100000
set_option maxHeartbeats 4000000
end
end Go.Proofs.YtcigkafioinfoaaGreatDoor
