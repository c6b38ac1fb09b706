/- Parts of the proof, one after another: Lines are read: the program's. | Lines are read: the program's, 2. Conditions: none. -/
import Derived.Test.YteihfmnmpdbkiaaGreatDoorKt
import Derived.Test.YteihfmnmpdbkiaaGreatDoorKn
import Derived.Test.YteihfmnmpdbkiaaGreatDoorKl
set_option linter.unusedVariables false
set_option linter.unusedSimpArgs false
namespace Go.Proofs.YteihfmnmpdbkiaaGreatDoor
section
set_option maxRecDepth 100000
set_option maxHeartbeats 8000000
end

section
set_option maxRecDepth 100000
set_option maxHeartbeats 8000000
end
end Go.Proofs.YteihfmnmpdbkiaaGreatDoor
