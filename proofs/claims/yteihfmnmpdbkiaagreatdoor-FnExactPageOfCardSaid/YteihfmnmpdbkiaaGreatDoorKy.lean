/- Parts of the proof, one after another: What programs say, as they are and turned into lines without types; what texts say, plainly. | What a text says: the program's BareAll. | What programs say: the program's ProgRun. Conditions: none. -/
import Derived.Test.YteihfmnmpdbkiaaGreatDoorKw
import Derived.Test.YteihfmnmpdbkiaaGreatDoorKr
import Derived.Test.YteihfmnmpdbkiaaGreatDoorKu
import Derived.Test.YteihfmnmpdbkiaaGreatDoorKq
set_option linter.unusedVariables false
set_option linter.unusedSimpArgs false
namespace Go.Proofs.YteihfmnmpdbkiaaGreatDoor
section

end

section
set_option maxRecDepth 100000
set_option maxHeartbeats 4000000
end

section
set_option maxRecDepth 100000
set_option maxHeartbeats 4000000
end
end Go.Proofs.YteihfmnmpdbkiaaGreatDoor
