/- Whence the words of a program came, plainly. Conditions: none. -/
import Derived.Test.YtpikbndepapbhabGreatDoorKy
import Derived.Test.YtpikbndepapbhabGreatDoorKo
import Derived.Test.YtpikbndepapbhabGreatDoorKn
import Derived.Test.YtpikbndepapbhabGreatDoorKq
set_option linter.unusedVariables false
set_option linter.unusedSimpArgs false
namespace Go.Proofs.YtpikbndepapbhabGreatDoor
section
end
section
set_option maxRecDepth 100000
set_option maxHeartbeats 4000000
end
section
set_option maxRecDepth 100000
set_option maxHeartbeats 4000000
end
end Go.Proofs.YtpikbndepapbhabGreatDoor
