/- What is drawn: two lines without types, a line; the two languages are disjoint. Conditions: none. -/
import Derived.Test.YtpikbndepapbhaaGreatDoorKu
import Derived.Test.YtpikbndepapbhaaGreatDoorKl
set_option linter.unusedVariables false
set_option linter.unusedSimpArgs false
namespace Go.Proofs.YtpikbndepapbhaaGreatDoor
section
set_option maxRecDepth 100000
set_option maxHeartbeats 4000000
end
end Go.Proofs.YtpikbndepapbhaaGreatDoor
