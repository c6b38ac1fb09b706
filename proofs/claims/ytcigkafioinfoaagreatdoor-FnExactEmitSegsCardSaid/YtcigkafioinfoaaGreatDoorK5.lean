/- The reference's reader: how far it comes, and how great is what it reads. Conditions: none. -/
import Derived.Test.YtcigkafioinfoaaGreatDoorKd
import Derived.Test.YtcigkafioinfoaaGreatDoorKt
import Derived.Test.YtcigkafioinfoaaGreatDoorK4
import Derived.Test.YtcigkafioinfoaaGreatDoorKi
import Derived.Test.YtcigkafioinfoaaGreatDoorKu
set_option linter.unusedVariables false
set_option linter.unusedSimpArgs false
namespace Go.Proofs.YtcigkafioinfoaaGreatDoor
section
end
section
set_option maxRecDepth 100000
set_option maxHeartbeats 8000000
end
section
set_option maxRecDepth 100000
set_option maxHeartbeats 8000000
def nx (o : Option Nat) : Nat := o.getD 0
end
section
set_option maxRecDepth 100000
set_option maxHeartbeats 8000000
end
section
set_option maxRecDepth 100000
set_option maxHeartbeats 4000000
end
end Go.Proofs.YtcigkafioinfoaaGreatDoor
