/- Texts and their lines: the reference's TextOk, TextLines. Conditions: none. -/
import Derived.Test.YtefmbmafdgedmaaGreatDoorK6
import Derived.Test.YtefmbmafdgedmaaGreatDoorKv
import Derived.Test.YtefmbmafdgedmaaGreatDoorKy
import Derived.Test.YtefmbmafdgedmaaGreatDoorKt
import Derived.Test.YtefmbmafdgedmaaGreatDoorKx
import Derived.Test.YtefmbmafdgedmaaGreatDoorK4
set_option linter.unusedVariables false
set_option linter.unusedSimpArgs false
namespace Go.Proofs.YtefmbmafdgedmaaGreatDoor
section
set_option maxRecDepth 100000
set_option maxHeartbeats 4000000
end
section
set_option maxRecDepth 100000
set_option maxHeartbeats 4000000
end
section
set_option maxRecDepth 100000
set_option maxHeartbeats 4000000
end
section
set_option maxRecDepth 100000
set_option maxHeartbeats 4000000
def torn (b : Str) (p : Int) (l : List Str) (s : Str) : Str :=
 s.take (j3_ b p s.length).toNat ++ ofI b (p + 1) l ++ s.drop ((j3_ b p s.length).toNat + (j3_ b (p + 1 + 1) 2).toNat)
end
end Go.Proofs.YtefmbmafdgedmaaGreatDoor
