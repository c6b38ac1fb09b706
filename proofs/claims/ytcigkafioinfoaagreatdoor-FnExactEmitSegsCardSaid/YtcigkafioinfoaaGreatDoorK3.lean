/- The places of a program's words are in order, within their bounds, and none came from where another one came. Conditions: none. -/
import Derived.Test.YtcigkafioinfoaaGreatDoorK1
set_option linter.unusedVariables false
set_option linter.unusedSimpArgs false
namespace Go.Proofs.YtcigkafioinfoaaGreatDoor
section
def tkE (s : Sl) : List Tk := (dl_ (emT s)).getD []
theorem ad9_ {s : Sl} (h : sok s = true) : (tkE s).length = (emF s).length := or_ h
end
section
end
section
end
end Go.Proofs.YtcigkafioinfoaaGreatDoor
