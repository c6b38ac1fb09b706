/- Books, changed: plainly. Conditions: none. -/
import Derived.Test.YtcigkafioinfoaaGreatDoorK12
import Derived.Test.YtcigkafioinfoaaGreatDoorKu
import Derived.Test.YtcigkafioinfoaaGreatDoorKo
import Derived.Test.YtcigkafioinfoaaGreatDoorKq
set_option linter.unusedVariables false
set_option linter.unusedSimpArgs false
namespace Go.Proofs.YtcigkafioinfoaaGreatDoor
section
set_option maxRecDepth 100000
end
section
set_option maxRecDepth 100000
end
section
set_option maxRecDepth 100000
set_option maxHeartbeats 4000000
theorem wb_ (ls : List Str) : vz_ (ls.map md_) = true := by
 refine List.all_eq_true.2 fun s hs => ?_
 obtain ⟨w, _, rfl⟩ := List.mem_map.1 hs
 exact qa_ w
/-! books and programs, plainly -/
end
end Go.Proofs.YtcigkafioinfoaaGreatDoor
