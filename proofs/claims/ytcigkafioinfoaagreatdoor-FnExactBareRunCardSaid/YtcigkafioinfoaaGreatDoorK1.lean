/- Whence the words of a program came, plainly. Conditions: none. -/
import Derived.Test.YtcigkafioinfoaaGreatDoorKy
import Derived.Test.YtcigkafioinfoaaGreatDoorKo
import Derived.Test.YtcigkafioinfoaaGreatDoorKn
import Derived.Test.YtcigkafioinfoaaGreatDoorKq
set_option linter.unusedVariables false
set_option linter.unusedSimpArgs false
namespace Go.Proofs.YtcigkafioinfoaaGreatDoor
section
theorem aba_ {s : Sl} (h : sok s = true) : (emF s).length = (bw (bof s)).length := by
 have q := f1_ (dx_ h)
 unfold emF; rw [if_pos h, ← tj_ (dx_ h), fo_]
 rw [← q.2, List.length_map]
theorem acp_ {s : Sl} (h : sok s = true) : (emF s).length ≤ 76 := by
 rw [aba_ h]; exact (kj_ (hn_ (dx_ h))).1
end
section
set_option maxRecDepth 100000
set_option maxHeartbeats 4000000
end
section
set_option maxRecDepth 100000
set_option maxHeartbeats 4000000
end
end Go.Proofs.YtcigkafioinfoaaGreatDoor
