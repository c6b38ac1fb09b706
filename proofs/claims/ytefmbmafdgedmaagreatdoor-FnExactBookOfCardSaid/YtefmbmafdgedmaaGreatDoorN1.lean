/- Whence the words of a program came, plainly. Conditions: none. -/
import Derived.Test.YtefmbmafdgedmaaGreatDoorNy
import Derived.Test.YtefmbmafdgedmaaGreatDoorNo
import Derived.Test.YtefmbmafdgedmaaGreatDoorNn
import Derived.Test.YtefmbmafdgedmaaGreatDoorNq
import Derived.Test.YtefmbmafdgedmaaGreatDoorNr
set_option linter.unusedVariables false
set_option linter.unusedSimpArgs false
namespace Go.Proofs.YtefmbmafdgedmaaGreatDoor
section
theorem af7_ {s : Sl} (h : sok s = true) : (emF s).length = (bw (bof s)).length := by
 have q := gh_ (dz_ h)
 unfold emF; rw [if_pos h, ← r4_ (dz_ h), fs_]
 rw [← q.2, List.length_map]
theorem ahd_ {s : Sl} (h : sok s = true) : (emF s).length ≤ 76 := by
 rw [af7_ h]; exact (oh_ (g0_ (dz_ h))).1
end
section
set_option maxRecDepth 100000
set_option maxHeartbeats 4000000
end
section
set_option maxRecDepth 100000
set_option maxHeartbeats 4000000
end
section
set_option maxRecDepth 100000
set_option maxHeartbeats 4000000
end
section
end
section
end
section
end
end Go.Proofs.YtefmbmafdgedmaaGreatDoor
