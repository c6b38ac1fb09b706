/- Whence the words of a program came, plainly. Conditions: none. -/
import Derived.Test.YtpikbndepapbhaaGreatDoorKy
import Derived.Test.YtpikbndepapbhaaGreatDoorKo
import Derived.Test.YtpikbndepapbhaaGreatDoorKn
import Derived.Test.YtpikbndepapbhaaGreatDoorKq
set_option linter.unusedVariables false
set_option linter.unusedSimpArgs false
namespace Go.Proofs.YtpikbndepapbhaaGreatDoor
section
theorem agt_ {s : Sl} (h : sok s = true) : (emF s).length = (bw (bof s)).length := by
 have q := gy_ (do_ h)
 unfold emF; rw [if_pos h, ← so_ (do_ h), f8_]
 rw [← q.2, List.length_map]
theorem akm_ {s : Sl} (h : sok s = true) : (emF s).length ≤ 76 := by
 rw [agt_ h]; exact (px_ (hg_ (do_ h))).1
end
section
set_option maxRecDepth 100000
set_option maxHeartbeats 4000000
end
section
set_option maxRecDepth 100000
set_option maxHeartbeats 4000000
end
end Go.Proofs.YtpikbndepapbhaaGreatDoor
