/- Whence the words of a program came, plainly. Conditions: none. -/
import Derived.Test.YtefmbmafdgedmaaGreatDoorKy
import Derived.Test.YtefmbmafdgedmaaGreatDoorKo
import Derived.Test.YtefmbmafdgedmaaGreatDoorKn
import Derived.Test.YtefmbmafdgedmaaGreatDoorKq
import Derived.Test.YtefmbmafdgedmaaGreatDoorKr
set_option linter.unusedVariables false
set_option linter.unusedSimpArgs false
namespace Go.Proofs.YtefmbmafdgedmaaGreatDoor
section
theorem aaq_ {s : Sl} (h : sok s = true) : (emF s).length = (bw (bof s)).length := by
 have q := hn_ (ek_ h)
 unfold emF; rw [if_pos h, ← ui_ (ek_ h), gu_]
 rw [← q.2, List.length_map]
theorem aey_ {s : Sl} (h : sok s = true) : (emF s).length ≤ 76 := by
 rw [aaq_ h]; exact (rq_ (hu_ (ek_ h))).1
theorem ze_ : sok S0 = true := by decide
theorem emF_S0 : emF S0 = [] := List.eq_nil_of_length_eq_zero (by rw [aaq_ ze_]; decide)
end
section
set_option maxRecDepth 100000
set_option maxHeartbeats 4000000
end
section
set_option maxRecDepth 100000
set_option maxHeartbeats 4000000
end
section
set_option maxRecDepth 100000
set_option maxHeartbeats 4000000
end
section
end
section
end
section
end
end Go.Proofs.YtefmbmafdgedmaaGreatDoor
