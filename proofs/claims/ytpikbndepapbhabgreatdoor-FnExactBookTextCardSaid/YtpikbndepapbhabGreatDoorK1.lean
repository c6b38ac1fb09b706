/- Whence the words of a program came, plainly. Conditions: none. -/
import Derived.Test.YtpikbndepapbhabGreatDoorKy
import Derived.Test.YtpikbndepapbhabGreatDoorKo
import Derived.Test.YtpikbndepapbhabGreatDoorKn
import Derived.Test.YtpikbndepapbhabGreatDoorKq
set_option linter.unusedVariables false
set_option linter.unusedSimpArgs false
namespace Go.Proofs.YtpikbndepapbhabGreatDoor
section
theorem xo_ {s : Sl} (h : sok s = true) : (emF s).length = (bw (bof s)).length := by
 have q := gf_ (c2_ h)
 unfold emF; rw [if_pos h, ← sr_ (c2_ h), ff_]
 rw [← q.2, List.length_map]
theorem ajr_ {s : Sl} (h : sok s = true) : (emF s).length ≤ 76 := by
 rw [xo_ h]; exact (od_ (gv_ (c2_ h))).1
theorem adg_ : sok S0 = true := by decide
theorem emF_S0 : emF S0 = [] := List.eq_nil_of_length_eq_zero (by rw [xo_ adg_]; decide)
end
section
set_option maxRecDepth 100000
set_option maxHeartbeats 4000000
end
section
set_option maxRecDepth 100000
set_option maxHeartbeats 4000000
end
end Go.Proofs.YtpikbndepapbhabGreatDoor
