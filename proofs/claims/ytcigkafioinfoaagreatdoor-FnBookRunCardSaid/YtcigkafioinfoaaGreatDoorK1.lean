/- Whence the words of a program came, plainly. Conditions: none. -/
import Derived.Test.YtcigkafioinfoaaGreatDoorKy
import Derived.Test.YtcigkafioinfoaaGreatDoorKo
import Derived.Test.YtcigkafioinfoaaGreatDoorKn
import Derived.Test.YtcigkafioinfoaaGreatDoorKq
set_option linter.unusedVariables false
set_option linter.unusedSimpArgs false
namespace Go.Proofs.YtcigkafioinfoaaGreatDoor
section
theorem aav_ {s : Sl} (h : sok s = true) : (emF s).length = (bw (bof s)).length := by
 have q := gu_ (dk_ h)
 unfold emF; rw [if_pos h, ← tz_ (dk_ h), fw_]
 rw [← q.2, List.length_map]
theorem alu_ {s : Sl} (h : sok s = true) : (emF s).length ≤ 76 := by
 rw [aav_ h]; exact (qc_ (hf_ (dk_ h))).1
theorem x3_ : sok S0 = true := by decide
theorem emF_S0 : emF S0 = [] := List.eq_nil_of_length_eq_zero (by rw [aav_ x3_]; decide)
end
section
set_option maxRecDepth 100000
set_option maxHeartbeats 4000000
end
section
set_option maxRecDepth 100000
set_option maxHeartbeats 4000000
end
end Go.Proofs.YtcigkafioinfoaaGreatDoor
