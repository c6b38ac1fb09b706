/- The law FnEmitSay: what it answers. Conditions: none. -/
import Derived.Test.YtcigkafioinfoaaGreatDoorKz
import Derived.Test.YtcigkafioinfoaaGreatDoorKy
import Derived.Test.YtcigkafioinfoaaGreatDoorKb
set_option linter.unusedVariables false
set_option linter.unusedSimpArgs false
namespace Go.Proofs.YtcigkafioinfoaaGreatDoor
set_option maxRecDepth 100000
set_option maxHeartbeats 8000000
theorem aev_ (l : List Sl) : (i0_ l).1.length ≤ 16 := by
 unfold i0_
 split
 ·rename_i h
  have := (fi_ (l := l) (Nat.le_refl _) (er_ h).2.1).2.2
  rwa [T1_ (by rw [List.length_map]; exact Nat.le_refl _)] at this
 ·simp
end Go.Proofs.YtcigkafioinfoaaGreatDoor
