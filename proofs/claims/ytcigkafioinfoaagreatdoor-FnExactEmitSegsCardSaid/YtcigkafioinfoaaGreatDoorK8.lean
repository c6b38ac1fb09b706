/- Lists of numbers: the same, marked, held. Conditions: none. -/
import Derived.Test.YtcigkafioinfoaaGreatDoorKt
import Derived.Test.YtcigkafioinfoaaGreatDoorKx
import Derived.Test.YtcigkafioinfoaaGreatDoorK4
import Derived.Test.YtcigkafioinfoaaGreatDoorK6
import Derived.Test.YtcigkafioinfoaaGreatDoorKv
set_option linter.unusedVariables false
set_option linter.unusedSimpArgs false
namespace Go.Proofs.YtcigkafioinfoaaGreatDoor
section
set_option maxRecDepth 100000
set_option maxHeartbeats 4000000
theorem ab8_ {α : Type} {d : α} {a b : List α} {k : Nat} (ha : k < a.length) (hb : k < b.length) (h : a.take k = b.take k) (e : a.getD k d = b.getD k d) : a.take (k + 1) = b.take (k + 1) := by
 rw [List.take_add_one (l := a), List.take_add_one (l := b), h, T6_ ha, T6_ hb]
 rw [T8_, T8_, T6_ ha, T6_ hb] at e
 rw [show a[k] = b[k] by simpa using e]
end
section
set_option maxRecDepth 100000
set_option maxHeartbeats 4000000
end
end Go.Proofs.YtcigkafioinfoaaGreatDoor
