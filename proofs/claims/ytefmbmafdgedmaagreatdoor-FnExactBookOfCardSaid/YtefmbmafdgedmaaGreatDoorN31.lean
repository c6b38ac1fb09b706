/- Tree logic, part 32: regions of which the order is drawn, where one operation touches a row of places. Conditions: none. -/
import Derived.Test.YtefmbmafdgedmaaGreatDoorNb
import Derived.Test.YtefmbmafdgedmaaGreatDoorN20
import Derived.Test.YtefmbmafdgedmaaGreatDoorNl
set_option linter.unusedVariables false
set_option linter.unusedSimpArgs false
namespace Go.Proofs.YtefmbmafdgedmaaGreatDoor
section
open Go.RowKit
end
section
open Go.RowKit
set_option maxRecDepth 100000
set_option maxHeartbeats 4000000
theorem y3_ {α : Type} (m : α → Int → α × Int) {l : List α} {k : Int} {i : Nat} {d d' : α} (h : i < l.length) : (cr_ m l k).1.getD i d' = (m (l.getD i d) (mkK m l k i)).1 := by
 have e : l = l.take i ++ l.getD i d :: l.drop (i + 1) := TT.splitD h
 have hl : (cr_ m (l.take i) k).1.length = i := by rw [fa_, List.length_take]; omega
 conv => lhs; rw [e]
 rw [je_, List.getD_eq_getElem?_getD, List.getElem?_append_right (by omega), hl, Nat.sub_self]
 simp only [cr_, List.getElem?_cons_zero, Option.getD_some]; rfl
end
section
open Go.RowKit
set_option maxRecDepth 100000
set_option maxHeartbeats 8000000
end
section
open Go.RowKit
set_option maxRecDepth 100000
set_option maxHeartbeats 8000000
end
end Go.Proofs.YtefmbmafdgedmaaGreatDoor
