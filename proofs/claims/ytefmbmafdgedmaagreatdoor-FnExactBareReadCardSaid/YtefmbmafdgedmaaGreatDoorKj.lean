/- What is drawn: expressions. Conditions: none. -/
import Derived.Test.YtefmbmafdgedmaaGreatDoorKh
import Derived.Test.YtefmbmafdgedmaaGreatDoorKi
import Derived.Test.YtefmbmafdgedmaaGreatDoorKd
set_option linter.unusedVariables false
set_option linter.unusedSimpArgs false
namespace Go.Proofs.YtefmbmafdgedmaaGreatDoor
section
set_option maxRecDepth 100000
set_option maxHeartbeats 1000000
def lfE (b : Str) (p : Int) : E := if j3_ b p 2 = 0 then .mk 1 (numI b (p + 1) [0, 1, 2, 7, 30, 1000000]) [] [] else .mk 2 0 (ofI b (p + 1) [[120], [121], [122], [120]]) []
def dE (b : Str) : Nat → Int → E × Int
 | 0, p => (lfE b p, p + 2)
 | d + 1, p =>
  if d = 0 then (lfE b p, p + 2)
  else if j3_ b p 4 = 0 then (lfE b (p + 1), p + 3)
  else if j3_ b (p + 1) 4 = 0 then (.mk 4 0 (ofI b (p + 2) [[105, 110, 116], [98, 111, 111, 108], [105, 110, 116]]) [(dE b d (p + 3)).1], (dE b d (p + 3)).2)
  else (.mk 3 0 (ofI b (p + 2) [[43], [45], [42], [60], [43], [42]]) [(dE b d (p + 3)).1, (dE b d (dE b d (p + 3)).2).1], (dE b d (dE b d (p + 3)).2).2)
end
section
set_option maxRecDepth 100000
set_option maxHeartbeats 1000000
def dS0 (b : Str) (p : Int) : E × Int := dE b ((j3_ b p 4).toNat + 1) (p + 1)
def jh_ (b : Str) (p : Int) : E × Int := if eok (dS0 b p).1 then dS0 b p else dE b 2 (dS0 b p).2
end
section
set_option maxRecDepth 100000
set_option maxHeartbeats 1000000
def d5 (b : Str) (p k : Int) : Sl × Int :=
 if k = 0 then (S0, (jh_ b p).2)
 else if k = 1 then (⟨1, ofI b (jh_ b p).2 [[120], [121], [122]], ofI b ((jh_ b p).2 + 1) [[105, 110, 116], [105, 110, 116], [98, 111, 111, 108]], (jh_ b p).1, E0⟩, (jh_ b p).2 + 2)
 else if k = 3 then (⟨3, [], [], (jh_ b p).1, (dE b 2 (jh_ b p).2).1⟩, (dE b 2 (jh_ b p).2).2)
 else (⟨k, [], [], (jh_ b p).1, E0⟩, (jh_ b p).2)
theorem mb_ : E0.kind = 0 := rfl
theorem mi_ : E0.n = 0 := rfl
theorem mh_ : E0.s = [] := rfl
theorem e9_ : E0.kids = [] := rfl
theorem gd_ : eR [] = [] := by simp only [eR]
end
end Go.Proofs.YtefmbmafdgedmaaGreatDoor
