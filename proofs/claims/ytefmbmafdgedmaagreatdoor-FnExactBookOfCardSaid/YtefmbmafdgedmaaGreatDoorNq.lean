/- Programs: lists of lines; whether they are ok; what they are turned into. Conditions: none. -/
import Derived.Test.YtefmbmafdgedmaaGreatDoorNo
import Derived.Test.YtefmbmafdgedmaaGreatDoorNx
import Derived.Test.YtefmbmafdgedmaaGreatDoorNl
set_option linter.unusedVariables false
set_option linter.unusedSimpArgs false
namespace Go.Proofs.YtefmbmafdgedmaaGreatDoor
section
set_option maxRecDepth 100000
set_option maxHeartbeats 4000000
theorem adf_ (s : Sl) (h : sok s = true) (hs : gi_ s = true) : ACall En 40 [.ag (sC s)] [] [.s (emT s), .sl false (inR (emF s))] [] := by
 have := (ahv_ s (dz_ h) hs).frz1 (rs' := [.s (emT s), .sl false (inR (emF s))]) (by simp [f7_, frz, af_, List.take_of_length_le, emT, emF, h])
 exact this
end
section
set_option maxRecDepth 100000
set_option maxHeartbeats 4000000
/-! lists -/
end
section
open Go.ChangeShapes Go.WideShapes Go.ChangeAt Go.RowKit
set_option maxRecDepth 100000
section
variable {H : Type} {enc : TypeId × Value → H} {W : World}
end
end
end Go.Proofs.YtefmbmafdgedmaaGreatDoor
