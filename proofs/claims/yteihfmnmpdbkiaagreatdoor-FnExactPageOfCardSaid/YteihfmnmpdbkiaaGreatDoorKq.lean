/- Parts of the proof, one after another: Programs: lists of lines; whether they are ok; what they are turned into. Conditions: none. -/
import Derived.Test.YteihfmnmpdbkiaaGreatDoorKo
import Derived.Test.YteihfmnmpdbkiaaGreatDoorKx
set_option linter.unusedVariables false
set_option linter.unusedSimpArgs false
namespace Go.Proofs.YteihfmnmpdbkiaaGreatDoor
section
set_option maxRecDepth 100000
set_option maxHeartbeats 4000000

theorem emit_f (s : Sl) (h : sok s = true) (hs : sms' s = true) : ACall En 66 [.ag (sC s)] [] [.s (emT s), .sl false (inR (emF s))] [] := by
  have := (emit_a s (sok_0 h) hs).frz1 (rs' := [.s (emT s), .sl false (inR (emF s))]) (by simp [frzs, frz, inR_len, List.take_of_length_le, emT, emF, h])
  exact this
end
end Go.Proofs.YteihfmnmpdbkiaaGreatDoor
