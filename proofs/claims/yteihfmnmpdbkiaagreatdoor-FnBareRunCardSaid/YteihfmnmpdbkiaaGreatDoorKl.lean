/- Parts of the proof, one after another: Lines with types: words, text, ok: the program's and the reference's; without types. | Lines: types taken away: the program's and the reference's. | What is drawn: lines with types, bent. Conditions: none. -/
import Derived.Test.YteihfmnmpdbkiaaGreatDoorKj
set_option linter.unusedVariables false
set_option linter.unusedSimpArgs false
namespace Go.Proofs.YteihfmnmpdbkiaaGreatDoor
section
set_option maxRecDepth 100000
set_option maxHeartbeats 4000000
end

section
set_option maxRecDepth 100000
set_option maxHeartbeats 4000000

theorem smb_B0 : smb B0 = true := by decide
end

section
set_option maxRecDepth 100000
set_option maxHeartbeats 4000000
end
end Go.Proofs.YteihfmnmpdbkiaaGreatDoor
