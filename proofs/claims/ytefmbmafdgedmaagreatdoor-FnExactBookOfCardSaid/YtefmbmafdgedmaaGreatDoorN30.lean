/- What the exact laws of books with marked arguments share. Conditions: none. -/
import Derived.Test.YtefmbmafdgedmaaGreatDoorN29
import Derived.Test.YtefmbmafdgedmaaGreatDoorN25
import Derived.Test.YtefmbmafdgedmaaGreatDoorN13
import Derived.Test.YtefmbmafdgedmaaGreatDoorN21
set_option linter.unusedVariables false
set_option linter.unusedSimpArgs false
namespace Go.Proofs.YtefmbmafdgedmaaGreatDoor
section
open Go.RowKit
set_option maxRecDepth 100000
theorem b2_ (l : List Pg) {T c : Nat} {m : Mem} (h : ∀ i x, (ttP.lst T 4 c l)[i]? = some x → m (c + i) = some x) : LD m (.ow c 4 0 l.length) (.sl false (pgR l)) := by
 have := ttP.lst_ld T 4 l c m h
 exact this
end
end Go.Proofs.YtefmbmafdgedmaaGreatDoor
