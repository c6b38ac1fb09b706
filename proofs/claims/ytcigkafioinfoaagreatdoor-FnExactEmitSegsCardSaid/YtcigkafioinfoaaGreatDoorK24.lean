/- What the exact law of erased programs that are run shares. Conditions: none. -/
import Derived.Test.YtcigkafioinfoaaGreatDoorK22
import Derived.Test.YtcigkafioinfoaaGreatDoorK20
import Derived.Test.YtcigkafioinfoaaGreatDoorKr
set_option linter.unusedVariables false
set_option linter.unusedSimpArgs false
namespace Go.Proofs.YtcigkafioinfoaaGreatDoor
section
open Go.RowKit
set_option maxRecDepth 100000
theorem f7_ {c n : Nat} {X : List Blk} {R : List (Nat × Blk)} {i : Nat} {x : Blk} (hn : n = X.length) (h : X[i]? = some x) : pb_ (List.range' c n) (bf_ (bu_ c X ++ R)) (c + i) = some x := by
 subst hn; exact sm_ h
theorem ec_ {c n : Nat} {X : List Blk} {i : Nat} {x : Blk} (hn : n = X.length) (h : X[i]? = some x) : pb_ (List.range' c n) (bf_ (bu_ c X)) (c + i) = some x := by
 subst hn; exact xm_ h
end
end Go.Proofs.YtcigkafioinfoaaGreatDoor
