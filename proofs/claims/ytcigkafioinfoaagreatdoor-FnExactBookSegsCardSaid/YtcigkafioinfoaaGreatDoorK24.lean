/- What the exact law of erased programs that are run shares. Conditions: none. -/
import Derived.Test.YtcigkafioinfoaaGreatDoorK22
import Derived.Test.YtcigkafioinfoaaGreatDoorK20
import Derived.Test.YtcigkafioinfoaaGreatDoorKr
set_option linter.unusedVariables false
set_option linter.unusedSimpArgs false
namespace Go.Proofs.YtcigkafioinfoaaGreatDoor
section
open Go.RowKit
set_option maxRecDepth 100000
theorem dh_ {c n : Nat} {X : List Blk} {R : List (Nat × Blk)} {i : Nat} {x : Blk} (hn : n = X.length) (h : X[i]? = some x) : p9_ (List.range' c n) (a7_ (bs_ c X ++ R)) (c + i) = some x := by
 subst hn; exact wu_ h
theorem cm_ {c n : Nat} {X : List Blk} {i : Nat} {x : Blk} (hn : n = X.length) (h : X[i]? = some x) : p9_ (List.range' c n) (a7_ (bs_ c X)) (c + i) = some x := by
 subst hn; exact aa0_ h
end
end Go.Proofs.YtcigkafioinfoaaGreatDoor
