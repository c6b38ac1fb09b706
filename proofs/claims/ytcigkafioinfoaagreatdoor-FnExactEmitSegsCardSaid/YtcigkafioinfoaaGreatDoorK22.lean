/- Lists of lines, marked. Conditions: none. -/
import Derived.Test.YtcigkafioinfoaaGreatDoorK20
import Derived.Test.YtcigkafioinfoaaGreatDoorKj
set_option linter.unusedVariables false
set_option linter.unusedSimpArgs false
namespace Go.Proofs.YtcigkafioinfoaaGreatDoor
section
open Go.RowKit
set_option maxRecDepth 100000
set_option maxHeartbeats 8000000
theorem ct_ {l b0} {c0 d e : Nat} {bs : List Blk} {L : List (Nat × Blk)} (h : l < c0) : wrL ((l, b0) :: L) (dx_ (c0 + d + e) bs) = (l, b0) :: wrL L (dx_ (c0 + d + e) bs) := e9_ bs _ L (.inl (by omega))
/-! ### markBareS -/
end
end Go.Proofs.YtcigkafioinfoaaGreatDoor
