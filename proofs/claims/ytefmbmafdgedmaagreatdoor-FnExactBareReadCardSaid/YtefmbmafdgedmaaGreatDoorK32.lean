/- Two rows of places in one memory. Conditions: none. -/
import Derived.Test.YtefmbmafdgedmaaGreatDoorK20
import Derived.Test.YtefmbmafdgedmaaGreatDoorK30
import Derived.Test.YtefmbmafdgedmaaGreatDoorK31
set_option linter.unusedVariables false
set_option linter.unusedSimpArgs false
namespace Go.Proofs.YtefmbmafdgedmaaGreatDoor
section
open Go.RowKit
set_option maxRecDepth 100000
theorem al_ {c x : Nat} (h : x < 1000) : (1000 + c = x) = False := by simp only [eq_iff_iff, iff_false]; omega
theorem a7_ {c0 d x : Nat} {X : List Blk} {R : List (Nat × Blk)} (h : x < c0) : be_ (bl_ (c0 + d) X ++ R) x = be_ R x := ag_ (by omega)
theorem a3_ {c0 d x : Nat} {X : List Blk} (h : x < c0) : be_ (bl_ (c0 + d) X) x = none := ad_ (by omega)
theorem bd_ {c0 d x : Nat} {X : List Blk} {R : List (Nat × Blk)} {b : Blk} (h : x < c0) : ep_ (bl_ (c0 + d) X ++ R) x b = bl_ (c0 + d) X ++ ep_ R x b := ak_ (by omega)
theorem a8_ {c0 d x : Nat} {X : List Blk} {b : Blk} (h : x < c0) : ep_ (bl_ (c0 + d) X) x b = bl_ (c0 + d) X ++ [(x, b)] := af_ (by omega)
theorem adu_ (c : Nat) (k : Int) : SegOk c [.i .i64 k] [.i .i64 k] [] [] := xw_ rfl (fun x hx => by cases hx)
end
section
open Go.RowKit
set_option maxRecDepth 100000
set_option maxHeartbeats 4000000
section
open TT
variable {α : Type} (t : TT α)
variable {E : Env} {fn : Func} {s : St} {lr : List ResultVar}
end
end
end Go.Proofs.YtefmbmafdgedmaaGreatDoor
