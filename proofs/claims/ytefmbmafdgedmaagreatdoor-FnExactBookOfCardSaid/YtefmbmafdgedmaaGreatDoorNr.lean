/- Plain laws: what lines come to. Conditions: none. -/
import Derived.Test.YtefmbmafdgedmaaGreatDoorNc
import Derived.RangeFuncBox
import Derived.RangeFuncLeaves
import Derived.Shelf.Abstract
import Derived.WalkKit
import Derived.OwnWalkIn
import Derived.TacticsInMore
import Derived.LoopNIn
import Derived.LoopIn
import Derived.Test.YtefmbmafdgedmaaGreatDoorNe
import Derived.Test.YtefmbmafdgedmaaGreatDoorNx
import Derived.Test.YtefmbmafdgedmaaGreatDoorNb
set_option linter.unusedVariables false
set_option linter.unusedSimpArgs false
namespace Go.Proofs.YtefmbmafdgedmaaGreatDoor
section
def cutI (n : Int) : Int := max (-1000000) (min 1000000 n)
def agl_ (l : List Str) : Nat → Str → Int
 | 0, _ => -1
 | k + 1, s => if l.getD k [] = s then (k : Int) else agl_ l k s
def agk_ (l : List Str) (s : Str) : Int := agl_ l l.length s
def twI (s : Str) (a b : Int) : Int := if s = [43] then cutI (a + b) else if s = [45] then cutI (a - b) else if s = [42] then cutI (a * b) else if a < b then 1 else 0
def two2 (s : Str) (x y : Int × Bool) : Int × Bool := if x.2 && y.2 then (twI s x.1 y.1, true) else (0, false)
mutual
def rk : E → List Str → List Int → Int × Bool
 | .mk k n s kids, N, M =>
  if k = 1 then (n, true)
  else if k = 2 then (if agk_ N s < 0 then (0, false) else (cutI (M.getD (agk_ N s).toNat 0), true))
  else if k = 4 then rkA kids N M
  else two2 s (rkA kids N M) (rkB kids N M)
def rkA : List E → List Str → List Int → Int × Bool
 | [], _, _ => (0, false)
 | e :: _, N, M => rk e N M
def rkB : List E → List Str → List Int → Int × Bool
 | [], _, _ => (0, false)
 | _ :: r, N, M => rkA r N M
end
def both (b : Bl) (N : List Str) (M : List Int) : Int × Int × Bool :=
 if (rk b.expr N M).2 = true ∧ b.kind = 3 then ((rk b.expr N M).1, (rk b.thn N M).1, (rk b.thn N M).2) else ((rk b.expr N M).1, (rk b.expr N M).1, (rk b.expr N M).2)
end
section
open Go.RowKit Go.Shelf
attribute [local go_sem] Oper.semAt_some
abbrev strV (s : Str) : Value := .string ⟨s.toArray⟩
set_option maxRecDepth 100000 in
set_option maxHeartbeats 4000000 in
set_option maxRecDepth 100000 in
set_option maxHeartbeats 1000000 in
def StrsAt (n₀ : Nat) (W : World) (sv : Value) (zs : List Str) : Prop :=
 ∃ A cap, sv = .slice A zs.length cap ∧ (zs ≠ [] → ∃ b off, A = some ⟨b, off, none⟩ ∧ b < n₀ ∧ ∀ j, j < zs.length → W.cell? ⟨b, off + j, none⟩ = some (strV (zs.getD j [])))
theorem StrsAt.below {n₀ : Nat} {A B : World} (h : Below n₀ A B) {sv : Value} {zs : List Str} : StrsAt n₀ A sv zs → StrsAt n₀ B sv zs
 | ⟨a, cap, e, k⟩ => ⟨a, cap, e, fun hne => let ⟨b, off, e2, hb, hc⟩ := k hne; ⟨b, off, e2, hb, fun j hj => (h.cell (p := ⟨b, off + j, none⟩) hb).trans (hc j hj)⟩⟩
set_option maxRecDepth 100000 in
set_option maxHeartbeats 4000000 in
end
section
set_option maxRecDepth 100000
set_option maxHeartbeats 4000000
end
section
set_option maxRecDepth 100000
set_option maxHeartbeats 4000000
end
section
set_option maxRecDepth 100000
set_option maxHeartbeats 4000000
end
section
set_option maxRecDepth 100000
set_option maxHeartbeats 4000000
end
section
set_option maxRecDepth 100000
set_option maxHeartbeats 4000000
end
end Go.Proofs.YtefmbmafdgedmaaGreatDoor
