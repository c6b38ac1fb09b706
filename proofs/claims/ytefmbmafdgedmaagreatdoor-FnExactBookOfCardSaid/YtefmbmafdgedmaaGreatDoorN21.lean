/- Pages as trees of places of one's own. Conditions: none. -/
import Derived.Test.YtefmbmafdgedmaaGreatDoorN18
import Derived.Test.YtefmbmafdgedmaaGreatDoorN17
import Derived.Test.YtefmbmafdgedmaaGreatDoorN20
import Derived.Test.YtefmbmafdgedmaaGreatDoorNj
import Derived.Test.YtefmbmafdgedmaaGreatDoorNr
set_option linter.unusedVariables false
set_option linter.unusedSimpArgs false
namespace Go.Proofs.YtefmbmafdgedmaaGreatDoor
section
open Go.RowKit
set_option maxRecDepth 100000
set_option maxHeartbeats 4000000
def ttP : TT Pg where
 N := fun _ => 1
 O := fun b p => [.s p.line, .b p.good, .s p.text, .ow b 1 0 p.frm.length]
 B := fun _ p => [⟨3, 1, inR p.frm⟩]
 C := pgC
 len := fun _ _ => rfl
 map := fun p η b c h => by
  have h1 : η.getD b 0 = c := by simpa using h 0 (by omega)
  exact ⟨by simp only [rns, rn, h1], by simp only [List.map_cons, List.map_nil, rnB, ci_ η _ (ac_ _)]⟩
 cl := fun p b n h => ⟨by simp only [cls, V.cl, Bool.and_true, Bool.true_and, decide_eq_true_eq]; omega, fun x hx => by
  simp only [List.mem_singleton] at hx; subst hx; exact i7_ n _ (ac_ _)⟩
 inn := fun p b u h => ⟨by simp only [al_, V.inn, Bool.and_true, Bool.true_and]; simpa using h 0 (by omega), fun x hx => by
  simp only [List.mem_singleton] at hx; subst hx; exact hq_ u _ (ac_ _)⟩
 own := fun p b => ⟨rfl, fun x hx => by
  simp only [List.mem_singleton] at hx; subst hx
  exact List.all_eq_true.2 fun r hr => by obtain ⟨t, _, rfl⟩ := List.mem_map.1 hr; rfl⟩
 ld := fun p b m h => by
  have h0 := h 0 _ rfl
  refine .cons (by simp only [LD, leV]) (.cons (by simp only [LD, leV]) (.cons (by simp only [LD, leV]) (.cons ?_ .nil)))
  refine LD.ow (by simpa using h0) rfl (by rw [af_]) ?_
  have : ∀ l : List Int, LDr m (inR l) (inR l) := fun l => by
   induction l with
   | nil => exact .nil
   | cons n l ih => exact .cons (.cons (by simp only [LD, leV, and_self]) .nil) ih
  exact this _
theorem v7_ : ∀ l : List Pg, ttP.NL l = l.length
 | [] => rfl
 | p :: l => by simp only [TT.NL, List.length_cons, v7_ l]; show 1 + _ = _; omega
end
section
open Go.RowKit
set_option maxRecDepth 100000
set_option maxHeartbeats 8000000
/-! ### markBareS -/
end
section
open Go.RowKit
set_option maxRecDepth 100000
set_option maxHeartbeats 8000000
/-! ### markStmtS -/
end
section
open Go.RowKit
set_option maxRecDepth 100000
theorem ef_ {c n : Nat} {X : List Blk} {R : List (Nat × Blk)} {i : Nat} {x : Blk} (hn : n = X.length) (h : X[i]? = some x) : pj_ (List.range' c n) (aw_ (bd_ c X ++ R)) (c + i) = some x := by
 subst hn; exact uj_ h
theorem cy_ {c n : Nat} {X : List Blk} {i : Nat} {x : Blk} (hn : n = X.length) (h : X[i]? = some x) : pj_ (List.range' c n) (aw_ (bd_ c X)) (c + i) = some x := by
 subst hn; exact y7_ h
end
end Go.Proofs.YtefmbmafdgedmaaGreatDoor
