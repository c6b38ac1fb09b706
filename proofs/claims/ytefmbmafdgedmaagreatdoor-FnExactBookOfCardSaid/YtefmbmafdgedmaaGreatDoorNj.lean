/- What is drawn: expressions. Conditions: none. -/
import Derived.Test.YtefmbmafdgedmaaGreatDoorNh
import Derived.Test.YtefmbmafdgedmaaGreatDoorNi
import Derived.Test.YtefmbmafdgedmaaGreatDoorNd
set_option linter.unusedVariables false
set_option linter.unusedSimpArgs false
namespace Go.Proofs.YtefmbmafdgedmaaGreatDoor
section
set_option maxRecDepth 100000
set_option maxHeartbeats 1000000
def lfE (b : Str) (p : Int) : E := if kq_ b p 2 = 0 then .mk 1 (numI b (p + 1) [0, 1, 2, 7, 30, 1000000]) [] [] else .mk 2 0 (ofI b (p + 1) [[120], [121], [122], [120]]) []
def dE (b : Str) : Nat → Int → E × Int
 | 0, p => (lfE b p, p + 2)
 | d + 1, p =>
  if d = 0 then (lfE b p, p + 2)
  else if kq_ b p 4 = 0 then (lfE b (p + 1), p + 3)
  else if kq_ b (p + 1) 4 = 0 then (.mk 4 0 (ofI b (p + 2) [[105, 110, 116], [98, 111, 111, 108], [105, 110, 116]]) [(dE b d (p + 3)).1], (dE b d (p + 3)).2)
  else (.mk 3 0 (ofI b (p + 2) [[43], [45], [42], [60], [43], [42]]) [(dE b d (p + 3)).1, (dE b d (dE b d (p + 3)).2).1], (dE b d (dE b d (p + 3)).2).2)
end
section
set_option maxRecDepth 100000
set_option maxHeartbeats 1000000
def dS0 (b : Str) (p : Int) : E × Int := dE b ((kq_ b p 4).toNat + 1) (p + 1)
def jr_ (b : Str) (p : Int) : E × Int := if eok (dS0 b p).1 then dS0 b p else dE b 2 (dS0 b p).2
end
section
set_option maxRecDepth 100000
set_option maxHeartbeats 1000000
def sC (s : Sl) : List V := .i .i64 s.kind :: .s s.name :: .s s.type :: (eC s.expr ++ eC s.thn)
theorem ag_ (s : Sl) : sC s = [.i .i64 s.kind, .s s.name, .s s.type, .i .i64 s.expr.kind, .i .i64 s.expr.n, .s s.expr.s, .sl false (eR s.expr.kids), .i .i64 s.thn.kind, .i .i64 s.thn.n, .s s.thn.s, .sl false (eR s.thn.kids)] := by
 simp only [sC, a3_]; rfl
def gi_ (s : Sl) : Bool := decide (s.name.length < 4611686018427387904) && decide (s.type.length < 4611686018427387904) && sm s.expr && sm s.thn
theorem gv_ {s : Sl} (h : gi_ s = true) : s.name.length < 4611686018427387904 ∧ s.type.length < 4611686018427387904 ∧ sm s.expr = true ∧ sm s.thn = true := by
 simp only [gi_, Bool.and_eq_true, decide_eq_true_eq] at h; exact ⟨h.1.1.1, h.1.1.2, h.1.2, h.2⟩
def d5 (b : Str) (p k : Int) : Sl × Int :=
 if k = 0 then (S0, (jr_ b p).2)
 else if k = 1 then (⟨1, ofI b (jr_ b p).2 [[120], [121], [122]], ofI b ((jr_ b p).2 + 1) [[105, 110, 116], [105, 110, 116], [98, 111, 111, 108]], (jr_ b p).1, E0⟩, (jr_ b p).2 + 2)
 else if k = 3 then (⟨3, [], [], (jr_ b p).1, (dE b 2 (jr_ b p).2).1⟩, (dE b 2 (jr_ b p).2).2)
 else (⟨k, [], [], (jr_ b p).1, E0⟩, (jr_ b p).2)
theorem j9_ : E0.kind = 0 := rfl
theorem jy_ : E0.n = 0 := rfl
theorem ka_ : E0.s = [] := rfl
theorem d9_ : E0.kids = [] := rfl
theorem e8_ : eR [] = [] := by simp only [eR]
theorem w3_ : wf E0 = true := by decide
theorem ai0_ : sm E0 = true := by decide
theorem adp_ {s : Sl} (h : gi_ s = true) : smb (bof s) = true := by
 obtain ⟨s1, s2, s3, s4⟩ := gv_ h
 unfold smb bof
 simp only [s1, decide_true, Bool.true_and]
 split <;> split <;> simp [r8_, s3, s4, ai0_]
end
end Go.Proofs.YtefmbmafdgedmaaGreatDoor
