/- What is drawn: expressions. Conditions: none. -/
import Derived.Test.YtcigkafioinfoaaGreatDoorKh
import Derived.Test.YtcigkafioinfoaaGreatDoorKi
import Derived.Test.YtcigkafioinfoaaGreatDoorKd
set_option linter.unusedVariables false
set_option linter.unusedSimpArgs false
namespace Go.Proofs.YtcigkafioinfoaaGreatDoor
section
set_option maxRecDepth 100000
set_option maxHeartbeats 1000000
theorem E.kind_mk (k n : Int) (s : Str) (r : List E) : (E.mk k n s r).kind = k := rfl
theorem E.n_mk (k n : Int) (s : Str) (r : List E) : (E.mk k n s r).n = n := rfl
theorem E.s_mk (k n : Int) (s : Str) (r : List E) : (E.mk k n s r).s = s := rfl
theorem E.kids_mk (k n : Int) (s : Str) (r : List E) : (E.mk k n s r).kids = r := rfl
end
section
set_option maxRecDepth 100000
set_option maxHeartbeats 1000000
end
section
set_option maxRecDepth 100000
set_option maxHeartbeats 1000000
def sC (s : Sl) : List V := .i .i64 s.kind :: .s s.name :: .s s.type :: (eC s.expr ++ eC s.thn)
theorem ag_ (s : Sl) : sC s = [.i .i64 s.kind, .s s.name, .s s.type, .i .i64 s.expr.kind, .i .i64 s.expr.n, .s s.expr.s, .sl false (eR s.expr.kids), .i .i64 s.thn.kind, .i .i64 s.thn.n, .s s.thn.s, .sl false (eR s.thn.kids)] := by
 simp only [sC, bq_]; rfl
def f8_ (s : Sl) : Bool := decide (s.name.length < 4611686018427387904) && decide (s.type.length < 4611686018427387904) && sm s.expr && sm s.thn
theorem dm_ {s : Sl} (h : f8_ s = true) : s.name.length < 4611686018427387904 ∧ s.type.length < 4611686018427387904 ∧ sm s.expr = true ∧ sm s.thn = true := by
 simp only [f8_, T5_, T3_] at h; exact ⟨h.1.1.1, h.1.1.2, h.1.2, h.2⟩
theorem E0_k : E0.kind = 0 := rfl
theorem E0_n : E0.n = 0 := rfl
theorem E0_s : E0.s = [] := rfl
theorem o0_ : E0.kids = [] := rfl
theorem sl_ : eR [] = [] := by simp only [eR]
theorem tg_ : wf E0 = true := by decide
theorem adu_ : sm E0 = true := by decide
theorem aa5_ {s : Sl} (h : f8_ s = true) : smb (bof s) = true := by
 obtain ⟨s1, s2, s3, s4⟩ := dm_ h
 unfold smb bof
 simp only [s1, decide_true, Bool.true_and]
 split <;> split <;> simp [le_, s3, s4, adu_]
end
end Go.Proofs.YtcigkafioinfoaaGreatDoor
