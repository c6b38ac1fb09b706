/- Parts of the proof, one after another: Lines with types: words, text, ok: the program's and the reference's; without types. | Lines: types taken away: the program's and the reference's. | What is drawn: lines with types, bent. Conditions: none. -/
import Derived.Test.YteihfmnmpdbkiaaGreatDoorKj
set_option linter.unusedVariables false
set_option linter.unusedSimpArgs false
namespace Go.Proofs.YteihfmnmpdbkiaaGreatDoor
section
set_option maxRecDepth 100000
set_option maxHeartbeats 4000000

theorem iBareSame_a (a b : Bl) (ha : smb a = true) (hb : smb b = true) : ACall En 45 [.ag (bC a), .ag (bC b)] [] [.b (bsame a b)] [] := by
  obtain ⟨a1, a2, a3⟩ := smb_open ha
  obtain ⟨b1, b2, b3⟩ := smb_open hb
  refine acall_of_body (fn := Tryz.f45) [] Tryz.func45 rfl rfl (by simp) fun C => ?_
  rw [entry_eq]
  simp only [Tryz.ntmps45, List.length_cons, List.length_nil, Nat.reduceAdd, Nat.reduceSub, List.replicate_succ, List.replicate_zero, List.cons_append, List.nil_append, numL]
  refine AWp.seq ?_
  refine AWp.rgn [] (by simp only [go_sem, seval, bC_eq]; rfl) ?_ ?_
  · (first | trivial | (simp; done))
  refine AWp.seq ?_
  refine AWp.rgn [call0 (iExprSame_a a.expr b.expr a2 b2), call0 (iExprSame_a a.thn b.thn a3 b3)] (by simp only [go_sem, seval, bC_eq]; rfl) ?_ ?_
  · (first | trivial | (simp; done))
  refine AWp.ret (And.intro (.inr rfl) ?_)
  exact Out.plain (by simp only [Tryz.results45]; rfl) (by simp only [resCs, resC, go_sem, seval, bC_eq] <;> (split <;> rfl)) (by simp only [resV, go_sem, seval, bC_eq] <;> (simp [bsame])) (by simp only [go_sem, seval, bC_eq])
theorem sBareSame_a (a b : Bl) (ha : smb a = true) (hb : smb b = true) : ACall En 49 [.ag (bC a), .ag (bC b)] [] [.b (bsame a b)] [] := by
  obtain ⟨a1, a2, a3⟩ := smb_open ha
  obtain ⟨b1, b2, b3⟩ := smb_open hb
  refine acall_of_body (fn := Tryz.f49) [] Tryz.func49 rfl rfl (by simp) fun C => ?_
  rw [entry_eq]
  simp only [Tryz.ntmps49, List.length_cons, List.length_nil, Nat.reduceAdd, Nat.reduceSub, List.replicate_succ, List.replicate_zero, List.cons_append, List.nil_append, numL]
  refine AWp.seq ?_
  refine AWp.rgn [] (by simp only [go_sem, seval, bC_eq]; rfl) ?_ ?_
  · (first | trivial | (simp; done))
  refine AWp.seq ?_
  refine AWp.rgn [call0 (sExprSame_a a.expr b.expr a2 b2), call0 (sExprSame_a a.thn b.thn a3 b3)] (by simp only [go_sem, seval, bC_eq]; rfl) ?_ ?_
  · (first | trivial | (simp; done))
  refine AWp.ret (And.intro (.inr rfl) ?_)
  exact Out.plain (by simp only [Tryz.results49]; rfl) (by simp only [resCs, resC, go_sem, seval, bC_eq] <;> (split <;> rfl)) (by simp only [resV, go_sem, seval, bC_eq] <;> (simp [bsame])) (by simp only [go_sem, seval, bC_eq])
end

section
set_option maxRecDepth 100000
set_option maxHeartbeats 4000000

theorem smb_B0 : smb B0 = true := by decide
end

section
set_option maxRecDepth 100000
set_option maxHeartbeats 4000000
end
end Go.Proofs.YteihfmnmpdbkiaaGreatDoor
