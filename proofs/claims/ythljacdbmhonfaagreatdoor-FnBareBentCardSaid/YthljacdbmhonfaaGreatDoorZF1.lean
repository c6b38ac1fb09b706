/- The law FnBareBent: what it answers. Conditions: none. -/
import Derived.Test.YthljacdbmhonfaaGreatDoorKj
set_option linter.unusedVariables false
set_option linter.unusedSimpArgs false
namespace Go.Proofs.YthljacdbmhonfaaGreatDoor
set_option maxRecDepth 100000
set_option maxHeartbeats 1000000

theorem btxt_not {b : Bl} (h : bok b = false) : btxt b = [] := by simp [btxt, h]
theorem lawBareBent_a (b : Str) : ACall En 3 [.sl false (byR b)] [] [.b true] [] := by
  have D := d7_p (b.take 2000) (p := 0) (by decide) (by decide)
  generalize hx : (d7 (b.take 2000) 0).1 = x at D
  have DR := DrawBareOk_a b
  rw [hx] at DR
  obtain ⟨_, _, hs⟩ := D
  obtain ⟨s1, s2, s3⟩ := smb_open hs
  have hs1 : smb { x with expr := .mk 4 0 [105, 110, 116] [.mk 1 1 [] []] } = true := by simp only [smb, s1, s3]; rfl
  have hs2 : smb { x with name := [112, 114, 105, 110, 116] } = true := by simp only [smb, s2, s3]; rfl
  have hs3 : smb { x with kind := 4 } = true := hs
  refine acall_of_body (fn := Tryz.f3) [] Tryz.func3 rfl rfl (by simp) fun C => ?_
  rw [entry_eq]
  simp only [Tryz.ntmps3, List.length_cons, List.length_nil, Nat.reduceAdd, Nat.reduceSub, List.replicate_succ, List.replicate_zero, List.cons_append, List.nil_append, numL]
  refine AWp.seq ?_
  refine AWp.rgn [] (by simp only [go_sem, Nat.reduceAdd, Nat.reduceMul, Nat.reduceSub, Nat.reduceLT, Nat.reduceLeDiff, Nat.reduceEqDiff, Nat.reduceBEq, reduceCtorEq, ↓reduceIte, Int.reduceToNat, bC_eq, E.kind_mk, E.n_mk, E.s_mk, E.kids_mk, eR]; rfl) ?_ ?_
  · (first | trivial | (simp; done))
  refine AWp.seq ?_
  refine AWp.seq ?_
  refine AWp.rgn [] (by simp only [go_sem, Nat.reduceAdd, Nat.reduceMul, Nat.reduceSub, Nat.reduceLT, Nat.reduceLeDiff, Nat.reduceEqDiff, Nat.reduceBEq, reduceCtorEq, ↓reduceIte, Int.reduceToNat, bC_eq, E.kind_mk, E.n_mk, E.s_mk, E.kids_mk, eR]; rfl) ?_ ?_
  · (first | trivial | (simp; done))
  refine AWp.condB (by simp only [go_sem, Nat.reduceAdd, Nat.reduceMul, Nat.reduceSub, Nat.reduceLT, Nat.reduceLeDiff, Nat.reduceEqDiff, Nat.reduceBEq, reduceCtorEq, ↓reduceIte, Int.reduceToNat, bC_eq, E.kind_mk, E.n_mk, E.s_mk, E.kids_mk, eR]; rfl) (by simp only [go_sem, Nat.reduceAdd, Nat.reduceMul, Nat.reduceSub, Nat.reduceLT, Nat.reduceLeDiff, Nat.reduceEqDiff, Nat.reduceBEq, reduceCtorEq, ↓reduceIte, Int.reduceToNat, bC_eq, E.kind_mk, E.n_mk, E.s_mk, E.kids_mk, eR]) (fun h9 => ?_) (fun h9 => ?_)
  · refine AWp.seq ?_
    refine AWp.rgn [] (by simp only [go_sem, Nat.reduceAdd, Nat.reduceMul, Nat.reduceSub, Nat.reduceLT, Nat.reduceLeDiff, Nat.reduceEqDiff, Nat.reduceBEq, reduceCtorEq, ↓reduceIte, Int.reduceToNat, bC_eq, E.kind_mk, E.n_mk, E.s_mk, E.kids_mk, eR]; rfl) ?_ ?_
    · (first | trivial | (simp; done))
    refine AWp.ret (And.intro (.inr rfl) ?_)
    exact Out.plain (by simp only [Tryz.results3]; rfl) (by simp only [resCs, resC, go_sem, Nat.reduceAdd, Nat.reduceMul, Nat.reduceSub, Nat.reduceLT, Nat.reduceLeDiff, Nat.reduceEqDiff, Nat.reduceBEq, reduceCtorEq, ↓reduceIte, Int.reduceToNat, bC_eq, E.kind_mk, E.n_mk, E.s_mk, E.kids_mk, eR] <;> (split <;> rfl)) (by simp only [resV, go_sem, Nat.reduceAdd, Nat.reduceMul, Nat.reduceSub, Nat.reduceLT, Nat.reduceLeDiff, Nat.reduceEqDiff, Nat.reduceBEq, reduceCtorEq, ↓reduceIte, Int.reduceToNat, bC_eq, E.kind_mk, E.n_mk, E.s_mk, E.kids_mk, eR] <;> (simp_all)) (by simp only [go_sem, Nat.reduceAdd, Nat.reduceMul, Nat.reduceSub, Nat.reduceLT, Nat.reduceLeDiff, Nat.reduceEqDiff, Nat.reduceBEq, reduceCtorEq, ↓reduceIte, Int.reduceToNat, bC_eq, E.kind_mk, E.n_mk, E.s_mk, E.kids_mk, eR])
  · refine AWp.skip ?_
    refine AWp.seq ?_
    refine AWp.rgn [call0 DR] (by simp only [go_sem, Nat.reduceAdd, Nat.reduceMul, Nat.reduceSub, Nat.reduceLT, Nat.reduceLeDiff, Nat.reduceEqDiff, Nat.reduceBEq, reduceCtorEq, ↓reduceIte, Int.reduceToNat, bC_eq, E.kind_mk, E.n_mk, E.s_mk, E.kids_mk, eR]; rfl) ?_ ?_
    · (first | trivial | (simp; done))
    refine AWp.seq ?_
    refine AWp.seq ?_
    refine AWp.rgnD [call0 (iBareOk_a x hs), call0 (sBareOk_a x hs), call0 (sBareOk_a x hs)] enM (by simp only [go_sem, Nat.reduceAdd, Nat.reduceMul, Nat.reduceSub, Nat.reduceLT, Nat.reduceLeDiff, Nat.reduceEqDiff, Nat.reduceBEq, reduceCtorEq, ↓reduceIte, Int.reduceToNat, bC_eq, E.kind_mk, E.n_mk, E.s_mk, E.kids_mk, eR]; rfl) (by rfl) ?_ ?_
    · (first | trivial | (simp; done))
    refine AWp.condB (by simp only [go_sem, Nat.reduceAdd, Nat.reduceMul, Nat.reduceSub, Nat.reduceLT, Nat.reduceLeDiff, Nat.reduceEqDiff, Nat.reduceBEq, reduceCtorEq, ↓reduceIte, Int.reduceToNat, bC_eq, E.kind_mk, E.n_mk, E.s_mk, E.kids_mk, eR]; rfl) (by simp only [go_sem, Nat.reduceAdd, Nat.reduceMul, Nat.reduceSub, Nat.reduceLT, Nat.reduceLeDiff, Nat.reduceEqDiff, Nat.reduceBEq, reduceCtorEq, ↓reduceIte, Int.reduceToNat, bC_eq, E.kind_mk, E.n_mk, E.s_mk, E.kids_mk, eR]) (fun h21 => ?_) (fun h21 => ?_)
    · refine AWp.seq ?_
      refine AWp.rgnD [call0 (iBareOk_a x hs), call0 (sBareOk_a x hs), call0 (sBareOk_a x hs), call0 (iBareText_a x hs)] enM (by simp only [go_sem, Nat.reduceAdd, Nat.reduceMul, Nat.reduceSub, Nat.reduceLT, Nat.reduceLeDiff, Nat.reduceEqDiff, Nat.reduceBEq, reduceCtorEq, ↓reduceIte, Int.reduceToNat, bC_eq, E.kind_mk, E.n_mk, E.s_mk, E.kids_mk, eR]; rfl) (by rfl) ?_ ?_
      · (first | trivial | (simp; done))
      refine AWp.ret (And.intro (.inr rfl) ?_)
      exact Out.plain (by simp only [Tryz.results3]; rfl) (by simp only [resCs, resC, go_sem, Nat.reduceAdd, Nat.reduceMul, Nat.reduceSub, Nat.reduceLT, Nat.reduceLeDiff, Nat.reduceEqDiff, Nat.reduceBEq, reduceCtorEq, ↓reduceIte, Int.reduceToNat, bC_eq, E.kind_mk, E.n_mk, E.s_mk, E.kids_mk, eR] <;> (split <;> rfl)) (by simp only [resV, go_sem, Nat.reduceAdd, Nat.reduceMul, Nat.reduceSub, Nat.reduceLT, Nat.reduceLeDiff, Nat.reduceEqDiff, Nat.reduceBEq, reduceCtorEq, ↓reduceIte, Int.reduceToNat, bC_eq, E.kind_mk, E.n_mk, E.s_mk, E.kids_mk, eR] <;> (simp at h21; simp [btxt_not h21, h21])) (by simp only [go_sem, Nat.reduceAdd, Nat.reduceMul, Nat.reduceSub, Nat.reduceLT, Nat.reduceLeDiff, Nat.reduceEqDiff, Nat.reduceBEq, reduceCtorEq, ↓reduceIte, Int.reduceToNat, bC_eq, E.kind_mk, E.n_mk, E.s_mk, E.kids_mk, eR])
    · refine AWp.skip ?_
      refine AWp.seq ?_
      refine AWp.rgn [] (by simp only [go_sem, Nat.reduceAdd, Nat.reduceMul, Nat.reduceSub, Nat.reduceLT, Nat.reduceLeDiff, Nat.reduceEqDiff, Nat.reduceBEq, reduceCtorEq, ↓reduceIte, Int.reduceToNat, bC_eq, E.kind_mk, E.n_mk, E.s_mk, E.kids_mk, eR]; rfl) ?_ ?_
      · (first | trivial | (simp; done))
      refine AWp.seq ?_
      refine AWp.rgn [] (by simp only [go_sem, Nat.reduceAdd, Nat.reduceMul, Nat.reduceSub, Nat.reduceLT, Nat.reduceLeDiff, Nat.reduceEqDiff, Nat.reduceBEq, reduceCtorEq, ↓reduceIte, Int.reduceToNat, bC_eq, E.kind_mk, E.n_mk, E.s_mk, E.kids_mk, eR]; rfl) ?_ ?_
      · (first | trivial | (simp; done))
      refine AWp.seq ?_
      refine AWp.rgn [] (by simp only [go_sem, Nat.reduceAdd, Nat.reduceMul, Nat.reduceSub, Nat.reduceLT, Nat.reduceLeDiff, Nat.reduceEqDiff, Nat.reduceBEq, reduceCtorEq, ↓reduceIte, Int.reduceToNat, bC_eq, E.kind_mk, E.n_mk, E.s_mk, E.kids_mk, eR]; rfl) ?_ ?_
      · (first | trivial | (simp; done))
      refine AWp.seq ?_
      refine AWp.rgn [] (by simp only [go_sem, Nat.reduceAdd, Nat.reduceMul, Nat.reduceSub, Nat.reduceLT, Nat.reduceLeDiff, Nat.reduceEqDiff, Nat.reduceBEq, reduceCtorEq, ↓reduceIte, Int.reduceToNat, bC_eq, E.kind_mk, E.n_mk, E.s_mk, E.kids_mk, eR]; rfl) ?_ ?_
      · (first | trivial | (simp; done))
      refine AWp.seq ?_
      refine AWp.rgn [] (by simp only [go_sem, Nat.reduceAdd, Nat.reduceMul, Nat.reduceSub, Nat.reduceLT, Nat.reduceLeDiff, Nat.reduceEqDiff, Nat.reduceBEq, reduceCtorEq, ↓reduceIte, Int.reduceToNat, bC_eq, E.kind_mk, E.n_mk, E.s_mk, E.kids_mk, eR]; rfl) ?_ ?_
      · (first | trivial | (simp; done))
      refine AWp.seq ?_
      refine AWp.rgn [] (by simp only [go_sem, Nat.reduceAdd, Nat.reduceMul, Nat.reduceSub, Nat.reduceLT, Nat.reduceLeDiff, Nat.reduceEqDiff, Nat.reduceBEq, reduceCtorEq, ↓reduceIte, Int.reduceToNat, bC_eq, E.kind_mk, E.n_mk, E.s_mk, E.kids_mk, eR]; rfl) ?_ ?_
      · (first | trivial | (simp; done))
      refine AWp.seq ?_
      refine AWp.rgn [call0 (iBareOk_a _ hs1), call0 (iBareOk_a _ hs2), call0 (iBareOk_a _ hs3)] (by simp only [go_sem, Nat.reduceAdd, Nat.reduceMul, Nat.reduceSub, Nat.reduceLT, Nat.reduceLeDiff, Nat.reduceEqDiff, Nat.reduceBEq, reduceCtorEq, ↓reduceIte, Int.reduceToNat, bC_eq, E.kind_mk, E.n_mk, E.s_mk, E.kids_mk, eR]; rfl) ?_ ?_
      · (first | trivial | (simp; done))
      refine AWp.ret (And.intro (.inr rfl) ?_)
      exact Out.plain (by simp only [Tryz.results3]; rfl) (by simp only [resCs, resC, go_sem, Nat.reduceAdd, Nat.reduceMul, Nat.reduceSub, Nat.reduceLT, Nat.reduceLeDiff, Nat.reduceEqDiff, Nat.reduceBEq, reduceCtorEq, ↓reduceIte, Int.reduceToNat, bC_eq, E.kind_mk, E.n_mk, E.s_mk, E.kids_mk, eR] <;> (split <;> rfl)) (by simp only [resV, go_sem, Nat.reduceAdd, Nat.reduceMul, Nat.reduceSub, Nat.reduceLT, Nat.reduceLeDiff, Nat.reduceEqDiff, Nat.reduceBEq, reduceCtorEq, ↓reduceIte, Int.reduceToNat, bC_eq, E.kind_mk, E.n_mk, E.s_mk, E.kids_mk, eR] <;> (have q1 := bent_expr (b := x); have q2 := bent_name (b := x); have q3 := bent_kind (b := x); simp only [wPrint] at q2; rw [q1, q2, q3]; rfl)) (by simp only [go_sem, Nat.reduceAdd, Nat.reduceMul, Nat.reduceSub, Nat.reduceLT, Nat.reduceLeDiff, Nat.reduceEqDiff, Nat.reduceBEq, reduceCtorEq, ↓reduceIte, Int.reduceToNat, bC_eq, E.kind_mk, E.n_mk, E.s_mk, E.kids_mk, eR])
end Go.Proofs.YthljacdbmhonfaaGreatDoor
