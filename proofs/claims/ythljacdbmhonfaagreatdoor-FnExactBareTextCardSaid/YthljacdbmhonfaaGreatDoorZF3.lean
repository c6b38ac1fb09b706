/- The law FnExactBareText: what it answers. Conditions: none. -/
import Derived.Test.YthljacdbmhonfaaGreatDoorKm
set_option linter.unusedVariables false
set_option linter.unusedSimpArgs false
namespace Go.Proofs.YthljacdbmhonfaaGreatDoor
set_option maxRecDepth 100000
set_option maxHeartbeats 4000000

theorem sBareText_a (b : Bl) (hs : smb b = true) : ACall En 20 [.ag (bC b)] [] [.s (btxt b)] [] := by
  refine acall_of_body (fn := Tryz.f20) [] Tryz.func20 rfl rfl (by simp) fun C => ?_
  rw [entry_eq]
  simp only [Tryz.ntmps20, List.length_cons, List.length_nil, Nat.reduceAdd, Nat.reduceSub, List.replicate_succ, List.replicate_zero, List.cons_append, List.nil_append, numL]
  refine AWp.seq ?_
  refine AWp.rgn [] (by simp only [go_sem, Nat.reduceAdd, Nat.reduceMul, Nat.reduceSub, Nat.reduceLT, Nat.reduceLeDiff, Nat.reduceEqDiff, Nat.reduceBEq, reduceCtorEq, ↓reduceIte, Int.reduceToNat, bC_eq, strR_pure]; rfl) ?_ ?_
  · (first | trivial | (simp; done))
  refine AWp.seq ?_
  refine AWp.seq ?_
  refine AWp.rgn [call0 (sBareOk_a b hs)] (by simp only [go_sem, Nat.reduceAdd, Nat.reduceMul, Nat.reduceSub, Nat.reduceLT, Nat.reduceLeDiff, Nat.reduceEqDiff, Nat.reduceBEq, reduceCtorEq, ↓reduceIte, Int.reduceToNat, bC_eq, strR_pure]; rfl) ?_ ?_
  · (first | trivial | (simp; done))
  refine AWp.condB (by simp only [go_sem, Nat.reduceAdd, Nat.reduceMul, Nat.reduceSub, Nat.reduceLT, Nat.reduceLeDiff, Nat.reduceEqDiff, Nat.reduceBEq, reduceCtorEq, ↓reduceIte, Int.reduceToNat, bC_eq, strR_pure]; rfl) (by simp only [go_sem, Nat.reduceAdd, Nat.reduceMul, Nat.reduceSub, Nat.reduceLT, Nat.reduceLeDiff, Nat.reduceEqDiff, Nat.reduceBEq, reduceCtorEq, ↓reduceIte, Int.reduceToNat, bC_eq, strR_pure]) (fun h5 => ?_) (fun h5 => ?_)
  · refine AWp.seq ?_
    refine AWp.rgn [] (by simp only [go_sem, Nat.reduceAdd, Nat.reduceMul, Nat.reduceSub, Nat.reduceLT, Nat.reduceLeDiff, Nat.reduceEqDiff, Nat.reduceBEq, reduceCtorEq, ↓reduceIte, Int.reduceToNat, bC_eq, strR_pure]; rfl) ?_ ?_
    · (first | trivial | (simp; done))
    refine AWp.ret (And.intro (.inr rfl) ?_)
    exact Out.plain (by simp only [Tryz.results20]; rfl) (by simp only [resCs, resC, go_sem, Nat.reduceAdd, Nat.reduceMul, Nat.reduceSub, Nat.reduceLT, Nat.reduceLeDiff, Nat.reduceEqDiff, Nat.reduceBEq, reduceCtorEq, ↓reduceIte, Int.reduceToNat, bC_eq, strR_pure] <;> (split <;> rfl)) (by simp only [resV, go_sem, Nat.reduceAdd, Nat.reduceMul, Nat.reduceSub, Nat.reduceLT, Nat.reduceLeDiff, Nat.reduceEqDiff, Nat.reduceBEq, reduceCtorEq, ↓reduceIte, Int.reduceToNat, bC_eq, strR_pure] <;> (simp at h5; simp [btxt, h5])) (by simp only [go_sem, Nat.reduceAdd, Nat.reduceMul, Nat.reduceSub, Nat.reduceLT, Nat.reduceLeDiff, Nat.reduceEqDiff, Nat.reduceBEq, reduceCtorEq, ↓reduceIte, Int.reduceToNat, bC_eq, strR_pure])
  · refine AWp.skip ?_
    refine AWp.seq ?_
    refine AWp.rgn [callI (bok b = true) (fun h => l7Words_a b (bok_0 h) hs), callI (bok b = true) (fun h => sTokText_a (bw b) (by have := (bw_le (bok_0 h)).1; omega) (by have := bw_text (bok_0 h); omega))] (by simp only [go_sem, Nat.reduceAdd, Nat.reduceMul, Nat.reduceSub, Nat.reduceLT, Nat.reduceLeDiff, Nat.reduceEqDiff, Nat.reduceBEq, reduceCtorEq, ↓reduceIte, Int.reduceToNat, bC_eq, strR_pure]; rfl) ?_ ?_
    · simp at h5; simp [h5]
    refine AWp.ret (And.intro (.inr rfl) ?_)
    exact Out.plain (by simp only [Tryz.results20]; rfl) (by simp only [resCs, resC, go_sem, Nat.reduceAdd, Nat.reduceMul, Nat.reduceSub, Nat.reduceLT, Nat.reduceLeDiff, Nat.reduceEqDiff, Nat.reduceBEq, reduceCtorEq, ↓reduceIte, Int.reduceToNat, bC_eq, strR_pure] <;> (split <;> rfl)) (by simp only [resV, go_sem, Nat.reduceAdd, Nat.reduceMul, Nat.reduceSub, Nat.reduceLT, Nat.reduceLeDiff, Nat.reduceEqDiff, Nat.reduceBEq, reduceCtorEq, ↓reduceIte, Int.reduceToNat, bC_eq, strR_pure] <;> (simp at h5; simp [btxt, h5])) (by simp only [go_sem, Nat.reduceAdd, Nat.reduceMul, Nat.reduceSub, Nat.reduceLT, Nat.reduceLeDiff, Nat.reduceEqDiff, Nat.reduceBEq, reduceCtorEq, ↓reduceIte, Int.reduceToNat, bC_eq, strR_pure])
theorem lawExactBareText_a (b : Bl) (hb : bdB b = true) : ACall En 4 [.ag (bC b)] [] [.b true] [] := by
  have hs : 0 ≤ szB b 1048576 → smb b = true := fun h => szB_sm (by decide) (by decide) h
  refine acall_of_body (fn := Tryz.f4) [] Tryz.func4 rfl rfl (by simp) fun C => ?_
  rw [entry_eq]
  simp only [Tryz.ntmps4, List.length_cons, List.length_nil, Nat.reduceAdd, Nat.reduceSub, List.replicate_succ, List.replicate_zero, List.cons_append, List.nil_append, numL]
  refine AWp.seq ?_
  refine AWp.rgn [] (by simp only [go_sem, Nat.reduceAdd, Nat.reduceMul, Nat.reduceSub, Nat.reduceLT, Nat.reduceLeDiff, Nat.reduceEqDiff, Nat.reduceBEq, reduceCtorEq, ↓reduceIte, Int.reduceToNat, bC_eq]; rfl) ?_ ?_
  · (first | trivial | (simp; done))
  refine AWp.seq ?_
  refine AWp.rgn [] (by simp only [go_sem, Nat.reduceAdd, Nat.reduceMul, Nat.reduceSub, Nat.reduceLT, Nat.reduceLeDiff, Nat.reduceEqDiff, Nat.reduceBEq, reduceCtorEq, ↓reduceIte, Int.reduceToNat, bC_eq]; rfl) ?_ ?_
  · (first | trivial | (simp; done))
  refine AWp.seq ?_
  refine AWp.rgn [call0 (szBare_a b hb 1048576 (by decide) (by decide))] (by simp only [go_sem, Nat.reduceAdd, Nat.reduceMul, Nat.reduceSub, Nat.reduceLT, Nat.reduceLeDiff, Nat.reduceEqDiff, Nat.reduceBEq, reduceCtorEq, ↓reduceIte, Int.reduceToNat, bC_eq]; rfl) ?_ ?_
  · (first | trivial | (simp; done))
  refine AWp.seq ?_
  refine AWp.seq ?_
  refine AWp.rgn [] (by simp only [go_sem, Nat.reduceAdd, Nat.reduceMul, Nat.reduceSub, Nat.reduceLT, Nat.reduceLeDiff, Nat.reduceEqDiff, Nat.reduceBEq, reduceCtorEq, ↓reduceIte, Int.reduceToNat, bC_eq]; rfl) ?_ ?_
  · (first | trivial | (simp; done))
  refine AWp.condB (by simp only [go_sem, Nat.reduceAdd, Nat.reduceMul, Nat.reduceSub, Nat.reduceLT, Nat.reduceLeDiff, Nat.reduceEqDiff, Nat.reduceBEq, reduceCtorEq, ↓reduceIte, Int.reduceToNat, bC_eq]; rfl) (by simp only [go_sem, Nat.reduceAdd, Nat.reduceMul, Nat.reduceSub, Nat.reduceLT, Nat.reduceLeDiff, Nat.reduceEqDiff, Nat.reduceBEq, reduceCtorEq, ↓reduceIte, Int.reduceToNat, bC_eq]) (fun h11 => ?_) (fun h11 => ?_)
  · refine AWp.seq ?_
    refine AWp.rgn [] (by simp only [go_sem, Nat.reduceAdd, Nat.reduceMul, Nat.reduceSub, Nat.reduceLT, Nat.reduceLeDiff, Nat.reduceEqDiff, Nat.reduceBEq, reduceCtorEq, ↓reduceIte, Int.reduceToNat, bC_eq]; rfl) ?_ ?_
    · (first | trivial | (simp; done))
    refine AWp.ret (And.intro (.inr rfl) ?_)
    exact Out.plain (by simp only [Tryz.results4]; rfl) (by simp only [resCs, resC, go_sem, Nat.reduceAdd, Nat.reduceMul, Nat.reduceSub, Nat.reduceLT, Nat.reduceLeDiff, Nat.reduceEqDiff, Nat.reduceBEq, reduceCtorEq, ↓reduceIte, Int.reduceToNat, bC_eq] <;> (split <;> rfl)) (by simp only [resV, go_sem, Nat.reduceAdd, Nat.reduceMul, Nat.reduceSub, Nat.reduceLT, Nat.reduceLeDiff, Nat.reduceEqDiff, Nat.reduceBEq, reduceCtorEq, ↓reduceIte, Int.reduceToNat, bC_eq] <;> (rfl)) (by simp only [go_sem, Nat.reduceAdd, Nat.reduceMul, Nat.reduceSub, Nat.reduceLT, Nat.reduceLeDiff, Nat.reduceEqDiff, Nat.reduceBEq, reduceCtorEq, ↓reduceIte, Int.reduceToNat, bC_eq])
  · refine AWp.skip ?_
    refine AWp.seq ?_
    refine AWp.rgn [callI (smb b = true) (fun h => toBare_a b h), callI (smb b = true) (fun h => sBareText_a b h)] (by simp only [go_sem, Nat.reduceAdd, Nat.reduceMul, Nat.reduceSub, Nat.reduceLT, Nat.reduceLeDiff, Nat.reduceEqDiff, Nat.reduceBEq, reduceCtorEq, ↓reduceIte, Int.reduceToNat, bC_eq]; rfl) ?_ ?_
    · simp only [decide_eq_false_iff_not] at h11; simp [hs (by omega)]
    refine AWp.seq ?_
    refine AWp.rgn [callI (smb b = true) (fun h => toBare_a b h)] (by simp only [go_sem, Nat.reduceAdd, Nat.reduceMul, Nat.reduceSub, Nat.reduceLT, Nat.reduceLeDiff, Nat.reduceEqDiff, Nat.reduceBEq, reduceCtorEq, ↓reduceIte, Int.reduceToNat, bC_eq]; rfl) ?_ ?_
    · simp only [decide_eq_false_iff_not] at h11; simp [hs (by omega)]
    refine AWp.seq ?_
    refine AWp.rgn [callI (smb b = true) (fun h => iBareText_a b h)] (by simp only [go_sem, Nat.reduceAdd, Nat.reduceMul, Nat.reduceSub, Nat.reduceLT, Nat.reduceLeDiff, Nat.reduceEqDiff, Nat.reduceBEq, reduceCtorEq, ↓reduceIte, Int.reduceToNat, bC_eq]; rfl) ?_ ?_
    · simp only [decide_eq_false_iff_not] at h11; simp [hs (by omega)]
    refine AWp.seq ?_
    refine AWp.seq ?_
    refine AWp.rgn [] (by simp only [go_sem, Nat.reduceAdd, Nat.reduceMul, Nat.reduceSub, Nat.reduceLT, Nat.reduceLeDiff, Nat.reduceEqDiff, Nat.reduceBEq, reduceCtorEq, ↓reduceIte, Int.reduceToNat, bC_eq]; rfl) ?_ ?_
    · (first | trivial | (simp; done))
    refine AWp.condB (by simp only [go_sem, Nat.reduceAdd, Nat.reduceMul, Nat.reduceSub, Nat.reduceLT, Nat.reduceLeDiff, Nat.reduceEqDiff, Nat.reduceBEq, reduceCtorEq, ↓reduceIte, Int.reduceToNat, bC_eq]; rfl) (by simp only [go_sem, Nat.reduceAdd, Nat.reduceMul, Nat.reduceSub, Nat.reduceLT, Nat.reduceLeDiff, Nat.reduceEqDiff, Nat.reduceBEq, reduceCtorEq, ↓reduceIte, Int.reduceToNat, bC_eq]) (fun h21 => ?_) (fun h21 => ?_)
    · simp at h21
    · refine AWp.skip ?_
      refine AWp.seq ?_
      refine AWp.seq ?_
      refine AWp.rgnD [callI (smb b = true) (fun h => toBare_a b h), callI (smb b = true) (fun h => eqBare_a b b h h)] enM (by simp only [go_sem, Nat.reduceAdd, Nat.reduceMul, Nat.reduceSub, Nat.reduceLT, Nat.reduceLeDiff, Nat.reduceEqDiff, Nat.reduceBEq, reduceCtorEq, ↓reduceIte, Int.reduceToNat, bC_eq]; rfl) (by rfl) ?_ ?_
      · simp only [decide_eq_false_iff_not] at h11; simp [hs (by omega)]
      refine AWp.condB (by simp only [go_sem, Nat.reduceAdd, Nat.reduceMul, Nat.reduceSub, Nat.reduceLT, Nat.reduceLeDiff, Nat.reduceEqDiff, Nat.reduceBEq, reduceCtorEq, ↓reduceIte, Int.reduceToNat, bC_eq]; rfl) (by simp only [go_sem, Nat.reduceAdd, Nat.reduceMul, Nat.reduceSub, Nat.reduceLT, Nat.reduceLeDiff, Nat.reduceEqDiff, Nat.reduceBEq, reduceCtorEq, ↓reduceIte, Int.reduceToNat, bC_eq]) (fun h26 => ?_) (fun h26 => ?_)
      · rw [(bsame_iff b b).2 rfl] at h26; simp at h26
      · refine AWp.skip ?_
        refine AWp.seq ?_
        refine AWp.rgn [] (by simp only [go_sem, Nat.reduceAdd, Nat.reduceMul, Nat.reduceSub, Nat.reduceLT, Nat.reduceLeDiff, Nat.reduceEqDiff, Nat.reduceBEq, reduceCtorEq, ↓reduceIte, Int.reduceToNat, bC_eq]; rfl) ?_ ?_
        · (first | trivial | (simp; done))
        refine AWp.ret (And.intro (.inr rfl) ?_)
        exact Out.plain (by simp only [Tryz.results4]; rfl) (by simp only [resCs, resC, go_sem, Nat.reduceAdd, Nat.reduceMul, Nat.reduceSub, Nat.reduceLT, Nat.reduceLeDiff, Nat.reduceEqDiff, Nat.reduceBEq, reduceCtorEq, ↓reduceIte, Int.reduceToNat, bC_eq] <;> (split <;> rfl)) (by simp only [resV, go_sem, Nat.reduceAdd, Nat.reduceMul, Nat.reduceSub, Nat.reduceLT, Nat.reduceLeDiff, Nat.reduceEqDiff, Nat.reduceBEq, reduceCtorEq, ↓reduceIte, Int.reduceToNat, bC_eq] <;> (rfl)) (by simp only [go_sem, Nat.reduceAdd, Nat.reduceMul, Nat.reduceSub, Nat.reduceLT, Nat.reduceLeDiff, Nat.reduceEqDiff, Nat.reduceBEq, reduceCtorEq, ↓reduceIte, Int.reduceToNat, bC_eq])
end Go.Proofs.YthljacdbmhonfaaGreatDoor
