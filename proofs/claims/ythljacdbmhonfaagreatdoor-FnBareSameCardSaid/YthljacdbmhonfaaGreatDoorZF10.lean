/- The law FnBareSame: what it answers. Conditions: none. -/
import Derived.Test.YthljacdbmhonfaaGreatDoorKv
set_option linter.unusedVariables false
set_option linter.unusedSimpArgs false
namespace Go.Proofs.YthljacdbmhonfaaGreatDoor
set_option maxRecDepth 100000
set_option maxHeartbeats 8000000

theorem bsame_refl (a : Bl) : bsame a a = true := (bsame_iff a a).2 rfl
theorem bsame_comm (a b : Bl) : bsame a b = bsame b a := by
  cases h : bsame a b with
  | true => rw [(bsame_iff a b).1 h, bsame_refl]
  | false =>
    cases h2 : bsame b a with
    | false => rfl
    | true => rw [(bsame_iff b a).1 h2, bsame_refl] at h; cases h
theorem bsame_txt {a b : Bl} (ha : bok a = true) (hb : bok b = true) : bsame a b = (btxt a == btxt b) := by
  have e1 : btxt a = btext a := by unfold btxt btext; rw [if_pos ha]
  have e2 : btxt b = btext b := by unfold btxt btext; rw [if_pos hb]
  rw [e1, e2]
  cases h : bsame a b with
  | true => rw [(bsame_iff a b).1 h]; simp
  | false =>
    symm
    rw [beq_eq_false_iff_ne]
    intro e
    rw [btext_inj ha hb e, bsame_refl] at h; cases h
theorem btxt_len (b : Bl) : (btxt b).length ≤ 120 := by
  unfold btxt; split
  · rename_i h; exact (bok_open h).1
  · simp
theorem stxt_len2 (s : Sl) : (stxt s).length ≤ 120 := by
  unfold stxt; split
  · rename_i h; have := (sok_open h).1; omega
  · simp
theorem lawBareSame_a (b c : Str) : ACall En 14 [.sl false (byR b), .sl false (byR c)] [] [.b true] [] := by
  have DA := DrawBareSame_a b
  have DS := DrawStmtText_a c
  obtain ⟨s1, s2⟩ := dBS_sm b
  obtain ⟨_, _, s3⟩ := dl5_p (c.take 2000) (p := 0) (by decide) (by decide)
  generalize (dBS b).1 = u at *
  generalize (dBS b).2 = v at *
  generalize (dl5 (c.take 2000) 0).1 = s at *
  have k1 := btxt_len u
  have k2 := stxt_len2 s
  refine acall_of_body (fn := Tryz.f14) [] Tryz.func14 rfl rfl (by simp) fun C => ?_
  rw [entry_eq]
  simp only [Tryz.ntmps14, List.length_cons, List.length_nil, Nat.reduceAdd, Nat.reduceSub, List.replicate_succ, List.replicate_zero, List.cons_append, List.nil_append, numL]
  refine AWp.seq ?_
  refine AWp.rgn [] (by simp only [go_sem, seval, bC_eq, sC_eq, bC_pure2, sC_pure2]; rfl) ?_ ?_
  · (first | trivial | (simp; done))
  refine AWp.seq ?_
  refine AWp.seq ?_
  refine AWp.rgn [] (by simp only [go_sem, seval, bC_eq, sC_eq, bC_pure2, sC_pure2]; rfl) ?_ ?_
  · (first | trivial | (simp; done))
  refine AWp.condB (by simp only [go_sem, seval, bC_eq, sC_eq, bC_pure2, sC_pure2]; rfl) (by simp only [go_sem, seval, bC_eq, sC_eq, bC_pure2, sC_pure2]) (fun h20 => ?_) (fun h20 => ?_)
  · refine AWp.seq ?_
    refine AWp.rgn [] (by simp only [go_sem, seval, bC_eq, sC_eq, bC_pure2, sC_pure2]; rfl) ?_ ?_
    · (first | trivial | (simp; done))
    refine AWp.ret (And.intro (.inr rfl) ?_)
    exact Out.plain (by simp only [Tryz.results14]; rfl) (by simp only [resCs, resC, go_sem, seval, bC_eq, sC_eq, bC_pure2, sC_pure2] <;> (split <;> rfl)) (by simp only [resV, go_sem, seval, bC_eq, sC_eq, bC_pure2, sC_pure2] <;> (simp)) (by simp only [go_sem, seval, bC_eq, sC_eq, bC_pure2, sC_pure2])
  · refine AWp.skip ?_
    refine AWp.seq ?_
    refine AWp.rgn [call0 DA] (by simp only [go_sem, seval, bC_eq, sC_eq, bC_pure2, sC_pure2]; rfl) ?_ ?_
    · (first | trivial | (simp; done))
    refine AWp.seq ?_
    refine AWp.rgn [call0 DS] (by simp only [go_sem, seval, bC_eq, sC_eq, bC_pure2, sC_pure2]; rfl) ?_ ?_
    · (first | trivial | (simp; done))
    refine AWp.seq ?_
    refine AWp.seq ?_
    refine AWp.rgnD [call0 (iBareSame_a u v s1 s2), call0 (sBareSame_a u v s1 s2), call0 (iBareSame_a u u s1 s1), call0 (iBareSame_a u v s1 s2), call0 (iBareSame_a v u s2 s1)] enM (by simp only [go_sem, seval, bC_eq, sC_eq, bC_pure2, sC_pure2]; rfl) (by rfl) ?_ ?_
    · (first | trivial | (simp; done))
    refine AWp.condB (by simp only [go_sem, seval, bC_eq, sC_eq, bC_pure2, sC_pure2]; rfl) (by simp only [go_sem, seval, bC_eq, sC_eq, bC_pure2, sC_pure2]) (fun h49 => ?_) (fun h49 => ?_)
    · rw [bsame_refl, bsame_comm v u] at h49; simp at h49
    · refine AWp.skip ?_
      refine AWp.seq ?_
      refine AWp.seq ?_
      refine AWp.rgnD [call0 (sBareOk_a u s1), call0 (sBareOk_a v s2), call0 (iBareSame_a u v s1 s2), call0 (iBareText_a u s1), call0 (iBareText_a v s2)] enM (by simp only [go_sem, seval, bC_eq, sC_eq, bC_pure2, sC_pure2]; rfl) (by rfl) ?_ ?_
      · (first | trivial | (simp; done))
      refine AWp.condB (by simp only [go_sem, seval, bC_eq, sC_eq, bC_pure2, sC_pure2]; rfl) (by simp only [go_sem, seval, bC_eq, sC_eq, bC_pure2, sC_pure2]) (fun h66 => ?_) (fun h66 => ?_)
      · simp only [Bool.and_eq_true] at h66; obtain ⟨⟨x1, x2⟩, x3⟩ := h66; rw [bsame_txt x1 x2] at x3; simp at x3
      · refine AWp.skip ?_
        refine AWp.seq ?_
        refine AWp.rgn [call0 (iStmtText_a s s3)] (by simp only [go_sem, seval, bC_eq, sC_eq, bC_pure2, sC_pure2]; rfl) ?_ ?_
        · (first | trivial | (simp; done))
        refine AWp.seq ?_
        refine AWp.rgn [call0 (iBareRead_a (stxt s) (by omega))] (by simp only [go_sem, seval, bC_eq, sC_eq, bC_pure2, sC_pure2]; rfl) ?_ ?_
        · (first | trivial | (simp; done))
        refine AWp.seq ?_
        refine AWp.rgn [call0 (iBareText_a u s1), call0 (iStmtRead_a (btxt u) (by omega))] (by simp only [go_sem, seval, bC_eq, sC_eq, bC_pure2, sC_pure2]; rfl) ?_ ?_
        · (first | trivial | (simp; done))
        refine AWp.seq ?_
        refine AWp.rgn [call0 (iBareText_a u s1)] (by simp only [go_sem, seval, bC_eq, sC_eq, bC_pure2, sC_pure2]; rfl) ?_ ?_
        · (first | trivial | (simp; done))
        refine AWp.ret (And.intro (.inr rfl) ?_)
        exact Out.plain (by simp only [Tryz.results14]; rfl) (by simp only [resCs, resC, go_sem, seval, bC_eq, sC_eq, bC_pure2, sC_pure2] <;> (split <;> rfl)) (by simp only [resV, go_sem, seval, bC_eq, sC_eq, bC_pure2, sC_pure2] <;> (have q1 := apart1 s; have q2 := apart2 u; rw [q1, q2]; simp)) (by simp only [go_sem, seval, bC_eq, sC_eq, bC_pure2, sC_pure2])
end Go.Proofs.YthljacdbmhonfaaGreatDoor
