/- The law FnEmitType: what it answers. Conditions: none. -/
import Derived.Test.YthljacdbmhonfaaGreatDoorKo
set_option linter.unusedVariables false
set_option linter.unusedSimpArgs false
namespace Go.Proofs.YthljacdbmhonfaaGreatDoor
set_option maxRecDepth 100000
set_option maxHeartbeats 4000000

theorem lawEmitType_a (b : Str) : ACall En 7 [.sl false (byR b)] [] [.b true] [] := by
  have D := dl5_p (b.take 2000) (p := 0) (by decide) (by decide)
  generalize hx : (dl5 (b.take 2000) 0).1 = s at D
  have DR := DrawEmitLine_a b
  rw [hx] at DR
  obtain ⟨_, _, hs⟩ := D
  have ht := tE_sms hs
  have hl : (emF s).length ≤ 100 := by
    unfold emF; split
    · rename_i h; rw [fromI_len]; have := bsrc_len (bok0_bof (sok_0 h)); omega
    · simp
  refine acall_of_body (fn := Tryz.f7) [] Tryz.func7 rfl rfl (by simp) fun C => ?_
  rw [entry_eq]
  simp only [Tryz.ntmps7, List.length_cons, List.length_nil, Nat.reduceAdd, Nat.reduceSub, List.replicate_succ, List.replicate_zero, List.cons_append, List.nil_append, numL]
  refine AWp.seq ?_
  refine AWp.rgn [] (by simp only [go_sem, seval, sC_eq, inR_pure, inR_len]; rfl) ?_ ?_
  · (first | trivial | (simp; done))
  refine AWp.seq ?_
  refine AWp.seq ?_
  refine AWp.rgn [] (by simp only [go_sem, seval, sC_eq, inR_pure, inR_len]; rfl) ?_ ?_
  · (first | trivial | (simp; done))
  refine AWp.condB (by simp only [go_sem, seval, sC_eq, inR_pure, inR_len]; rfl) (by simp only [go_sem, seval, sC_eq, inR_pure, inR_len]) (fun h14 => ?_) (fun h14 => ?_)
  · refine AWp.seq ?_
    refine AWp.rgn [] (by simp only [go_sem, seval, sC_eq, inR_pure, inR_len]; rfl) ?_ ?_
    · (first | trivial | (simp; done))
    refine AWp.ret (And.intro (.inr rfl) ?_)
    exact Out.plain (by simp only [Tryz.results7]; rfl) (by simp only [resCs, resC, go_sem, seval, sC_eq, inR_pure, inR_len] <;> (split <;> rfl)) (by simp only [resV, go_sem, seval, sC_eq, inR_pure, inR_len] <;> (simp)) (by simp only [go_sem, seval, sC_eq, inR_pure, inR_len])
  · refine AWp.skip ?_
    refine AWp.seq ?_
    refine AWp.rgn [call0 DR] (by simp only [go_sem, seval, sC_eq, inR_pure, inR_len]; rfl) ?_ ?_
    · (first | trivial | (simp; done))
    refine AWp.seq ?_
    refine AWp.rgn [call0 (iEmitLine_a s hs)] (by simp only [go_sem, seval, sC_eq, inR_pure, inR_len]; rfl) ?_ ?_
    · (first | trivial | (simp; done))
    refine AWp.seq ?_
    refine AWp.rgn [call0 (sEmitLine_a s hs)] (by simp only [go_sem, seval, sC_eq, inR_pure, inR_len]; rfl) ?_ ?_
    · (first | trivial | (simp; done))
    refine AWp.seq ?_
    refine AWp.seq ?_
    refine AWp.rgn [call0 (sStmtOk_a s hs)] (by simp only [go_sem, seval, sC_eq, inR_pure, inR_len]; rfl) ?_ ?_
    · (first | trivial | (simp; done))
    refine AWp.condB (by simp only [go_sem, seval, sC_eq, inR_pure, inR_len]; rfl) (by simp only [go_sem, seval, sC_eq, inR_pure, inR_len]) (fun h39 => ?_) (fun h39 => ?_)
    · refine AWp.seq ?_
      refine AWp.rgn [] (by simp only [go_sem, seval, sC_eq, inR_pure, inR_len]; rfl) ?_ ?_
      · (first | trivial | (simp; done))
      refine AWp.ret (And.intro (.inr rfl) ?_)
      exact Out.plain (by simp only [Tryz.results7]; rfl) (by simp only [resCs, resC, go_sem, seval, sC_eq, inR_pure, inR_len] <;> (split <;> rfl)) (by simp only [resV, go_sem, seval, sC_eq, inR_pure, inR_len] <;> (simp)) (by simp only [go_sem, seval, sC_eq, inR_pure, inR_len])
    · refine AWp.skip ?_
      refine AWp.seq ?_
      refine AWp.rgn [] (by simp only [go_sem, seval, sC_eq, inR_pure, inR_len]; rfl) ?_ ?_
      · (first | trivial | (simp; done))
      refine AWp.seq ?_
      refine AWp.rgn [] (by simp only [go_sem, seval, sC_eq, inR_pure, inR_len]; rfl) ?_ ?_
      · (first | trivial | (simp; done))
      refine AWp.seqJ (fun u : Unit => ⟨[.no, .no, .no, .pt 13 11 0 0, .s (emT s), .sl false (inR (emF s)), .no, .no, .pt 18 11 0 0, .no, .no, .no, .no, .no, .no, .no, .no, .no, .no, .no, .no, .no, .no, .no, .no, .no, .no, .no, .no, .no, .no, .no, .no, .no, .no, .no, .no, .no, .no, .no, .no, .no, .no, .no, .no, .no, .no, .no, .no, .no, .no, .no, .no, .no, .no, .no, .no, .no, .no, .no, .no, .no, .no, .no, .no, .no, .no, .no, .no, .no, .no, .no, .no, .no, .no, .no, .no, .no, .no, .no, .no, .no, .no, .no, .no, .no, .no, .no, .no, .no, .no, .no, .no, .no, .no, .no, .no, .no, .no, .no, .no, .no, .no, .no], memOf [(13, ⟨42, 11, [sC s]⟩), (18, ⟨42, 11, [sC (tE s)]⟩)], us [13, 18]⟩) (fun u : Unit => True) ?_ (fun u hJ => ?_)
      · refine AWp.seq ?_
        refine AWp.rgn [] (by simp only [go_sem, seval, sC_eq, inR_pure, inR_len]; rfl) ?_ ?_
        · (first | trivial | (simp; done))
        refine AWp.condB (by simp only [go_sem, seval, sC_eq, inR_pure, inR_len]; rfl) (by simp only [go_sem, seval, sC_eq, inR_pure, inR_len]) (fun h51 => ?_) (fun h51 => ?_)
        · refine AWp.rgn [] (by simp only [go_sem, seval, sC_eq, inR_pure, inR_len]; rfl) ?_ ?_
          · (first | trivial | (simp; done))
          refine Exists.intro (()) ⟨?_, ?_⟩
          · trivial
          refine Can.trans (Can.leAt 18 ([[.i .i64 s.kind, .s s.name, .s wBool, .i .i64 4, .i .i64 0, .s wBool, .sl false [eC s.expr], .i .i64 s.thn.kind, .i .i64 s.thn.n, .s s.thn.s, .sl false (eR s.thn.kids)]]) (by simp only [go_sem, seval, sC_eq, inR_pure, inR_len] <;> rfl) (by simp only [go_sem, seval, sC_eq, inR_pure, inR_len, ler, les, leV] <;> (first | trivial | simp)) (by simp only [go_sem, seval, sC_eq, inR_pure, inR_len] <;> rfl)) ?_
          exact Can.weak (Weak.lit (by simp only [go_sem, seval, sC_eq, inR_pure, inR_len, subM, leV, inns, innr, V.inn, us, true_or, or_true]) (by simp only [go_sem, seval, sC_eq, inR_pure, inR_len, subM, leV, inns, innr, V.inn, us, true_or, or_true]) (by simp only [go_sem, seval, sC_eq, inR_pure, inR_len, subM, leV, inns, innr, V.inn, us, true_or, or_true] <;> ((first | (simp only [beq_iff_eq] at h51; simp [tE, h51, E.kind_mk, E.n_mk, E.s_mk, E.kids_mk, eR, eC_eq]; done) | (simp only [beq_eq_false_iff_ne] at h51; simp [tE, h51, E.kind_mk, E.n_mk, E.s_mk, E.kids_mk, eR, eC_eq]; done) | trace_state))))
        · refine AWp.skip ?_
          refine Exists.intro (()) ⟨?_, ?_⟩
          · trivial
          refine Can.trans (Can.leAt 18 ([[.i .i64 s.kind, .s s.name, .s s.type, .i .i64 4, .i .i64 0, .s wBool, .sl false [eC s.expr], .i .i64 s.thn.kind, .i .i64 s.thn.n, .s s.thn.s, .sl false (eR s.thn.kids)]]) (by simp only [go_sem, seval, sC_eq, inR_pure, inR_len] <;> rfl) (by simp only [go_sem, seval, sC_eq, inR_pure, inR_len, ler, les, leV] <;> (first | trivial | simp)) (by simp only [go_sem, seval, sC_eq, inR_pure, inR_len] <;> rfl)) ?_
          exact Can.weak (Weak.lit (by simp only [go_sem, seval, sC_eq, inR_pure, inR_len, subM, leV, inns, innr, V.inn, us, true_or, or_true]) (by simp only [go_sem, seval, sC_eq, inR_pure, inR_len, subM, leV, inns, innr, V.inn, us, true_or, or_true]) (by simp only [go_sem, seval, sC_eq, inR_pure, inR_len, subM, leV, inns, innr, V.inn, us, true_or, or_true] <;> ((first | (simp only [beq_iff_eq] at h51; simp [tE, h51, E.kind_mk, E.n_mk, E.s_mk, E.kids_mk, eR, eC_eq]; done) | (simp only [beq_eq_false_iff_ne] at h51; simp [tE, h51, E.kind_mk, E.n_mk, E.s_mk, E.kids_mk, eR, eC_eq]; done) | trace_state))))
      refine AWp.seq ?_
      refine AWp.seq ?_
      refine AWp.rgn [call0 (iStmtOk_a (tE s) ht)] (by simp only [go_sem, seval, sC_eq, inR_pure, inR_len]; rfl) ?_ ?_
      · (first | trivial | (simp; done))
      refine AWp.condB (by simp only [go_sem, seval, sC_eq, inR_pure, inR_len]; rfl) (by simp only [go_sem, seval, sC_eq, inR_pure, inR_len]) (fun h55 => ?_) (fun h55 => ?_)
      · refine AWp.seq ?_
        refine AWp.rgn [] (by simp only [go_sem, seval, sC_eq, inR_pure, inR_len]; rfl) ?_ ?_
        · (first | trivial | (simp; done))
        refine AWp.ret (And.intro (.inr rfl) ?_)
        exact Out.plain (by simp only [Tryz.results7]; rfl) (by simp only [resCs, resC, go_sem, seval, sC_eq, inR_pure, inR_len] <;> (split <;> rfl)) (by simp only [resV, go_sem, seval, sC_eq, inR_pure, inR_len] <;> (simp)) (by simp only [go_sem, seval, sC_eq, inR_pure, inR_len])
      · refine AWp.skip ?_
        refine AWp.seq ?_
        refine AWp.rgn [call0 (iEmitLine_a (tE s) ht)] (by simp only [go_sem, seval, sC_eq, inR_pure, inR_len]; rfl) ?_ ?_
        · (first | trivial | (simp; done))
        refine AWp.seq ?_
        refine AWp.seq ?_
        refine AWp.rgn [] (by simp only [go_sem, seval, sC_eq, inR_pure, inR_len]; rfl) ?_ ?_
        · (first | trivial | (simp; done))
        refine AWp.condB (by simp only [go_sem, seval, sC_eq, inR_pure, inR_len]; rfl) (by simp only [go_sem, seval, sC_eq, inR_pure, inR_len]) (fun h70 => ?_) (fun h70 => ?_)
        · simp at h39 h55; have q := emitType_end h39.1 h55 h39.2; simp [q.1, q.2.1] at h70
        · refine AWp.skip ?_
          refine AWp.seq ?_
          refine AWp.seq ?_
          refine AWp.rgn [] (by simp only [go_sem, seval, sC_eq, inR_pure, inR_len]; rfl) ?_ ?_
          · (first | trivial | (simp; done))
          refine AWp.block ?_
          refine AWp.loopK (fun k : Nat => ⟨[.no, .no, .no, .pt 13 11 0 0, .no, .sl false (inR (emF s)), .no, .no, .no, .no, .sl false (inR (emF (tE s))), .i .i64 k, .no, .no, .no, .no, .no, .no, .no, .no, .no, .no, .no, .no, .no, .no, .no, .no, .no, .no, .no, .no, .no, .no, .no, .no, .no, .no, .no, .no, .no, .no, .no, .no, .no, .no, .no, .no, .no, .no, .no, .no, .no, .no, .no, .no, .no, .no, .no, .no, .no, .no, .no, .no, .no, .no, .no, .no, .no, .no, .no, .no, .no, .no, .no, .no, .no, .no, .no, .no, .no, .no, .no, .no, .no, .no, .no, .no, .no, .no, .no, .no, .no, .no, .no, .no, .no, .no, .no, .no, .no, .no, .no, .no], memOf [(13, ⟨42, 11, [sC s]⟩)], us [13]⟩) (fun k : Nat => k ≤ (emF (tE s)).length ∧ sok s = true ∧ sok (tE s) = true ∧ s.kind ≠ 0) (fun k : Nat => (emF (tE s)).length - k) (0) ?_ ?_ (fun k hI => ?_)
          · simp at h39 h55; exact ⟨by omega, h39.1, h55, h39.2⟩
          · exact Can.weak (Weak.lit (by simp only [go_sem, seval, sC_eq, inR_pure, inR_len, subM, leV, inns, innr, V.inn, us, true_or, or_true] <;> (simp)) (by simp only [go_sem, seval, sC_eq, inR_pure, inR_len, subM, leV, inns, innr, V.inn, us, true_or, or_true]) (by simp only [go_sem, seval, sC_eq, inR_pure, inR_len, subM, leV, inns, innr, V.inn, us, true_or, or_true]))
          refine AWp.seq ?_
          refine AWp.seq ?_
          refine AWp.rgn [] (by simp only [go_sem, seval, sC_eq, inR_pure, inR_len]; rfl) ?_ ?_
          · (first | trivial | (simp; done))
          refine AWp.condB (by simp only [go_sem, seval, sC_eq, inR_pure, inR_len]; rfl) (by simp only [go_sem, seval, sC_eq, inR_pure, inR_len]) (fun h74 => ?_) (fun h74 => ?_)
          · refine AWp.skip ?_
            refine AWp.seq ?_
            refine AWp.block ?_
            refine AWp.seq ?_
            refine AWp.rgnD [] enM (by simp only [go_sem, seval, sC_eq, inR_pure, inR_len, inR_get (show k < (emF (tE s)).length by simpa using h74), inR_get (show k < (emF s).length by have := (emitType_end hI.2.1 hI.2.2.1 hI.2.2.2).2.1; simp only [decide_eq_true_eq] at h74; omega)]; rfl) (by rfl) ?_ ?_
            · have q := emitType_end hI.2.1 hI.2.2.1 hI.2.2.2; simp only [decide_eq_true_eq] at h74; simp; omega
            refine AWp.condB (by simp only [go_sem, seval, sC_eq, inR_pure, inR_len]; rfl) (by simp only [go_sem, seval, sC_eq, inR_pure, inR_len]) (fun h103 => ?_) (fun h103 => ?_)
            · have q := emitType_end hI.2.1 hI.2.2.1 hI.2.2.2; simp only [decide_eq_true_eq] at h74; have q2 := q.2.2 k (by omega); rw [(decide_eq_decide.2 q2.1 : decide ((emF (tE s)).getD k 0 < 0) = decide ((emF s).getD k 0 < 0))] at h103; simp only [beq_self_eq_true, Bool.not_true, Bool.false_or, Bool.and_eq_true, decide_eq_true_eq, bne_iff_ne] at h103; exact absurd (q2.2 h103.2) (by omega)
            · refine AWp.skip ?_
              refine AWp.rgn [] (by simp only [go_sem, seval, sC_eq, inR_pure, inR_len]; rfl) ?_ ?_
              · (first | trivial | (simp; done))
              refine Exists.intro (k + 1) ⟨?_, ?_, ?_⟩
              · simp at h74; exact ⟨by omega, hI.2⟩
              · simp at h74; omega
              exact Can.weak (Weak.lit (by simp only [go_sem, seval, sC_eq, inR_pure, inR_len, subM, leV, inns, innr, V.inn, us, true_or, or_true] <;> ((have q := (emitType_end hI.2.1 hI.2.2.1 hI.2.2.2).2.1); rw [wrap64 (by simp at h74; omega) (by simp at h74; omega)]; simp)) (by simp only [go_sem, seval, sC_eq, inR_pure, inR_len, subM, leV, inns, innr, V.inn, us, true_or, or_true]) (by simp only [go_sem, seval, sC_eq, inR_pure, inR_len, subM, leV, inns, innr, V.inn, us, true_or, or_true]))
          · refine AWp.exit ?_
            refine AWp.seq ?_
            refine AWp.rgn [] (by simp only [go_sem, seval, sC_eq, inR_pure, inR_len]; rfl) ?_ ?_
            · (first | trivial | (simp; done))
            refine AWp.ret (And.intro (.inr rfl) ?_)
            exact Out.plain (by simp only [Tryz.results7]; rfl) (by simp only [resCs, resC, go_sem, seval, sC_eq, inR_pure, inR_len] <;> (split <;> rfl)) (by simp only [resV, go_sem, seval, sC_eq, inR_pure, inR_len] <;> (simp)) (by simp only [go_sem, seval, sC_eq, inR_pure, inR_len])
end Go.Proofs.YthljacdbmhonfaaGreatDoor
