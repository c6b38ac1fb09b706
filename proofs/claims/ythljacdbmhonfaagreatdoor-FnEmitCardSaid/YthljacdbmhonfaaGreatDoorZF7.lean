/- The law FnEmit: what it answers. Conditions: none. -/
import Derived.Test.YthljacdbmhonfaaGreatDoorZF6
set_option linter.unusedVariables false
set_option linter.unusedSimpArgs false
namespace Go.Proofs.YthljacdbmhonfaaGreatDoor
set_option maxRecDepth 100000
set_option maxHeartbeats 8000000

theorem emT_bofOk {s : Sl} (h : sok s = true) : btxt (bofOk s) = emT s := by
  rw [emT_btxt h]; unfold bofOk; rw [if_pos h]
theorem tri_or (c w p s i n : Str) (_ : Unit) : ((¬ c = w → w = p → ¬ c = p) ∧ (¬ c = w → ¬ w = p ∨ ¬ c = s → w = i → ¬ c = i)) ∧ ((¬ c = w → ¬ w = p ∨ ¬ c = s → w = i ∧ c = n) → (c = w ∨ w = p ∧ c = s) ∨ w = i ∧ c = n) := by
  refine ⟨⟨fun h1 h2 h3 => h1 (h3.trans h2.symm), fun h1 _ h2 h3 => h1 (h3.trans h2.symm)⟩, fun h => ?_⟩
  by_cases hA : c = w
  · exact .inl (.inl hA)
  · by_cases hP : w = p ∧ c = s
    · exact .inl (.inr hP)
    · exact .inr (h hA (Classical.not_and_iff_not_or_not.1 hP))
theorem lawEmit_a (b : Str) : ACall En 10 [.sl false (byR b)] [] [.b true] [] := by
  have D := dl5_p (b.take 2000) (p := 0) (by decide) (by decide)
  generalize hx : (dl5 (b.take 2000) 0).1 = s at D
  have DR := DrawEmitLine_a b
  rw [hx] at DR
  obtain ⟨_, _, hs⟩ := D
  have hb := smb_bofOk hs
  have l1 := emT_len s
  have l2 := stxt_len s
  have T1 := TokLine_a (emT s) (by omega)
  have T2 := TokLine_a (stxt s) (by omega)
  have b1 := tokLine_len (emT s)
  have b2 := tokLine_len (stxt s)
  generalize hts : (tokLine (emT s)).getD [] = ts at T1 b1
  generalize htl : (tokLine (stxt s)).getD [] = tl at T2 b2
  have ht1 : sok s = true → ts = tkOf 0 (bw (bof s)) := fun h => by rw [← hts, tok_emT h]; rfl
  have ht2 : sok s = true → tl = tkOf 0 (sw' s) := fun h => by rw [← htl, tok_stxt h]; rfl
  have hlen : sok s = true → (emF s).length = ts.length := fun h => by rw [emF_len h, ht1 h, tkOf_len]
  have hno : ¬ sok s = true → emT s = [] ∧ emF s = [] := fun h => by simp [emT, emF, h]
  have hat : sok s = true → ∀ k, k < ts.length → ((emF s).getD k 0 = -1 ∧ ((ts.getD k ⟨0, [], 0⟩).s = [40] ∨ (ts.getD k ⟨0, [], 0⟩).s = [41] ∨ (ts.getD k ⟨0, [], 0⟩).s = [58])) ∨
      (0 ≤ (emF s).getD k 0 ∧ lastF ((emF s).take k) < (emF s).getD k 0 ∧ (cameF tl ((emF s).getD k 0) = (ts.getD k ⟨0, [], 0⟩).s ∨ (cameF tl ((emF s).getD k 0) = wSay ∧ (ts.getD k ⟨0, [], 0⟩).s = wPrint) ∨ (cameF tl ((emF s).getD k 0) = wWhen ∧ (ts.getD k ⟨0, [], 0⟩).s = wIf))) := fun h k hk => by
    rw [ht1 h, tkOf_len] at hk
    rw [ht1 h, ht2 h, emF_eq h, tkOf_get _ _ hk]
    rcases from_at (sok_0 h) hk with ⟨q1, q⟩ | ⟨j, hj, _, j2, q⟩
    · exact .inl ⟨q1, q⟩
    · right
      have h0 : 0 ≤ (fromI s).getD k 0 := by rw [j2, colsOf_at _ _ hj]; omega
      refine ⟨h0, last_lt (sok_0 h) hk h0, ?_⟩
      rw [j2, came_at hj]
      exact q
  have hll : sok s = true → ∀ k, k < ts.length → lastF ((emF s).take (k + 1)) = if (emF s).getD k 0 < 0 then lastF ((emF s).take k) else (emF s).getD k 0 := fun h k hk => lastF_snoc (by rw [hlen h]; exact hk)
  refine acall_of_body (fn := Tryz.f10) [] Tryz.func10 rfl rfl (by simp) fun C => ?_
  rw [entry_eq]
  simp only [Tryz.ntmps10, List.length_cons, List.length_nil, Nat.reduceAdd, Nat.reduceSub, List.replicate_succ, List.replicate_zero, List.cons_append, List.nil_append, numL]
  refine AWp.seq ?_
  refine AWp.rgn [] (by simp only [go_sem, seval, sC_eq, bC_eq, inR_pure, inR_len, tkR_pure, tkR_len]; rfl) ?_ ?_
  · (first | trivial | (simp; done))
  refine AWp.seq ?_
  refine AWp.seq ?_
  refine AWp.rgn [] (by simp only [go_sem, seval, sC_eq, bC_eq, inR_pure, inR_len, tkR_pure, tkR_len]; rfl) ?_ ?_
  · (first | trivial | (simp; done))
  refine AWp.condB (by simp only [go_sem, seval, sC_eq, bC_eq, inR_pure, inR_len, tkR_pure, tkR_len]; rfl) (by simp only [go_sem, seval, sC_eq, bC_eq, inR_pure, inR_len, tkR_pure, tkR_len]) (fun h19 => ?_) (fun h19 => ?_)
  · refine AWp.seq ?_
    refine AWp.rgn [] (by simp only [go_sem, seval, sC_eq, bC_eq, inR_pure, inR_len, tkR_pure, tkR_len]; rfl) ?_ ?_
    · (first | trivial | (simp; done))
    refine AWp.ret (And.intro (.inr rfl) ?_)
    exact Out.plain (by simp only [Tryz.results10]; rfl) (by simp only [resCs, resC, go_sem, seval, sC_eq, bC_eq, inR_pure, inR_len, tkR_pure, tkR_len] <;> (split <;> rfl)) (by simp only [resV, go_sem, seval, sC_eq, bC_eq, inR_pure, inR_len, tkR_pure, tkR_len] <;> (simp)) (by simp only [go_sem, seval, sC_eq, bC_eq, inR_pure, inR_len, tkR_pure, tkR_len])
  · refine AWp.skip ?_
    refine AWp.seq ?_
    refine AWp.rgn [call0 DR] (by simp only [go_sem, seval, sC_eq, bC_eq, inR_pure, inR_len, tkR_pure, tkR_len]; rfl) ?_ ?_
    · (first | trivial | (simp; done))
    refine AWp.seq ?_
    refine AWp.rgn [call0 (iEmitLine_a s hs)] (by simp only [go_sem, seval, sC_eq, bC_eq, inR_pure, inR_len, tkR_pure, tkR_len]; rfl) ?_ ?_
    · (first | trivial | (simp; done))
    refine AWp.seq ?_
    refine AWp.rgn [call0 (sEmitLine_a s hs)] (by simp only [go_sem, seval, sC_eq, bC_eq, inR_pure, inR_len, tkR_pure, tkR_len]; rfl) ?_ ?_
    · (first | trivial | (simp; done))
    refine AWp.seq ?_
    refine AWp.seq ?_
    refine AWp.rgn [] (by simp only [go_sem, seval, sC_eq, bC_eq, inR_pure, inR_len, tkR_pure, tkR_len]; rfl) ?_ ?_
    · (first | trivial | (simp; done))
    refine AWp.condB (by simp only [go_sem, seval, sC_eq, bC_eq, inR_pure, inR_len, tkR_pure, tkR_len]; rfl) (by simp only [go_sem, seval, sC_eq, bC_eq, inR_pure, inR_len, tkR_pure, tkR_len]) (fun h41 => ?_) (fun h41 => ?_)
    · simp at h41
    · refine AWp.skip ?_
      refine AWp.seq ?_
      refine AWp.seq ?_
      refine AWp.rgn [call0 (sStmtOk_a s hs)] (by simp only [go_sem, seval, sC_eq, bC_eq, inR_pure, inR_len, tkR_pure, tkR_len]; rfl) ?_ ?_
      · (first | trivial | (simp; done))
      refine AWp.condB (by simp only [go_sem, seval, sC_eq, bC_eq, inR_pure, inR_len, tkR_pure, tkR_len]; rfl) (by simp only [go_sem, seval, sC_eq, bC_eq, inR_pure, inR_len, tkR_pure, tkR_len]) (fun h44 => ?_) (fun h44 => ?_)
      · refine AWp.seq ?_
        refine AWp.rgn [] (by simp only [go_sem, seval, sC_eq, bC_eq, inR_pure, inR_len, tkR_pure, tkR_len]; rfl) ?_ ?_
        · (first | trivial | (simp; done))
        refine AWp.ret (And.intro (.inr rfl) ?_)
        exact Out.plain (by simp only [Tryz.results10]; rfl) (by simp only [resCs, resC, go_sem, seval, sC_eq, bC_eq, inR_pure, inR_len, tkR_pure, tkR_len] <;> (split <;> rfl)) (by simp only [resV, go_sem, seval, sC_eq, bC_eq, inR_pure, inR_len, tkR_pure, tkR_len] <;> (have q := hno (by simpa using h44); simp [q.1, q.2])) (by simp only [go_sem, seval, sC_eq, bC_eq, inR_pure, inR_len, tkR_pure, tkR_len])
      · refine AWp.skip ?_
        refine AWp.seq ?_
        refine AWp.seq ?_
        refine AWp.rgn [call0 (iBareOf_a s hs), call0 (iBareText_a (bofOk s) hb)] (by simp only [go_sem, seval, sC_eq, bC_eq, inR_pure, inR_len, tkR_pure, tkR_len]; rfl) ?_ ?_
        · (first | trivial | (simp; done))
        refine AWp.condB (by simp only [go_sem, seval, sC_eq, bC_eq, inR_pure, inR_len, tkR_pure, tkR_len]; rfl) (by simp only [go_sem, seval, sC_eq, bC_eq, inR_pure, inR_len, tkR_pure, tkR_len]) (fun h56 => ?_) (fun h56 => ?_)
        · simp only [Bool.not_eq_false'] at h44; rw [emT_bofOk h44] at h56; simp at h56
        · refine AWp.skip ?_
          refine AWp.seq ?_
          refine AWp.rgn [call0 (iStmtText_a s hs)] (by simp only [go_sem, seval, sC_eq, bC_eq, inR_pure, inR_len, tkR_pure, tkR_len]; rfl) ?_ ?_
          · (first | trivial | (simp; done))
          refine AWp.seq ?_
          refine AWp.rgn [call0 T1] (by simp only [go_sem, seval, sC_eq, bC_eq, inR_pure, inR_len, tkR_pure, tkR_len]; rfl) ?_ ?_
          · (first | trivial | (simp; done))
          refine AWp.seq ?_
          refine AWp.rgn [call0 T2] (by simp only [go_sem, seval, sC_eq, bC_eq, inR_pure, inR_len, tkR_pure, tkR_len]; rfl) ?_ ?_
          · (first | trivial | (simp; done))
          refine AWp.seq ?_
          refine AWp.seq ?_
          refine AWp.rgn [] (by simp only [go_sem, seval, sC_eq, bC_eq, inR_pure, inR_len, tkR_pure, tkR_len]; rfl) ?_ ?_
          · (first | trivial | (simp; done))
          refine AWp.condB (by simp only [go_sem, seval, sC_eq, bC_eq, inR_pure, inR_len, tkR_pure, tkR_len]; rfl) (by simp only [go_sem, seval, sC_eq, bC_eq, inR_pure, inR_len, tkR_pure, tkR_len]) (fun h73 => ?_) (fun h73 => ?_)
          · simp only [Bool.not_eq_false'] at h44; rw [hlen h44] at h73; simp at h73
          · refine AWp.skip ?_
            refine AWp.seq ?_
            refine AWp.rgn [] (by simp only [go_sem, seval, sC_eq, bC_eq, inR_pure, inR_len, tkR_pure, tkR_len]; rfl) ?_ ?_
            · (first | trivial | (simp; done))
            refine AWp.seq ?_
            refine AWp.seq ?_
            refine AWp.rgn [] (by simp only [go_sem, seval, sC_eq, bC_eq, inR_pure, inR_len, tkR_pure, tkR_len]; rfl) ?_ ?_
            · (first | trivial | (simp; done))
            refine AWp.block ?_
            refine AWp.loopK (fun k : Nat => ⟨[.no, .no, .no, .no, .no, .sl false (inR (emF s)), .no, .sl false (inR (emF s)), .no, .sl false (tkR ts), .no, .sl false (tkR tl), .no, .i .i64 (lastF ((emF s).take k)), .i .i64 k, .no, .no, .no, .no, .no, .no, .no, .no, .no, .no, .no, .no, .no, .no, .no, .no, .no, .no, .no, .no, .no, .no, .no, .no, .no, .no, .no, .no, .no, .no, .no, .no, .no, .no, .no, .no, .no, .no, .no, .no, .no, .no, .no, .no, .no, .no, .no, .no, .no, .no, .no, .no, .no, .no, .no, .no, .no, .no, .no, .no, .no, .no, .no, .no, .no, .no, .no, .no, .no, .no, .no, .no, .no, .no, .no, .no, .no, .no, .no, .no, .no, .no, .no, .no, .no, .no, .no, .no, .no, .no, .no, .no, .no, .no, .no, .no, .no, .no, .no, .no, .no, .no, .no, .no, .no, .no, .no, .no, .no, .no, .no, .no, .no, .no, .no, .no, .no, .no, .no, .no, .no, .no, .no, .no, .no, .no, .no, .no, .no, .no, .no, .no, .no, .no, .no, .no, .no, .no, .no, .no, .no, .no, .no, .no, .no, .no, .no, .no, .no, .no, .no, .no, .no, .no, .no, .no, .no, .no, .no, .no, .no, .no, .no, .no, .no, .no, .no], memOf [], us []⟩) (fun k : Nat => k ≤ ts.length ∧ sok s = true) (fun k : Nat => ts.length - k) (0) ?_ ?_ (fun k hI => ?_)
            · exact ⟨by simp, by simpa using h44⟩
            · exact Can.weak (Weak.lit (by simp only [go_sem, seval, sC_eq, bC_eq, inR_pure, inR_len, tkR_pure, tkR_len, subM, leV, inns, innr, V.inn, us, true_or, or_true] <;> (simp [lastF])) (by simp only [go_sem, seval, sC_eq, bC_eq, inR_pure, inR_len, tkR_pure, tkR_len, subM, leV, inns, innr, V.inn, us, true_or, or_true]) (by simp only [go_sem, seval, sC_eq, bC_eq, inR_pure, inR_len, tkR_pure, tkR_len, subM, leV, inns, innr, V.inn, us, true_or, or_true]))
            refine AWp.seq ?_
            refine AWp.seq ?_
            refine AWp.rgn [] (by simp only [go_sem, seval, sC_eq, bC_eq, inR_pure, inR_len, tkR_pure, tkR_len]; rfl) ?_ ?_
            · (first | trivial | (simp; done))
            refine AWp.condB (by simp only [go_sem, seval, sC_eq, bC_eq, inR_pure, inR_len, tkR_pure, tkR_len]; rfl) (by simp only [go_sem, seval, sC_eq, bC_eq, inR_pure, inR_len, tkR_pure, tkR_len]) (fun h77 => ?_) (fun h77 => ?_)
            · refine AWp.skip ?_
              refine AWp.seq ?_
              refine AWp.block ?_
              refine AWp.seq ?_
              refine AWp.seq ?_
              refine AWp.rgnD [] enM (by simp only [go_sem, seval, sC_eq, bC_eq, inR_pure, inR_len, tkR_pure, tkR_len, inR_get (show k < (emF s).length by rw [hlen hI.2]; simpa using h77)]; rfl) (by rfl) ?_ ?_
              · have hk : k < ts.length := (by simpa using h77); have := hlen hI.2; simp; omega
              refine AWp.condB (by simp only [go_sem, seval, sC_eq, bC_eq, inR_pure, inR_len, tkR_pure, tkR_len]; rfl) (by simp only [go_sem, seval, sC_eq, bC_eq, inR_pure, inR_len, tkR_pure, tkR_len]) (fun h88 => ?_) (fun h88 => ?_)
              · simp at h88
              · refine AWp.skip ?_
                refine AWp.seq ?_
                refine AWp.seq ?_
                refine AWp.rgn [] (by simp only [go_sem, seval, sC_eq, bC_eq, inR_pure, inR_len, tkR_pure, tkR_len, inR_get (show k < (emF s).length by rw [hlen hI.2]; simpa using h77)]; rfl) ?_ ?_
                · have hk : k < ts.length := (by simpa using h77); have := hlen hI.2; simp; omega
                refine AWp.condB (by simp only [go_sem, seval, sC_eq, bC_eq, inR_pure, inR_len, tkR_pure, tkR_len]; rfl) (by simp only [go_sem, seval, sC_eq, bC_eq, inR_pure, inR_len, tkR_pure, tkR_len]) (fun h93 => ?_) (fun h93 => ?_)
                · refine AWp.seq ?_
                  refine AWp.seq ?_
                  refine AWp.rgn [] (by simp only [go_sem, seval, sC_eq, bC_eq, inR_pure, inR_len, tkR_pure, tkR_len, tkR_get (show k < ts.length by simpa using h77)]; rfl) ?_ ?_
                  · have hk : k < ts.length := (by simpa using h77); simp [hk]
                  refine AWp.condB (by simp only [go_sem, seval, sC_eq, bC_eq, inR_pure, inR_len, tkR_pure, tkR_len]; rfl) (by simp only [go_sem, seval, sC_eq, bC_eq, inR_pure, inR_len, tkR_pure, tkR_len]) (fun h115 => ?_) (fun h115 => ?_)
                  · rcases hat hI.2 k (by simpa using h77) with ⟨_, q | q | q⟩ | ⟨q, _⟩; (rw [q] at h115; simp at h115); (rw [q] at h115; simp at h115); (rw [q] at h115; simp at h115); (simp only [decide_eq_true_eq] at h93; omega)
                  · refine AWp.skip ?_
                    refine AWp.exit ?_
                    refine AWp.rgn [] (by simp only [go_sem, seval, sC_eq, bC_eq, inR_pure, inR_len, tkR_pure, tkR_len]; rfl) ?_ ?_
                    · (first | trivial | (simp; done))
                    refine Exists.intro (k + 1) ⟨?_, ?_, ?_⟩
                    · simp at h77; exact ⟨by omega, hI.2⟩
                    · simp at h77; omega
                    exact Can.weak (Weak.lit (by simp only [go_sem, seval, sC_eq, bC_eq, inR_pure, inR_len, tkR_pure, tkR_len, subM, leV, inns, innr, V.inn, us, true_or, or_true] <;> ((have hk : k < ts.length := (by simpa using h77)); (have q := hll hI.2 k hk); rw [if_pos (by simpa using h93)] at q; rw [q, wrap64 (by omega) (by omega)]; simp)) (by simp only [go_sem, seval, sC_eq, bC_eq, inR_pure, inR_len, tkR_pure, tkR_len, subM, leV, inns, innr, V.inn, us, true_or, or_true]) (by simp only [go_sem, seval, sC_eq, bC_eq, inR_pure, inR_len, tkR_pure, tkR_len, subM, leV, inns, innr, V.inn, us, true_or, or_true]))
                · refine AWp.skip ?_
                  refine AWp.seq ?_
                  refine AWp.rgn [] (by simp only [go_sem, seval, sC_eq, bC_eq, inR_pure, inR_len, tkR_pure, tkR_len]; rfl) ?_ ?_
                  · (first | trivial | (simp; done))
                  refine AWp.seq ?_
                  refine AWp.seq ?_
                  refine AWp.rgn [] (by simp only [go_sem, seval, sC_eq, bC_eq, inR_pure, inR_len, tkR_pure, tkR_len]; rfl) ?_ ?_
                  · (first | trivial | (simp; done))
                  refine AWp.block ?_
                  refine AWp.loopK (fun j : Nat => ⟨[.no, .no, .no, .no, .no, .sl false (inR (emF s)), .no, .sl false (inR (emF s)), .no, .sl false (tkR ts), .no, .sl false (tkR tl), .no, .i .i64 (lastF ((emF s).take k)), .i .i64 k, .s (cameF (tl.take j) ((emF s).getD k 0)), .i .i64 j, .no, .no, .no, .no, .no, .no, .no, .no, .no, .no, .no, .no, .no, .no, .no, .no, .no, .no, .no, .no, .no, .no, .no, .no, .no, .no, .no, .no, .no, .no, .no, .no, .no, .no, .no, .no, .no, .no, .no, .no, .no, .no, .no, .no, .no, .no, .no, .no, .no, .no, .no, .no, .no, .no, .no, .no, .no, .no, .no, .no, .no, .no, .no, .no, .no, .no, .no, .no, .no, .no, .no, .no, .no, .no, .no, .no, .no, .no, .no, .no, .no, .no, .no, .no, .no, .no, .no, .no, .no, .no, .no, .no, .no, .no, .no, .no, .no, .no, .no, .no, .no, .no, .no, .no, .no, .no, .no, .no, .no, .no, .no, .no, .no, .no, .no, .no, .no, .no, .no, .no, .no, .no, .no, .no, .no, .no, .no, .no, .no, .no, .no, .no, .no, .no, .no, .no, .no, .no, .no, .no, .no, .no, .no, .no, .no, .no, .no, .no, .no, .no, .no, .no, .no, .no, .no, .no, .no, .no, .no, .no, .no, .no, .no, .no, .no], memOf [], us []⟩) (fun j : Nat => j ≤ tl.length ∧ k < ts.length ∧ sok s = true) (fun j : Nat => tl.length - j) (0) ?_ ?_ (fun j hI => ?_)
                  · exact ⟨by simp, by simpa using h77, hI.2⟩
                  · exact Can.weak (Weak.lit (by simp only [go_sem, seval, sC_eq, bC_eq, inR_pure, inR_len, tkR_pure, tkR_len, subM, leV, inns, innr, V.inn, us, true_or, or_true] <;> (simp [cameF])) (by simp only [go_sem, seval, sC_eq, bC_eq, inR_pure, inR_len, tkR_pure, tkR_len, subM, leV, inns, innr, V.inn, us, true_or, or_true]) (by simp only [go_sem, seval, sC_eq, bC_eq, inR_pure, inR_len, tkR_pure, tkR_len, subM, leV, inns, innr, V.inn, us, true_or, or_true]))
                  refine AWp.seq ?_
                  refine AWp.seq ?_
                  refine AWp.rgn [] (by simp only [go_sem, seval, sC_eq, bC_eq, inR_pure, inR_len, tkR_pure, tkR_len]; rfl) ?_ ?_
                  · (first | trivial | (simp; done))
                  refine AWp.condB (by simp only [go_sem, seval, sC_eq, bC_eq, inR_pure, inR_len, tkR_pure, tkR_len]; rfl) (by simp only [go_sem, seval, sC_eq, bC_eq, inR_pure, inR_len, tkR_pure, tkR_len]) (fun h119 => ?_) (fun h119 => ?_)
                  · refine AWp.skip ?_
                    refine AWp.seqJ (fun u : Unit => ⟨[.no, .no, .no, .no, .no, .sl false (inR (emF s)), .no, .sl false (inR (emF s)), .no, .sl false (tkR ts), .no, .sl false (tkR tl), .no, .i .i64 (lastF ((emF s).take k)), .i .i64 k, .s (cameF (tl.take (j + 1)) ((emF s).getD k 0)), .i .i64 j, .no, .no, .no, .no, .no, .no, .no, .no, .no, .no, .no, .no, .no, .no, .no, .no, .no, .no, .no, .no, .no, .no, .no, .no, .no, .no, .no, .no, .no, .no, .no, .no, .no, .no, .no, .no, .no, .no, .no, .no, .no, .no, .no, .no, .no, .no, .no, .no, .no, .no, .no, .no, .no, .no, .no, .no, .no, .no, .no, .no, .no, .no, .no, .no, .no, .no, .no, .no, .no, .no, .no, .no, .no, .no, .no, .no, .no, .no, .no, .no, .no, .no, .no, .no, .no, .no, .no, .no, .no, .no, .no, .no, .no, .no, .no, .no, .no, .no, .no, .no, .no, .no, .no, .no, .no, .no, .no, .no, .no, .no, .no, .no, .no, .no, .no, .no, .no, .no, .no, .no, .no, .no, .no, .no, .no, .no, .no, .no, .no, .no, .no, .no, .no, .no, .no, .no, .no, .no, .no, .no, .no, .no, .no, .no, .no, .no, .no, .no, .no, .no, .no, .no, .no, .no, .no, .no, .no, .no, .no, .no, .no, .no, .no, .no, .no], memOf [], us []⟩) (fun u : Unit => True) ?_ (fun u hJ => ?_)
                    · refine AWp.block ?_
                      refine AWp.seq ?_
                      refine AWp.rgnD [] enM (by simp only [go_sem, seval, sC_eq, bC_eq, inR_pure, inR_len, tkR_pure, tkR_len, tkR_get (show j < tl.length by simpa using h119), inR_get (show k < (emF s).length by rw [hlen hI.2.2]; exact hI.2.1)]; rfl) (by rfl) ?_ ?_
                      · have hk : j < tl.length := (by simpa using h119); have := hlen hI.2.2; simp; omega
                      refine AWp.condB (by simp only [go_sem, seval, sC_eq, bC_eq, inR_pure, inR_len, tkR_pure, tkR_len]; rfl) (by simp only [go_sem, seval, sC_eq, bC_eq, inR_pure, inR_len, tkR_pure, tkR_len]) (fun h131 => ?_) (fun h131 => ?_)
                      · refine AWp.rgn [] (by simp only [go_sem, seval, sC_eq, bC_eq, inR_pure, inR_len, tkR_pure, tkR_len, tkR_get (show j < tl.length by simpa using h119)]; rfl) ?_ ?_
                        · have hk : j < tl.length := (by simpa using h119); simp; omega
                        refine Exists.intro (()) ⟨?_, ?_⟩
                        · trivial
                        exact Can.weak (Weak.lit (by simp only [go_sem, seval, sC_eq, bC_eq, inR_pure, inR_len, tkR_pure, tkR_len, subM, leV, inns, innr, V.inn, us, true_or, or_true] <;> ((have hk : j < tl.length := (by simpa using h119)); rw [cameF_snoc hk]; (first | (rw [if_pos (by simpa using h131)]; done) | (rw [if_neg (by simpa using h131)]; done) | trace_state))) (by simp only [go_sem, seval, sC_eq, bC_eq, inR_pure, inR_len, tkR_pure, tkR_len, subM, leV, inns, innr, V.inn, us, true_or, or_true]) (by simp only [go_sem, seval, sC_eq, bC_eq, inR_pure, inR_len, tkR_pure, tkR_len, subM, leV, inns, innr, V.inn, us, true_or, or_true]))
                      · refine AWp.skip ?_
                        refine Exists.intro (()) ⟨?_, ?_⟩
                        · trivial
                        exact Can.weak (Weak.lit (by simp only [go_sem, seval, sC_eq, bC_eq, inR_pure, inR_len, tkR_pure, tkR_len, subM, leV, inns, innr, V.inn, us, true_or, or_true] <;> ((have hk : j < tl.length := (by simpa using h119)); rw [cameF_snoc hk]; (first | (rw [if_pos (by simpa using h131)]; done) | (rw [if_neg (by simpa using h131)]; done) | trace_state))) (by simp only [go_sem, seval, sC_eq, bC_eq, inR_pure, inR_len, tkR_pure, tkR_len, subM, leV, inns, innr, V.inn, us, true_or, or_true]) (by simp only [go_sem, seval, sC_eq, bC_eq, inR_pure, inR_len, tkR_pure, tkR_len, subM, leV, inns, innr, V.inn, us, true_or, or_true]))
                    refine AWp.rgn [] (by simp only [go_sem, seval, sC_eq, bC_eq, inR_pure, inR_len, tkR_pure, tkR_len]; rfl) ?_ ?_
                    · (first | trivial | (simp; done))
                    refine Exists.intro (j + 1) ⟨?_, ?_, ?_⟩
                    · simp at h119; exact ⟨by omega, hI.2⟩
                    · simp at h119; omega
                    exact Can.weak (Weak.lit (by simp only [go_sem, seval, sC_eq, bC_eq, inR_pure, inR_len, tkR_pure, tkR_len, subM, leV, inns, innr, V.inn, us, true_or, or_true] <;> (rw [wrap64 (by simp at h119; omega) (by simp at h119; omega)]; simp)) (by simp only [go_sem, seval, sC_eq, bC_eq, inR_pure, inR_len, tkR_pure, tkR_len, subM, leV, inns, innr, V.inn, us, true_or, or_true]) (by simp only [go_sem, seval, sC_eq, bC_eq, inR_pure, inR_len, tkR_pure, tkR_len, subM, leV, inns, innr, V.inn, us, true_or, or_true]))
                  · refine AWp.exit ?_
                    refine AWp.seq ?_
                    refine AWp.seq ?_
                    refine AWp.rgn [] (by simp only [go_sem, seval, sC_eq, bC_eq, inR_pure, inR_len, tkR_pure, tkR_len, tkR_get hI.2.1, inR_get (show k < (emF s).length by rw [hlen hI.2.2]; exact hI.2.1)]; rfl) ?_ ?_
                    · have hk := hI.2.1; have := hlen hI.2.2; simp +contextual [hk, this]; exact tri_or _ _ _ _ _ _ ()
                    refine AWp.condB (by simp only [go_sem, seval, sC_eq, bC_eq, inR_pure, inR_len, tkR_pure, tkR_len]; rfl) (by simp only [go_sem, seval, sC_eq, bC_eq, inR_pure, inR_len, tkR_pure, tkR_len]) (fun h177 => ?_) (fun h177 => ?_)
                    · simp only [decide_eq_false_iff_not] at h119 h93; (obtain rfl : j = tl.length := (by omega)); rw [List.take_of_length_le (Nat.le_refl _)] at h177; rcases hat hI.2.2 k hI.2.1 with ⟨q, _⟩ | ⟨q0, q1, q | ⟨q, q2⟩ | ⟨q, q2⟩⟩; omega; (rw [decide_eq_false (show ¬ (emF s).getD k 0 ≤ lastF ((emF s).take k) by omega), q] at h177; simp at h177); (rw [decide_eq_false (show ¬ (emF s).getD k 0 ≤ lastF ((emF s).take k) by omega), q, q2] at h177; simp [wPrint, wSay] at h177); (rw [decide_eq_false (show ¬ (emF s).getD k 0 ≤ lastF ((emF s).take k) by omega), q, q2] at h177; simp [wIf, wWhen] at h177)
                    · refine AWp.skip ?_
                      refine AWp.rgn [] (by simp only [go_sem, seval, sC_eq, bC_eq, inR_pure, inR_len, tkR_pure, tkR_len, inR_get (show k < (emF s).length by rw [hlen hI.2.2]; exact hI.2.1)]; rfl) ?_ ?_
                      · have hk := hI.2.1; have := hlen hI.2.2; simp; omega
                      refine AWp.rgn [] (by simp only [go_sem, seval, sC_eq, bC_eq, inR_pure, inR_len, tkR_pure, tkR_len]; rfl) ?_ ?_
                      · (first | trivial | (simp; done))
                      refine Exists.intro (k + 1) ⟨?_, ?_, ?_⟩
                      · exact ⟨by omega, hI.2.2⟩
                      · omega
                      exact Can.weak (Weak.lit (by simp only [go_sem, seval, sC_eq, bC_eq, inR_pure, inR_len, tkR_pure, tkR_len, subM, leV, inns, innr, V.inn, us, true_or, or_true] <;> ((have hk := hI.2.1); (have q := hll hI.2.2 k hk); rw [if_neg (by simpa using h93)] at q; rw [q, wrap64 (by omega) (by omega)]; simp)) (by simp only [go_sem, seval, sC_eq, bC_eq, inR_pure, inR_len, tkR_pure, tkR_len, subM, leV, inns, innr, V.inn, us, true_or, or_true]) (by simp only [go_sem, seval, sC_eq, bC_eq, inR_pure, inR_len, tkR_pure, tkR_len, subM, leV, inns, innr, V.inn, us, true_or, or_true]))
            · refine AWp.exit ?_
              refine AWp.seq ?_
              refine AWp.rgn [] (by simp only [go_sem, seval, sC_eq, bC_eq, inR_pure, inR_len, tkR_pure, tkR_len]; rfl) ?_ ?_
              · (first | trivial | (simp; done))
              refine AWp.ret (And.intro (.inr rfl) ?_)
              exact Out.plain (by simp only [Tryz.results10]; rfl) (by simp only [resCs, resC, go_sem, seval, sC_eq, bC_eq, inR_pure, inR_len, tkR_pure, tkR_len] <;> (split <;> rfl)) (by simp only [resV, go_sem, seval, sC_eq, bC_eq, inR_pure, inR_len, tkR_pure, tkR_len] <;> (simp)) (by simp only [go_sem, seval, sC_eq, bC_eq, inR_pure, inR_len, tkR_pure, tkR_len])
end Go.Proofs.YthljacdbmhonfaaGreatDoor
