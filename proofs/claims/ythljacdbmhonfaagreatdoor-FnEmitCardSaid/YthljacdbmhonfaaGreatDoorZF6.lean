/- The law FnEmitNames: what it answers. Conditions: none. -/
import Derived.Test.YthljacdbmhonfaaGreatDoorKp
import Derived.Test.YthljacdbmhonfaaGreatDoorZF4
set_option linter.unusedVariables false
set_option linter.unusedSimpArgs false
namespace Go.Proofs.YthljacdbmhonfaaGreatDoor
set_option maxRecDepth 100000
set_option maxHeartbeats 4000000

def cntT (l : List Tk) : Int := ((l.map (·.s)).countP pw : Nat)
theorem cntT_snoc {l : List Tk} {k : Nat} (h : k < l.length) : cntT (l.take (k + 1)) = cntT (l.take k) + if pw (l.getD k ⟨0, [], 0⟩).s then 1 else 0 := by
  unfold cntT
  rw [List.take_add_one, List.getElem?_eq_getElem h, List.map_append, List.countP_append, List.getD_eq_getElem?_getD, List.getElem?_eq_getElem h]
  simp only [Option.toList_some, List.map_cons, List.map_nil, List.countP_cons, List.countP_nil, Option.getD_some]
  split <;> simp
theorem cntT_le (l : List Tk) : 0 ≤ cntT l ∧ cntT l ≤ l.length := by
  unfold cntT
  have := List.countP_le_length (p := pw) (l := l.map (·.s))
  rw [List.length_map] at this
  omega
theorem tok_stxt {s : Sl} (h : sok s = true) : tokLine (stxt s) = some (tkOf 0 (sw' s)) := by
  have := tok_stext h
  unfold stxt; rw [if_pos h]; exact this
theorem emT_btxt {s : Sl} (h : sok s = true) : emT s = btxt (bof s) := by
  unfold emT btxt; rw [if_pos h, if_pos (bok_bof h)]
theorem tok_emT {s : Sl} (h : sok s = true) : tokLine (emT s) = some (tkOf 0 (bw (bof s))) := by rw [emT_btxt h]; exact tok_btext' h
theorem emT_len (s : Sl) : (emT s).length ≤ 1000 := by
  unfold emT; split
  · rename_i h; exact bw_text (bok0_bof (sok_0 h))
  · simp
theorem stxt_len (s : Sl) : (stxt s).length ≤ 1000 := by
  unfold stxt; split
  · rename_i h; exact sw_text (sok_0 h)
  · simp
theorem emF_eq {s : Sl} (h : sok s = true) : emF s = fromI s := by unfold emF; rw [if_pos h]
theorem emF_len {s : Sl} (h : sok s = true) : (emF s).length = (bw (bof s)).length := by
  rw [emF_eq h, fromI_len, ← bsrc_bw (bok0_bof (sok_0 h)), List.length_map]
theorem pw_tk (l : List Str) {k : Nat} (h : k < l.length) : pw ((tkOf 0 l).getD k ⟨0, [], 0⟩).s = (((tkOf 0 l).getD k ⟨0, [], 0⟩).kind == 2 || ((tkOf 0 l).getD k ⟨0, [], 0⟩).s == [43] || ((tkOf 0 l).getD k ⟨0, [], 0⟩).s == [45] || ((tkOf 0 l).getD k ⟨0, [], 0⟩).s == [42] || ((tkOf 0 l).getD k ⟨0, [], 0⟩).s == [60]) := by
  rw [tkOf_get l 0 h]
  simp only [pw, isOp, Bool.or_assoc]
/-- the word is where it came from -/
theorem names_at {s : Sl} (h : sok s = true) {k : Nat} (hk : k < (bw (bof s)).length) (hp : pw ((bw (bof s)).getD k []) = true) :
    0 ≤ (fromI s).getD k 0 ∧ (fromI s).getD k 0 + ((bw (bof s)).getD k []).length ≤ (stxt s).length ∧ ((stxt s).drop ((fromI s).getD k 0).toNat).take ((bw (bof s)).getD k []).length = (bw (bof s)).getD k [] := by
  obtain ⟨p1, p2, p3, p4, p5, p6, p7, p8, p9, p10⟩ := pw_brk
  rcases from_at (sok_0 h) hk with ⟨_, q | q | q⟩ | ⟨j, hj, _, j2, q | ⟨_, q⟩ | ⟨_, q⟩⟩
  · rw [q, p1] at hp; cases hp
  · rw [q, p2] at hp; cases hp
  · rw [q, p4] at hp; cases hp
  · have e : stxt s = tokText (sw' s) := by unfold stxt; rw [if_pos h]
    have h1 := text_at (sw' s) hj
    have h2 := text_fit hj
    rw [q] at h1 h2
    rw [j2, colsOf_at _ _ hj, e]
    have e2 : (0 + (wid ((sw' s).take j) : Int)).toNat = wid ((sw' s).take j) := by omega
    rw [e2]
    exact ⟨by omega, by omega, h1⟩
  · rw [q, p9] at hp; cases hp
  · rw [q, p10] at hp; cases hp
theorem cntT_tk (l : List Str) : cntT (tkOf 0 l) = (l.countP pw : Nat) := by unfold cntT; rw [tkOf_s]
theorem lawEmitNames_a (b : Str) : ACall En 9 [.sl false (byR b)] [] [.b true] [] := by
  have D := dl5_p (b.take 2000) (p := 0) (by decide) (by decide)
  generalize hx : (dl5 (b.take 2000) 0).1 = s at D
  have DR := DrawEmitLine_a b
  rw [hx] at DR
  obtain ⟨_, _, hs⟩ := D
  have l1 := emT_len s
  have l2 := stxt_len s
  have T1 := TokLine_a (emT s) (by omega)
  have T2 := TokLine_a (stxt s) (by omega)
  have b1 := tokLine_len (emT s)
  have b2 := tokLine_len (stxt s)
  generalize hts : (tokLine (emT s)).getD [] = ts at T1 b1
  generalize htl : (tokLine (stxt s)).getD [] = tl at T2 b2
  have ht1 : sok s = true → ts = tkOf 0 (bw (bof s)) := fun h => by rw [← hts, tok_emT h]; rfl
  have ht2 : sok s = true → tl = tkOf 0 (sw' s) := fun h => by rw [← htl, tok_stxt h]; rfl
  have hp1 : sok s = true → ∀ k, k < ts.length → pw (ts.getD k ⟨0, [], 0⟩).s = ((ts.getD k ⟨0, [], 0⟩).kind == 2 || (ts.getD k ⟨0, [], 0⟩).s == [43] || (ts.getD k ⟨0, [], 0⟩).s == [45] || (ts.getD k ⟨0, [], 0⟩).s == [42] || (ts.getD k ⟨0, [], 0⟩).s == [60]) := fun h k hk => by
    rw [ht1 h] at hk ⊢; exact pw_tk _ (by rwa [tkOf_len] at hk)
  have hp2 : sok s = true → ∀ k, k < tl.length → pw (tl.getD k ⟨0, [], 0⟩).s = ((tl.getD k ⟨0, [], 0⟩).kind == 2 || (tl.getD k ⟨0, [], 0⟩).s == [43] || (tl.getD k ⟨0, [], 0⟩).s == [45] || (tl.getD k ⟨0, [], 0⟩).s == [42] || (tl.getD k ⟨0, [], 0⟩).s == [60]) := fun h k hk => by
    rw [ht2 h] at hk ⊢; exact pw_tk _ (by rwa [tkOf_len] at hk)
  have hlen : sok s = true → (emF s).length = ts.length := fun h => by rw [emF_len h, ht1 h, tkOf_len]
  have hat : sok s = true → ∀ k, k < ts.length → pw (ts.getD k ⟨0, [], 0⟩).s = true → 0 ≤ (emF s).getD k 0 ∧ (emF s).getD k 0 + (ts.getD k ⟨0, [], 0⟩).s.length ≤ (stxt s).length ∧ ((stxt s).drop ((emF s).getD k 0).toNat).take (ts.getD k ⟨0, [], 0⟩).s.length = (ts.getD k ⟨0, [], 0⟩).s := fun h k hk hp => by
    rw [ht1 h] at hk hp ⊢
    rw [tkOf_len] at hk
    rw [tkOf_get _ _ hk] at hp ⊢
    rw [emF_eq h]
    exact names_at h hk hp
  have hend : sok s = true → cntT ts = cntT tl := fun h => by rw [ht1 h, ht2 h, cntT_tk, cntT_tk, count_line (sok_0 h)]
  refine acall_of_body (fn := Tryz.f9) [] Tryz.func9 rfl rfl (by simp) fun C => ?_
  rw [entry_eq]
  simp only [Tryz.ntmps9, List.length_cons, List.length_nil, Nat.reduceAdd, Nat.reduceSub, List.replicate_succ, List.replicate_zero, List.cons_append, List.nil_append, numL]
  refine AWp.seq ?_
  refine AWp.rgn [] (by simp only [go_sem, seval, sC_eq, inR_pure, inR_len, tkR_pure, tkR_len]; rfl) ?_ ?_
  · (first | trivial | (simp; done))
  refine AWp.seq ?_
  refine AWp.seq ?_
  refine AWp.rgn [] (by simp only [go_sem, seval, sC_eq, inR_pure, inR_len, tkR_pure, tkR_len]; rfl) ?_ ?_
  · (first | trivial | (simp; done))
  refine AWp.condB (by simp only [go_sem, seval, sC_eq, inR_pure, inR_len, tkR_pure, tkR_len]; rfl) (by simp only [go_sem, seval, sC_eq, inR_pure, inR_len, tkR_pure, tkR_len]) (fun h18 => ?_) (fun h18 => ?_)
  · refine AWp.seq ?_
    refine AWp.rgn [] (by simp only [go_sem, seval, sC_eq, inR_pure, inR_len, tkR_pure, tkR_len]; rfl) ?_ ?_
    · (first | trivial | (simp; done))
    refine AWp.ret (And.intro (.inr rfl) ?_)
    exact Out.plain (by simp only [Tryz.results9]; rfl) (by simp only [resCs, resC, go_sem, seval, sC_eq, inR_pure, inR_len, tkR_pure, tkR_len] <;> (split <;> rfl)) (by simp only [resV, go_sem, seval, sC_eq, inR_pure, inR_len, tkR_pure, tkR_len] <;> (simp)) (by simp only [go_sem, seval, sC_eq, inR_pure, inR_len, tkR_pure, tkR_len])
  · refine AWp.skip ?_
    refine AWp.seq ?_
    refine AWp.rgn [call0 DR] (by simp only [go_sem, seval, sC_eq, inR_pure, inR_len, tkR_pure, tkR_len]; rfl) ?_ ?_
    · (first | trivial | (simp; done))
    refine AWp.seq ?_
    refine AWp.rgn [call0 (iEmitLine_a s hs)] (by simp only [go_sem, seval, sC_eq, inR_pure, inR_len, tkR_pure, tkR_len]; rfl) ?_ ?_
    · (first | trivial | (simp; done))
    refine AWp.seq ?_
    refine AWp.rgn [call0 (sEmitLine_a s hs)] (by simp only [go_sem, seval, sC_eq, inR_pure, inR_len, tkR_pure, tkR_len]; rfl) ?_ ?_
    · (first | trivial | (simp; done))
    refine AWp.seq ?_
    refine AWp.seq ?_
    refine AWp.rgn [call0 (sStmtOk_a s hs)] (by simp only [go_sem, seval, sC_eq, inR_pure, inR_len, tkR_pure, tkR_len]; rfl) ?_ ?_
    · (first | trivial | (simp; done))
    refine AWp.condB (by simp only [go_sem, seval, sC_eq, inR_pure, inR_len, tkR_pure, tkR_len]; rfl) (by simp only [go_sem, seval, sC_eq, inR_pure, inR_len, tkR_pure, tkR_len]) (fun h38 => ?_) (fun h38 => ?_)
    · refine AWp.seq ?_
      refine AWp.rgn [] (by simp only [go_sem, seval, sC_eq, inR_pure, inR_len, tkR_pure, tkR_len]; rfl) ?_ ?_
      · (first | trivial | (simp; done))
      refine AWp.ret (And.intro (.inr rfl) ?_)
      exact Out.plain (by simp only [Tryz.results9]; rfl) (by simp only [resCs, resC, go_sem, seval, sC_eq, inR_pure, inR_len, tkR_pure, tkR_len] <;> (split <;> rfl)) (by simp only [resV, go_sem, seval, sC_eq, inR_pure, inR_len, tkR_pure, tkR_len] <;> (simp)) (by simp only [go_sem, seval, sC_eq, inR_pure, inR_len, tkR_pure, tkR_len])
    · refine AWp.skip ?_
      refine AWp.seq ?_
      refine AWp.rgn [call0 T1] (by simp only [go_sem, seval, sC_eq, inR_pure, inR_len, tkR_pure, tkR_len]; rfl) ?_ ?_
      · (first | trivial | (simp; done))
      refine AWp.seq ?_
      refine AWp.rgn [call0 (iStmtText_a s hs)] (by simp only [go_sem, seval, sC_eq, inR_pure, inR_len, tkR_pure, tkR_len]; rfl) ?_ ?_
      · (first | trivial | (simp; done))
      refine AWp.seq ?_
      refine AWp.rgn [call0 T2] (by simp only [go_sem, seval, sC_eq, inR_pure, inR_len, tkR_pure, tkR_len]; rfl) ?_ ?_
      · (first | trivial | (simp; done))
      refine AWp.seq ?_
      refine AWp.rgn [] (by simp only [go_sem, seval, sC_eq, inR_pure, inR_len, tkR_pure, tkR_len]; rfl) ?_ ?_
      · (first | trivial | (simp; done))
      refine AWp.seq ?_
      refine AWp.seq ?_
      refine AWp.rgn [] (by simp only [go_sem, seval, sC_eq, inR_pure, inR_len, tkR_pure, tkR_len]; rfl) ?_ ?_
      · (first | trivial | (simp; done))
      refine AWp.block ?_
      refine AWp.loopK (fun k : Nat => ⟨[.no, .no, .no, .no, .no, .sl false (inR (emF s)), .no, .no, .sl false (tkR ts), .no, .s (stxt s), .sl false (tkR tl), .no, .i .i64 (cntT (ts.take k)), .i .i64 k, .no, .no, .no, .no, .no, .no, .no, .no, .no, .no, .no, .no, .no, .no, .no, .no, .no, .no, .no, .no, .no, .no, .no, .no, .no, .no, .no, .no, .no, .no, .no, .no, .no, .no, .no, .no, .no, .no, .no, .no, .no, .no, .no, .no, .no, .no, .no, .no, .no, .no, .no, .no, .no, .no, .no, .no, .no, .no, .no, .no, .no, .no, .no, .no, .no, .no, .no, .no, .no, .no, .no, .no, .no, .no, .no, .no, .no, .no, .no, .no, .no, .no, .no, .no, .no, .no, .no, .no, .no, .no, .no, .no, .no, .no, .no, .no, .no, .no, .no, .no, .no, .no, .no, .no, .no, .no, .no, .no, .no, .no, .no, .no, .no, .no, .no, .no, .no, .no, .no, .no, .no, .no, .no, .no, .no, .no, .no, .no, .no, .no, .no, .no, .no, .no, .no, .no, .no, .no, .no, .no, .no, .no, .no, .no, .no, .no, .no, .no, .no, .no, .no, .no, .no, .no, .no, .no, .no, .no, .no, .no, .no, .no, .no], memOf [], us []⟩) (fun k : Nat => k ≤ ts.length ∧ sok s = true) (fun k : Nat => ts.length - k) (0) ?_ ?_ (fun k hI => ?_)
      · exact ⟨by simp, by simpa using h38⟩
      · exact Can.weak (Weak.lit (by simp only [go_sem, seval, sC_eq, inR_pure, inR_len, tkR_pure, tkR_len, subM, leV, inns, innr, V.inn, us, true_or, or_true] <;> (simp [cntT])) (by simp only [go_sem, seval, sC_eq, inR_pure, inR_len, tkR_pure, tkR_len, subM, leV, inns, innr, V.inn, us, true_or, or_true]) (by simp only [go_sem, seval, sC_eq, inR_pure, inR_len, tkR_pure, tkR_len, subM, leV, inns, innr, V.inn, us, true_or, or_true]))
      refine AWp.seq ?_
      refine AWp.seq ?_
      refine AWp.rgn [] (by simp only [go_sem, seval, sC_eq, inR_pure, inR_len, tkR_pure, tkR_len]; rfl) ?_ ?_
      · (first | trivial | (simp; done))
      refine AWp.condB (by simp only [go_sem, seval, sC_eq, inR_pure, inR_len, tkR_pure, tkR_len]; rfl) (by simp only [go_sem, seval, sC_eq, inR_pure, inR_len, tkR_pure, tkR_len]) (fun h57 => ?_) (fun h57 => ?_)
      · refine AWp.skip ?_
        refine AWp.seqJ (fun u : Unit => ⟨[.no, .no, .no, .no, .no, .sl false (inR (emF s)), .no, .no, .sl false (tkR ts), .no, .s (stxt s), .sl false (tkR tl), .no, .i .i64 (cntT (ts.take (k + 1))), .i .i64 k, .no, .no, .no, .no, .no, .no, .no, .no, .no, .no, .no, .no, .no, .no, .no, .no, .no, .no, .no, .no, .no, .no, .no, .no, .no, .no, .no, .no, .no, .no, .no, .no, .no, .no, .no, .no, .no, .no, .no, .no, .no, .no, .no, .no, .no, .no, .no, .no, .no, .no, .no, .no, .no, .no, .no, .no, .no, .no, .no, .no, .no, .no, .no, .no, .no, .no, .no, .no, .no, .no, .no, .no, .no, .no, .no, .no, .no, .no, .no, .no, .no, .no, .no, .no, .no, .no, .no, .no, .no, .no, .no, .no, .no, .no, .no, .no, .no, .no, .no, .no, .no, .no, .no, .no, .no, .no, .no, .no, .no, .no, .no, .no, .no, .no, .no, .no, .no, .no, .no, .no, .no, .no, .no, .no, .no, .no, .no, .no, .no, .no, .no, .no, .no, .no, .no, .no, .no, .no, .no, .no, .no, .no, .no, .no, .no, .no, .no, .no, .no, .no, .no, .no, .no, .no, .no, .no, .no, .no, .no, .no, .no, .no, .no], memOf [], us []⟩) (fun u : Unit => True) ?_ (fun u hJ => ?_)
        · refine AWp.block ?_
          refine AWp.seq ?_
          refine AWp.rgn [] (by simp only [go_sem, seval, sC_eq, inR_pure, inR_len, tkR_pure, tkR_len, tkR_get (show k < ts.length by simpa using h57)]; rfl) ?_ ?_
          · have hk : k < ts.length := (by simpa using h57); simp [hk]
          refine AWp.condB (by simp only [go_sem, seval, sC_eq, inR_pure, inR_len, tkR_pure, tkR_len]; rfl) (by simp only [go_sem, seval, sC_eq, inR_pure, inR_len, tkR_pure, tkR_len]) (fun h97 => ?_) (fun h97 => ?_)
          · refine AWp.seq ?_
            refine AWp.rgn [] (by simp only [go_sem, seval, sC_eq, inR_pure, inR_len, tkR_pure, tkR_len]; rfl) ?_ ?_
            · (first | trivial | (simp; done))
            refine AWp.seq ?_
            refine AWp.rgnD [] enM (by simp only [go_sem, seval, sC_eq, inR_pure, inR_len, tkR_pure, tkR_len, tkR_get (show k < ts.length by simpa using h57), inR_get (show k < (emF s).length by rw [hlen hI.2]; simpa using h57), wrap64 (show -9223372036854775808 ≤ (emF s).getD k 0 + ((ts.getD k ⟨0, [], 0⟩).s.length : Int) by have q := hat hI.2 k (by simpa using h57) (by rw [hp1 hI.2 k (by simpa using h57)]; exact h97); omega) (by have q := hat hI.2 k (by simpa using h57) (by rw [hp1 hI.2 k (by simpa using h57)]; exact h97); omega)]; rfl) (by rfl) ?_ ?_
            · have hk : k < ts.length := (by simpa using h57); have hl := hlen hI.2; have q := hat hI.2 k hk (by rw [hp1 hI.2 k hk]; exact h97); have q2 : ¬ (emF s).getD k 0 < 0 := (by omega); simp [-List.getD_eq_getElem?_getD, q2, hl, hk]; omega
            refine AWp.condB (by simp only [go_sem, seval, sC_eq, inR_pure, inR_len, tkR_pure, tkR_len]; rfl) (by simp only [go_sem, seval, sC_eq, inR_pure, inR_len, tkR_pure, tkR_len]) (fun h129 => ?_) (fun h129 => ?_)
            · have hk : k < ts.length := (by simpa using h57); have q := hat hI.2 k hk (by rw [hp1 hI.2 k hk]; exact h97); have e1 : ((emF s).getD k 0 + ((ts.getD k ⟨0, [], 0⟩).s.length : Int)).toNat = ((emF s).getD k 0).toNat + (ts.getD k ⟨0, [], 0⟩).s.length := (by omega); rw [e1, piece_eq, q.2.2, decide_eq_false (by omega)] at h129; simp at h129
            · refine AWp.skip ?_
              refine Exists.intro (()) ⟨?_, ?_⟩
              · trivial
              exact Can.weak (Weak.lit (by simp only [go_sem, seval, sC_eq, inR_pure, inR_len, tkR_pure, tkR_len, subM, leV, inns, innr, V.inn, us, true_or, or_true] <;> ((have hk : k < ts.length := (by simpa using h57)); (have q := cntT_snoc hk); (have q2 := cntT_le (ts.take k)); (have q3 := hp1 hI.2 k hk); rw [h97] at q3; rw [q3] at q; simp at q; (first | (rw [q]; done) | (rw [wrap64 (by omega) (by simp at q2; omega), q]; done) | trace_state))) (by simp only [go_sem, seval, sC_eq, inR_pure, inR_len, tkR_pure, tkR_len, subM, leV, inns, innr, V.inn, us, true_or, or_true]) (by simp only [go_sem, seval, sC_eq, inR_pure, inR_len, tkR_pure, tkR_len, subM, leV, inns, innr, V.inn, us, true_or, or_true]))
          · refine AWp.skip ?_
            refine Exists.intro (()) ⟨?_, ?_⟩
            · trivial
            exact Can.weak (Weak.lit (by simp only [go_sem, seval, sC_eq, inR_pure, inR_len, tkR_pure, tkR_len, subM, leV, inns, innr, V.inn, us, true_or, or_true] <;> ((have hk : k < ts.length := (by simpa using h57)); (have q := cntT_snoc hk); (have q2 := cntT_le (ts.take k)); (have q3 := hp1 hI.2 k hk); rw [h97] at q3; rw [q3] at q; simp at q; (first | (rw [q]; done) | (rw [wrap64 (by omega) (by simp at q2; omega), q]; done) | trace_state))) (by simp only [go_sem, seval, sC_eq, inR_pure, inR_len, tkR_pure, tkR_len, subM, leV, inns, innr, V.inn, us, true_or, or_true]) (by simp only [go_sem, seval, sC_eq, inR_pure, inR_len, tkR_pure, tkR_len, subM, leV, inns, innr, V.inn, us, true_or, or_true]))
        refine AWp.rgn [] (by simp only [go_sem, seval, sC_eq, inR_pure, inR_len, tkR_pure, tkR_len]; rfl) ?_ ?_
        · (first | trivial | (simp; done))
        refine Exists.intro (k + 1) ⟨?_, ?_, ?_⟩
        · simp at h57; exact ⟨by omega, hI.2⟩
        · simp at h57; omega
        exact Can.weak (Weak.lit (by simp only [go_sem, seval, sC_eq, inR_pure, inR_len, tkR_pure, tkR_len, subM, leV, inns, innr, V.inn, us, true_or, or_true] <;> (rw [wrap64 (by simp at h57; omega) (by simp at h57; omega)]; simp)) (by simp only [go_sem, seval, sC_eq, inR_pure, inR_len, tkR_pure, tkR_len, subM, leV, inns, innr, V.inn, us, true_or, or_true]) (by simp only [go_sem, seval, sC_eq, inR_pure, inR_len, tkR_pure, tkR_len, subM, leV, inns, innr, V.inn, us, true_or, or_true]))
      · refine AWp.exit ?_
        refine AWp.seq ?_
        refine AWp.seq ?_
        refine AWp.rgn [] (by simp only [go_sem, seval, sC_eq, inR_pure, inR_len, tkR_pure, tkR_len]; rfl) ?_ ?_
        · (first | trivial | (simp; done))
        refine AWp.block ?_
        refine AWp.loopK (fun k : Nat => ⟨[.no, .no, .no, .no, .no, .no, .no, .no, .no, .no, .no, .sl false (tkR tl), .no, .i .i64 (cntT ts - cntT (tl.take k)), .no, .i .i64 k, .no, .no, .no, .no, .no, .no, .no, .no, .no, .no, .no, .no, .no, .no, .no, .no, .no, .no, .no, .no, .no, .no, .no, .no, .no, .no, .no, .no, .no, .no, .no, .no, .no, .no, .no, .no, .no, .no, .no, .no, .no, .no, .no, .no, .no, .no, .no, .no, .no, .no, .no, .no, .no, .no, .no, .no, .no, .no, .no, .no, .no, .no, .no, .no, .no, .no, .no, .no, .no, .no, .no, .no, .no, .no, .no, .no, .no, .no, .no, .no, .no, .no, .no, .no, .no, .no, .no, .no, .no, .no, .no, .no, .no, .no, .no, .no, .no, .no, .no, .no, .no, .no, .no, .no, .no, .no, .no, .no, .no, .no, .no, .no, .no, .no, .no, .no, .no, .no, .no, .no, .no, .no, .no, .no, .no, .no, .no, .no, .no, .no, .no, .no, .no, .no, .no, .no, .no, .no, .no, .no, .no, .no, .no, .no, .no, .no, .no, .no, .no, .no, .no, .no, .no, .no, .no, .no, .no, .no, .no, .no, .no, .no], memOf [], us []⟩) (fun k : Nat => k ≤ tl.length ∧ sok s = true) (fun k : Nat => tl.length - k) (0) ?_ ?_ (fun k hI => ?_)
        · exact ⟨by simp, hI.2⟩
        · exact Can.weak (Weak.lit (by simp only [go_sem, seval, sC_eq, inR_pure, inR_len, tkR_pure, tkR_len, subM, leV, inns, innr, V.inn, us, true_or, or_true] <;> (simp at h57; (obtain rfl : k = ts.length := (by omega)); rw [List.take_of_length_le (Nat.le_refl _)]; simp [cntT])) (by simp only [go_sem, seval, sC_eq, inR_pure, inR_len, tkR_pure, tkR_len, subM, leV, inns, innr, V.inn, us, true_or, or_true]) (by simp only [go_sem, seval, sC_eq, inR_pure, inR_len, tkR_pure, tkR_len, subM, leV, inns, innr, V.inn, us, true_or, or_true]))
        refine AWp.seq ?_
        refine AWp.seq ?_
        refine AWp.rgn [] (by simp only [go_sem, seval, sC_eq, inR_pure, inR_len, tkR_pure, tkR_len]; rfl) ?_ ?_
        · (first | trivial | (simp; done))
        refine AWp.condB (by simp only [go_sem, seval, sC_eq, inR_pure, inR_len, tkR_pure, tkR_len]; rfl) (by simp only [go_sem, seval, sC_eq, inR_pure, inR_len, tkR_pure, tkR_len]) (fun h133 => ?_) (fun h133 => ?_)
        · refine AWp.skip ?_
          refine AWp.seqJ (fun u : Unit => ⟨[.no, .no, .no, .no, .no, .no, .no, .no, .no, .no, .no, .sl false (tkR tl), .no, .i .i64 (cntT ts - cntT (tl.take (k + 1))), .no, .i .i64 k, .no, .no, .no, .no, .no, .no, .no, .no, .no, .no, .no, .no, .no, .no, .no, .no, .no, .no, .no, .no, .no, .no, .no, .no, .no, .no, .no, .no, .no, .no, .no, .no, .no, .no, .no, .no, .no, .no, .no, .no, .no, .no, .no, .no, .no, .no, .no, .no, .no, .no, .no, .no, .no, .no, .no, .no, .no, .no, .no, .no, .no, .no, .no, .no, .no, .no, .no, .no, .no, .no, .no, .no, .no, .no, .no, .no, .no, .no, .no, .no, .no, .no, .no, .no, .no, .no, .no, .no, .no, .no, .no, .no, .no, .no, .no, .no, .no, .no, .no, .no, .no, .no, .no, .no, .no, .no, .no, .no, .no, .no, .no, .no, .no, .no, .no, .no, .no, .no, .no, .no, .no, .no, .no, .no, .no, .no, .no, .no, .no, .no, .no, .no, .no, .no, .no, .no, .no, .no, .no, .no, .no, .no, .no, .no, .no, .no, .no, .no, .no, .no, .no, .no, .no, .no, .no, .no, .no, .no, .no, .no, .no, .no], memOf [], us []⟩) (fun u : Unit => True) ?_ (fun u hJ => ?_)
          · refine AWp.block ?_
            refine AWp.seq ?_
            refine AWp.rgn [] (by simp only [go_sem, seval, sC_eq, inR_pure, inR_len, tkR_pure, tkR_len, tkR_get (show k < tl.length by simpa using h133)]; rfl) ?_ ?_
            · have hk : k < tl.length := (by simpa using h133); simp [hk]
            refine AWp.condB (by simp only [go_sem, seval, sC_eq, inR_pure, inR_len, tkR_pure, tkR_len]; rfl) (by simp only [go_sem, seval, sC_eq, inR_pure, inR_len, tkR_pure, tkR_len]) (fun h173 => ?_) (fun h173 => ?_)
            · refine AWp.rgn [] (by simp only [go_sem, seval, sC_eq, inR_pure, inR_len, tkR_pure, tkR_len]; rfl) ?_ ?_
              · (first | trivial | (simp; done))
              refine Exists.intro (()) ⟨?_, ?_⟩
              · trivial
              exact Can.weak (Weak.lit (by simp only [go_sem, seval, sC_eq, inR_pure, inR_len, tkR_pure, tkR_len, subM, leV, inns, innr, V.inn, us, true_or, or_true] <;> ((have hk : k < tl.length := (by simpa using h133)); (have q := cntT_snoc hk); (have q2 := cntT_le (tl.take k)); (have q4 := cntT_le ts); (have q3 := hp2 hI.2 k hk); rw [h173] at q3; rw [q3] at q; simp at q; (first | (rw [q]; done) | (rw [wrap64 (by simp at q2; omega) (by simp at q2; omega), q]; omega) | trace_state))) (by simp only [go_sem, seval, sC_eq, inR_pure, inR_len, tkR_pure, tkR_len, subM, leV, inns, innr, V.inn, us, true_or, or_true]) (by simp only [go_sem, seval, sC_eq, inR_pure, inR_len, tkR_pure, tkR_len, subM, leV, inns, innr, V.inn, us, true_or, or_true]))
            · refine AWp.skip ?_
              refine Exists.intro (()) ⟨?_, ?_⟩
              · trivial
              exact Can.weak (Weak.lit (by simp only [go_sem, seval, sC_eq, inR_pure, inR_len, tkR_pure, tkR_len, subM, leV, inns, innr, V.inn, us, true_or, or_true] <;> ((have hk : k < tl.length := (by simpa using h133)); (have q := cntT_snoc hk); (have q2 := cntT_le (tl.take k)); (have q4 := cntT_le ts); (have q3 := hp2 hI.2 k hk); rw [h173] at q3; rw [q3] at q; simp at q; (first | (rw [q]; done) | (rw [wrap64 (by simp at q2; omega) (by simp at q2; omega), q]; omega) | trace_state))) (by simp only [go_sem, seval, sC_eq, inR_pure, inR_len, tkR_pure, tkR_len, subM, leV, inns, innr, V.inn, us, true_or, or_true]) (by simp only [go_sem, seval, sC_eq, inR_pure, inR_len, tkR_pure, tkR_len, subM, leV, inns, innr, V.inn, us, true_or, or_true]))
          refine AWp.rgn [] (by simp only [go_sem, seval, sC_eq, inR_pure, inR_len, tkR_pure, tkR_len]; rfl) ?_ ?_
          · (first | trivial | (simp; done))
          refine Exists.intro (k + 1) ⟨?_, ?_, ?_⟩
          · simp at h133; exact ⟨by omega, hI.2⟩
          · simp at h133; omega
          exact Can.weak (Weak.lit (by simp only [go_sem, seval, sC_eq, inR_pure, inR_len, tkR_pure, tkR_len, subM, leV, inns, innr, V.inn, us, true_or, or_true] <;> (rw [wrap64 (by simp at h133; omega) (by simp at h133; omega)]; simp)) (by simp only [go_sem, seval, sC_eq, inR_pure, inR_len, tkR_pure, tkR_len, subM, leV, inns, innr, V.inn, us, true_or, or_true]) (by simp only [go_sem, seval, sC_eq, inR_pure, inR_len, tkR_pure, tkR_len, subM, leV, inns, innr, V.inn, us, true_or, or_true]))
        · refine AWp.exit ?_
          refine AWp.seq ?_
          refine AWp.rgn [] (by simp only [go_sem, seval, sC_eq, inR_pure, inR_len, tkR_pure, tkR_len]; rfl) ?_ ?_
          · (first | trivial | (simp; done))
          refine AWp.ret (And.intro (.inr rfl) ?_)
          exact Out.plain (by simp only [Tryz.results9]; rfl) (by simp only [resCs, resC, go_sem, seval, sC_eq, inR_pure, inR_len, tkR_pure, tkR_len] <;> (split <;> rfl)) (by simp only [resV, go_sem, seval, sC_eq, inR_pure, inR_len, tkR_pure, tkR_len] <;> (simp at h133; obtain rfl : k = tl.length := (by omega); rw [List.take_of_length_le (Nat.le_refl _), hend hI.2]; simp)) (by simp only [go_sem, seval, sC_eq, inR_pure, inR_len, tkR_pure, tkR_len])
end Go.Proofs.YthljacdbmhonfaaGreatDoor
