/- Parts of the proof, one after another: Lines with types: words, text, ok: the program's and the reference's; without types. | Lines: types taken away: the program's and the reference's. | What is drawn: lines with types, bent. Conditions: none. -/
import Derived.Test.YteihfmnmpdbkiaaGreatDoorKj
set_option linter.unusedVariables false
set_option linter.unusedSimpArgs false
namespace Go.Proofs.YteihfmnmpdbkiaaGreatDoor
section
set_option maxRecDepth 100000
set_option maxHeartbeats 4000000

def ssrc (s : Sl) : Wd :=
  if s.kind = 1 then (wLet, 100) :: (s.name, 101) :: (wCol, -1) :: (s.type, -1) :: (wEq, 102) :: src s.expr 0 0
  else if s.kind = 2 then (wSay, 103) :: src s.expr 0 0
  else if s.kind = 3 then ((wWhen, 100) :: src s.expr 0 0 ++ [(wSay, 103)]) ++ src s.thn 0 (cnt s.expr)
  else []
theorem sok0_open {s : Sl} (h : sok0 s = true) : (s.kind = 0 ∨ s.kind = 1 ∨ s.kind = 2 ∨ s.kind = 3) ∧ (s.kind = 1 ∨ s.kind = 2 ∨ s.kind = 3 → eok s.expr = true) ∧ (s.kind = 3 → eok s.thn = true) := by
  unfold sok0 at h
  by_cases k0 : s.kind = 0
  · simp [k0]
  by_cases k1 : s.kind = 1
  · simp [k1] at h; simp [k1]; exact h.1.2
  by_cases k2 : s.kind = 2
  · simp [k2] at h; simp [k2]; exact h.1.2
  by_cases k3 : s.kind = 3
  · simp [k3] at h; simp [k3]; exact ⟨h.1.2, h.2⟩
  · simp [k0, k1, k2, k3] at h
theorem ssrc_sw {s : Sl} (h : sok0 s = true) : (ssrc s).map (·.1) = sw' s := by
  obtain ⟨h0, h1, h2⟩ := sok0_open h
  unfold ssrc sw'
  rcases h0 with k | k | k | k
  · simp [k]
  · simp [k, src_wds, wds_one (eok_form (h1 (.inl k)))]
  · simp [k, src_wds, wds_one (eok_form (h1 (.inr (.inl k))))]
  · simp [k, src_wds, wds_one (eok_form (h1 (.inr (.inr k)))), wds_one (eok_form (h2 k))]
theorem sWords_a (s : Sl) (h : sok0 s = true) (hs : sms' s = true) : ACall En 135 [.ag (sC s)] [] [.sl false (wdR (ssrc s))] [] := by
  obtain ⟨h0, h1, h2⟩ := sok0_open h
  obtain ⟨s1, s1', s2, s3⟩ := sms_open hs
  have W : s.kind = 1 ∨ s.kind = 2 ∨ s.kind = 3 → _ := fun hk => words_a 5 s.expr 0 0 (eok_form (h1 hk)) s2 (many_5 (h1 hk)) (by decide) (by have := cnt_5 (h1 hk); omega) (by decide)
  have W3 : s.kind = 3 → _ := fun hk => words_a 5 s.thn 0 (0 + cnt s.expr) (eok_form (h2 hk)) s3 (many_5 (h2 hk)) (by have := cnt_5 (h1 (.inr (.inr hk))); omega) (by have := cnt_5 (h1 (.inr (.inr hk))); have := cnt_5 (h2 hk); omega) (by decide)
  refine acall_of_body (fn := Tryz.f135) [] Tryz.func135 rfl rfl (by simp) fun C => ?_
  rw [entry_eq]
  simp only [Tryz.ntmps135, List.length_cons, List.length_nil, Nat.reduceAdd, Nat.reduceSub, List.replicate_succ, List.replicate_zero, List.cons_append, List.nil_append, numL]
  refine AWp.seq ?_
  refine AWp.rgn [] (by simp only [go_sem, seval, wdR_len, wdR_pure, List.length_append, List.take_of_length_le, sC_eq]; rfl) ?_ ?_
  · (first | trivial | (simp; done) | (simp [fsOk, List.forall_mem_append, wdR_rows]; done))
  refine AWp.seq ?_
  refine AWp.rgn [] (by simp only [go_sem, seval, wdR_len, wdR_pure, List.length_append, List.take_of_length_le, sC_eq]; rfl) ?_ ?_
  · (first | trivial | (simp; done) | (simp [fsOk, List.forall_mem_append, wdR_rows]; done))
  refine AWp.seq ?_
  refine AWp.seq ?_
  refine AWp.rgn [] (by simp only [go_sem, seval, wdR_len, wdR_pure, List.length_append, List.take_of_length_le, sC_eq]; rfl) ?_ ?_
  · (first | trivial | (simp; done) | (simp [fsOk, List.forall_mem_append, wdR_rows]; done))
  refine AWp.block ?_
  refine AWp.seq ?_
  refine AWp.rgn [] (by simp only [go_sem, seval, wdR_len, wdR_pure, List.length_append, List.take_of_length_le, sC_eq]; rfl) ?_ ?_
  · (first | trivial | (simp; done) | (simp [fsOk, List.forall_mem_append, wdR_rows]; done))
  refine AWp.condB (by simp only [go_sem, seval, wdR_len, wdR_pure, List.length_append, List.take_of_length_le, sC_eq]; rfl) (by simp only [go_sem, seval, wdR_len, wdR_pure, List.length_append, List.take_of_length_le, sC_eq]) (fun h7 => ?_) (fun h7 => ?_)
  · refine AWp.seq ?_
    refine AWp.rgnD [callN [13] [31] (W (.inl (by simpa using h7)))] enM (by simp only [go_sem, seval, wdR_len, wdR_pure, List.length_append, List.take_of_length_le, sC_eq, memEq, clrs]; rfl) (by rfl) ?_ ?_
    · have q := h1 (.inl (by simpa using h7)); have q2 := (src_36 q 0 0); have q3 : src s.expr 0 0 ≠ [] := (fun e => by have := (eok_wds q 0).1; rw [← src_len s.expr 0 0, e] at this; simp at this); simp [fsOk, wdR_rows, q3, wdR_nil']; omega
    refine AWp.frz 32 (by simp only [go_sem, seval, wdR_len, wdR_pure, List.length_append, List.take_of_length_le, sC_eq]; rfl) (by simp only [go_sem, seval, wdR_len, wdR_pure, List.length_append, List.take_of_length_le, sC_eq]) (by simp only [go_sem, seval, wdR_len, wdR_pure, List.length_append, List.take_of_length_le, sC_eq]; rfl) (by simp only [go_sem, seval, wdR_len, wdR_pure, List.length_append, List.take_of_length_le, sC_eq]; rfl) ?_
    refine AWp.ret (And.intro (.inr rfl) ?_)
    exact Out.plain (by simp only [Tryz.results135]; rfl) (by simp only [resCs, resC, go_sem, seval, wdR_len, wdR_pure, List.length_append, List.take_of_length_le, sC_eq] <;> (split <;> rfl)) (by simp only [resV, go_sem, seval, wdR_len, wdR_pure, List.length_append, List.take_of_length_le, sC_eq] <;> (have k : s.kind = 1 := (by simpa using h7); rw [if_pos (by omega), List.take_of_length_le (by simp [wdR_len]; omega)]; simp [ssrc, k, wdR, peel, wEq, wLet, wCol])) (by simp only [go_sem, seval, wdR_len, wdR_pure, List.length_append, List.take_of_length_le, sC_eq])
  · refine AWp.seq ?_
    refine AWp.rgn [] (by simp only [go_sem, seval, wdR_len, wdR_pure, List.length_append, List.take_of_length_le, sC_eq]; rfl) ?_ ?_
    · (first | trivial | (simp; done) | (simp [fsOk, List.forall_mem_append, wdR_rows]; done))
    refine AWp.condB (by simp only [go_sem, seval, wdR_len, wdR_pure, List.length_append, List.take_of_length_le, sC_eq]; rfl) (by simp only [go_sem, seval, wdR_len, wdR_pure, List.length_append, List.take_of_length_le, sC_eq]) (fun h23 => ?_) (fun h23 => ?_)
    · refine AWp.seq ?_
      refine AWp.rgn [callN [13] [39] (W (.inr (.inl (by simpa using h23))))] (by simp only [go_sem, seval, wdR_len, wdR_pure, List.length_append, List.take_of_length_le, sC_eq, memEq, clrs]; rfl) ?_ ?_
      · have q := h1 (.inr (.inl (by simpa using h23))); have q2 := (src_36 q 0 0); have q3 : src s.expr 0 0 ≠ [] := (fun e => by have := (eok_wds q 0).1; rw [← src_len s.expr 0 0, e] at this; simp at this); simp [fsOk, wdR_rows, q3, wdR_nil']; omega
      refine AWp.frz 40 (by simp only [go_sem, seval, wdR_len, wdR_pure, List.length_append, List.take_of_length_le, sC_eq]; rfl) (by simp only [go_sem, seval, wdR_len, wdR_pure, List.length_append, List.take_of_length_le, sC_eq]) (by simp only [go_sem, seval, wdR_len, wdR_pure, List.length_append, List.take_of_length_le, sC_eq]; rfl) (by simp only [go_sem, seval, wdR_len, wdR_pure, List.length_append, List.take_of_length_le, sC_eq]; rfl) ?_
      refine AWp.ret (And.intro (.inr rfl) ?_)
      exact Out.plain (by simp only [Tryz.results135]; rfl) (by simp only [resCs, resC, go_sem, seval, wdR_len, wdR_pure, List.length_append, List.take_of_length_le, sC_eq] <;> (split <;> rfl)) (by simp only [resV, go_sem, seval, wdR_len, wdR_pure, List.length_append, List.take_of_length_le, sC_eq] <;> (have k : s.kind = 2 := (by simpa using h23); rw [if_pos (by omega), List.take_of_length_le (by simp [wdR_len]; omega)]; simp [ssrc, k, wdR, peel, wSay])) (by simp only [go_sem, seval, wdR_len, wdR_pure, List.length_append, List.take_of_length_le, sC_eq])
    · refine AWp.seq ?_
      refine AWp.rgn [] (by simp only [go_sem, seval, wdR_len, wdR_pure, List.length_append, List.take_of_length_le, sC_eq]; rfl) ?_ ?_
      · (first | trivial | (simp; done) | (simp [fsOk, List.forall_mem_append, wdR_rows]; done))
      refine AWp.condB (by simp only [go_sem, seval, wdR_len, wdR_pure, List.length_append, List.take_of_length_le, sC_eq]; rfl) (by simp only [go_sem, seval, wdR_len, wdR_pure, List.length_append, List.take_of_length_le, sC_eq]) (fun h31 => ?_) (fun h31 => ?_)
      · refine AWp.seq ?_
        refine AWp.rgn [callN [13] [47] (W (.inr (.inr (by simpa using h31))))] (by simp only [go_sem, seval, wdR_len, wdR_pure, List.length_append, List.take_of_length_le, sC_eq, memEq, clrs]; rfl) ?_ ?_
        · have q := h1 (.inr (.inr (by simpa using h31))); have q2 := (src_36 q 0 0); have q3 : src s.expr 0 0 ≠ [] := (fun e => by have := (eok_wds q 0).1; rw [← src_len s.expr 0 0, e] at this; simp at this); simp [fsOk, wdR_rows, q3, wdR_nil']; omega
        refine AWp.seq ?_
        refine AWp.rgn [] (by simp only [go_sem, seval, wdR_len, wdR_pure, List.length_append, List.take_of_length_le, sC_eq]; rfl) ?_ ?_
        · have q := h1 (.inr (.inr (by simpa using h31))); have q2 := (src_36 q 0 0); simp [fsOk, wdR_rows]; omega
        refine AWp.seq ?_
        refine AWp.rgn [callN [13] [56] (W3 (by simpa using h31))] (by simp only [go_sem, seval, wdR_len, wdR_pure, List.length_append, List.take_of_length_le, sC_eq, memEq, clrs]; rfl) ?_ ?_
        · have q := h1 (.inr (.inr (by simpa using h31))); have q2 := (src_36 q 0 0); have q4 := src_36 (h2 (by simpa using h31)) 0 (0 + cnt s.expr); simp at q4; simp [fsOk, wdR_rows]; omega
        refine AWp.frz 57 (by simp only [go_sem, seval, wdR_len, wdR_pure, List.length_append, List.take_of_length_le, sC_eq]; rfl) (by simp only [go_sem, seval, wdR_len, wdR_pure, List.length_append, List.take_of_length_le, sC_eq]) (by simp only [go_sem, seval, wdR_len, wdR_pure, List.length_append, List.take_of_length_le, sC_eq]; rfl) (by simp only [go_sem, seval, wdR_len, wdR_pure, List.length_append, List.take_of_length_le, sC_eq]; rfl) ?_
        refine AWp.ret (And.intro (.inr rfl) ?_)
        exact Out.plain (by simp only [Tryz.results135]; rfl) (by simp only [resCs, resC, go_sem, seval, wdR_len, wdR_pure, List.length_append, List.take_of_length_le, sC_eq] <;> (split <;> rfl)) (by simp only [resV, go_sem, seval, wdR_len, wdR_pure, List.length_append, List.take_of_length_le, sC_eq] <;> (have k : s.kind = 3 := (by simpa using h31); rw [if_pos (by omega), List.take_of_length_le (by simp [wdR_len]; omega)]; simp [ssrc, k, wdR, peel, wSay, wWhen])) (by simp only [go_sem, seval, wdR_len, wdR_pure, List.length_append, List.take_of_length_le, sC_eq])
      · refine AWp.skip ?_
        refine AWp.seq ?_
        refine AWp.rgn [] (by simp only [go_sem, seval, wdR_len, wdR_pure, List.length_append, List.take_of_length_le, sC_eq]; rfl) ?_ ?_
        · (first | trivial | (simp; done) | (simp [fsOk, List.forall_mem_append, wdR_rows]; done))
        refine AWp.can (Can.slotLe 2 (.sl false []) (by simp only [go_sem, seval, wdR_len, wdR_pure, List.length_append, List.take_of_length_le, sC_eq] <;> trivial) (by simp only [go_sem, seval, wdR_len, wdR_pure, List.length_append, List.take_of_length_le, sC_eq] <;> rfl)) ?_
        refine AWp.ret (And.intro (.inr rfl) ?_)
        exact Out.plain (by simp only [Tryz.results135]; rfl) (by simp only [resCs, resC, go_sem, seval, wdR_len, wdR_pure, List.length_append, List.take_of_length_le, sC_eq] <;> (split <;> rfl)) (by simp only [resV, go_sem, seval, wdR_len, wdR_pure, List.length_append, List.take_of_length_le, sC_eq] <;> (have k : s.kind = 0 := (by simp_all); simp [ssrc, k, wdR])) (by simp only [go_sem, seval, wdR_len, wdR_pure, List.length_append, List.take_of_length_le, sC_eq])
theorem sw_text {s : Sl} (h : sok0 s = true) : (tokText (sw' s)).length ≤ 1000 := by
  have := sw_le h
  have h2 := tokText_le (fun s hs => (this.2 s hs).2)
  omega
theorem sText_a (s : Sl) (h : sok0 s = true) (hs : sms' s = true) : ACall En 140 [.ag (sC s)] [] [.s (tokText (sw' s))] [] := by
  have h1 := sw_text h
  have h2 := (sw_le h).1
  have h3 := ssrc_sw h
  have h4 : (ssrc s).length = (sw' s).length := by rw [← h3, List.length_map]
  refine acall_of_body (fn := Tryz.f140) [] Tryz.func140 rfl rfl (by simp) fun C => ?_
  rw [entry_eq]
  simp only [Tryz.ntmps140, List.length_cons, List.length_nil, Nat.reduceAdd, Nat.reduceSub, List.replicate_succ, List.replicate_zero, List.cons_append, List.nil_append, numL]
  refine AWp.seq ?_
  refine AWp.rgn [] (by simp only [go_sem, seval, sC_eq, wdR_pure, h3]; rfl) ?_ ?_
  · simp
  refine AWp.seq ?_
  refine AWp.rgn [call0 (sWords_a s h hs), call0 (bareWords_a (ssrc s) (by omega)), call0 (impTokText_a (sw' s) (by omega) (by omega))] (by simp only [go_sem, seval, sC_eq, wdR_pure, h3]; rfl) ?_ ?_
  · simp
  refine AWp.ret (And.intro (.inr rfl) ?_)
  exact Out.plain (by simp only [Tryz.results140]; rfl) (by simp only [resCs, resC, go_sem, seval, sC_eq, wdR_pure, h3] <;> (split <;> rfl)) (by simp only [resV, go_sem, seval, sC_eq, wdR_pure, h3] <;> (rfl)) (by simp only [go_sem, seval, sC_eq, wdR_pure, h3])
theorem iStmtOk_a (s : Sl) (hs : sms' s = true) : ACall En 67 [.ag (sC s)] [] [.b (sok s)] [] := by
  obtain ⟨s1, s1', s2, s3⟩ := sms_open hs
  refine acall_of_body (fn := Tryz.f67) [] Tryz.func67 rfl rfl (by simp) fun C => ?_
  rw [entry_eq]
  simp only [Tryz.ntmps67, List.length_cons, List.length_nil, Nat.reduceAdd, Nat.reduceSub, List.replicate_succ, List.replicate_zero, List.cons_append, List.nil_append, numL]
  refine AWp.seq ?_
  refine AWp.rgn [] (by simp only [go_sem, seval, sC_eq]; rfl) ?_ ?_
  · (first | trivial | (simp; done) | exact hJ.symm)
  refine AWp.seq ?_
  refine AWp.rgn [] (by simp only [go_sem, seval, sC_eq]; rfl) ?_ ?_
  · (first | trivial | (simp; done) | exact hJ.symm)
  refine AWp.seqJ (fun q : Bool => ⟨[.no, .pt 11 11 0 0, .no, .b q, .no, .no, .no, .no, .no, .no, .no, .no, .no, .no, .no, .no, .no, .no, .no, .no, .no, .no, .no, .no, .no, .no, .no, .no, .no, .no, .no, .no, .no, .no, .no, .no, .no, .no, .no, .no, .no, .no, .no, .no, .no, .no, .no, .no, .no, .no, .no, .no, .no, .no, .no, .no, .no, .no, .no, .no, .no, .no, .no, .no, .no, .no, .no, .no, .no, .no, .no, .no, .no, .no, .no, .no, .no, .no, .no, .no, .no, .no, .no, .no, .no, .no, .no, .no, .no, .no, .no, .no, .no], memOf [(11, ⟨32, 11, [sC s]⟩)], us [11]⟩) (fun q : Bool => q = sok0 s) ?_ (fun q hJ => ?_)
  · refine AWp.seq ?_
    refine AWp.rgn [] (by simp only [go_sem, seval, sC_eq]; rfl) ?_ ?_
    · (first | trivial | (simp; done) | exact hJ.symm)
    refine AWp.block ?_
    refine AWp.seq ?_
    refine AWp.rgn [] (by simp only [go_sem, seval, sC_eq]; rfl) ?_ ?_
    · (first | trivial | (simp; done) | exact hJ.symm)
    refine AWp.condB (by simp only [go_sem, seval, sC_eq]; rfl) (by simp only [go_sem, seval, sC_eq]) (fun h6 => ?_) (fun h6 => ?_)
    · refine AWp.rgn [call0 (nothing_a s.expr s2), call0 (nothing_a s.thn s3)] (by simp only [go_sem, seval, sC_eq]; rfl) ?_ ?_
      · (first | trivial | (simp; done) | exact hJ.symm)
      refine Exists.intro (sok0 s) ⟨?_, ?_⟩
      · rfl
      exact Can.weak (Weak.lit (by simp only [go_sem, seval, sC_eq, subM, leV, inns, innr, V.inn, us, true_or, or_true] <;> ((unfold sok0; simp_all))) (by simp only [go_sem, seval, sC_eq, subM, leV, inns, innr, V.inn, us, true_or, or_true]) (by simp only [go_sem, seval, sC_eq, subM, leV, inns, innr, V.inn, us, true_or, or_true]))
    · refine AWp.seq ?_
      refine AWp.rgn [] (by simp only [go_sem, seval, sC_eq]; rfl) ?_ ?_
      · (first | trivial | (simp; done) | exact hJ.symm)
      refine AWp.condB (by simp only [go_sem, seval, sC_eq]; rfl) (by simp only [go_sem, seval, sC_eq]) (fun h26 => ?_) (fun h26 => ?_)
      · refine AWp.rgn [call0 (isName_a s.name s1), call0 (isType_a s.type), call0 (iExprOk_a s.expr s2), call0 (nothing_a s.thn s3)] (by simp only [go_sem, seval, sC_eq]; rfl) ?_ ?_
        · (first | trivial | (simp; done) | exact hJ.symm)
        refine Exists.intro (sok0 s) ⟨?_, ?_⟩
        · rfl
        exact Can.weak (Weak.lit (by simp only [go_sem, seval, sC_eq, subM, leV, inns, innr, V.inn, us, true_or, or_true] <;> ((unfold sok0; simp_all))) (by simp only [go_sem, seval, sC_eq, subM, leV, inns, innr, V.inn, us, true_or, or_true]) (by simp only [go_sem, seval, sC_eq, subM, leV, inns, innr, V.inn, us, true_or, or_true]))
      · refine AWp.seq ?_
        refine AWp.rgn [] (by simp only [go_sem, seval, sC_eq]; rfl) ?_ ?_
        · (first | trivial | (simp; done) | exact hJ.symm)
        refine AWp.condB (by simp only [go_sem, seval, sC_eq]; rfl) (by simp only [go_sem, seval, sC_eq]) (fun h46 => ?_) (fun h46 => ?_)
        · refine AWp.rgn [call0 (iExprOk_a s.expr s2), call0 (nothing_a s.thn s3)] (by simp only [go_sem, seval, sC_eq]; rfl) ?_ ?_
          · (first | trivial | (simp; done) | exact hJ.symm)
          refine Exists.intro (sok0 s) ⟨?_, ?_⟩
          · rfl
          exact Can.weak (Weak.lit (by simp only [go_sem, seval, sC_eq, subM, leV, inns, innr, V.inn, us, true_or, or_true] <;> ((unfold sok0; simp_all))) (by simp only [go_sem, seval, sC_eq, subM, leV, inns, innr, V.inn, us, true_or, or_true]) (by simp only [go_sem, seval, sC_eq, subM, leV, inns, innr, V.inn, us, true_or, or_true]))
        · refine AWp.seq ?_
          refine AWp.rgn [] (by simp only [go_sem, seval, sC_eq]; rfl) ?_ ?_
          · (first | trivial | (simp; done) | exact hJ.symm)
          refine AWp.condB (by simp only [go_sem, seval, sC_eq]; rfl) (by simp only [go_sem, seval, sC_eq]) (fun h66 => ?_) (fun h66 => ?_)
          · refine AWp.rgn [call0 (iExprOk_a s.expr s2), call0 (iExprOk_a s.thn s3)] (by simp only [go_sem, seval, sC_eq]; rfl) ?_ ?_
            · (first | trivial | (simp; done) | exact hJ.symm)
            refine Exists.intro (sok0 s) ⟨?_, ?_⟩
            · rfl
            exact Can.weak (Weak.lit (by simp only [go_sem, seval, sC_eq, subM, leV, inns, innr, V.inn, us, true_or, or_true] <;> ((unfold sok0; simp_all))) (by simp only [go_sem, seval, sC_eq, subM, leV, inns, innr, V.inn, us, true_or, or_true]) (by simp only [go_sem, seval, sC_eq, subM, leV, inns, innr, V.inn, us, true_or, or_true]))
          · refine AWp.skip ?_
            refine Exists.intro (sok0 s) ⟨?_, ?_⟩
            · rfl
            exact Can.weak (Weak.lit (by simp only [go_sem, seval, sC_eq, subM, leV, inns, innr, V.inn, us, true_or, or_true] <;> ((unfold sok0; simp_all))) (by simp only [go_sem, seval, sC_eq, subM, leV, inns, innr, V.inn, us, true_or, or_true]) (by simp only [go_sem, seval, sC_eq, subM, leV, inns, innr, V.inn, us, true_or, or_true]))
  cases q
  · refine AWp.seq ?_
    refine AWp.rgn [callI (sok0 s = true) (fun h => sText_a s h hs)] (by simp only [go_sem, seval, sC_eq]; rfl) ?_ ?_
    · (first | trivial | (simp; done) | exact hJ.symm)
    refine AWp.ret (And.intro (.inr rfl) ?_)
    exact Out.plain (by simp only [Tryz.results67]; rfl) (by simp only [resCs, resC, go_sem, seval, sC_eq] <;> (split <;> rfl)) (by simp only [resV, go_sem, seval, sC_eq] <;> (rw [sok, ← hJ]; first | rfl | (rw [Bool.true_and, dec_cast]; rfl))) (by simp only [go_sem, seval, sC_eq])
  · refine AWp.seq ?_
    refine AWp.rgn [callI (sok0 s = true) (fun h => sText_a s h hs)] (by simp only [go_sem, seval, sC_eq]; rfl) ?_ ?_
    · (first | trivial | (simp; done) | exact hJ.symm)
    refine AWp.ret (And.intro (.inr rfl) ?_)
    exact Out.plain (by simp only [Tryz.results67]; rfl) (by simp only [resCs, resC, go_sem, seval, sC_eq] <;> (split <;> rfl)) (by simp only [resV, go_sem, seval, sC_eq] <;> (rw [sok, ← hJ]; first | rfl | (rw [Bool.true_and, dec_cast]; rfl))) (by simp only [go_sem, seval, sC_eq])
theorem sok_0 {s : Sl} (h : sok s = true) : sok0 s = true := by simp only [sok, Bool.and_eq_true] at h; exact h.1
def stxt (s : Sl) : Str := if sok s then tokText (sw' s) else []
theorem iStmtText_a (s : Sl) (hs : sms' s = true) : ACall En 128 [.ag (sC s)] [] [.s (stxt s)] [] := by
  refine acall_of_body (fn := Tryz.f128) [] Tryz.func128 rfl rfl (by simp) fun C => ?_
  rw [entry_eq]
  simp only [Tryz.ntmps128, List.length_cons, List.length_nil, Nat.reduceAdd, Nat.reduceSub, List.replicate_succ, List.replicate_zero, List.cons_append, List.nil_append, numL]
  refine AWp.seq ?_
  refine AWp.rgn [] (by simp only [go_sem, seval, sC_eq]; rfl) ?_ ?_
  · first | trivial | simp
  refine AWp.seq ?_
  refine AWp.seq ?_
  refine AWp.rgn [call0 (iStmtOk_a s hs)] (by simp only [go_sem, seval, sC_eq]; rfl) ?_ ?_
  · simp
  refine AWp.condB (by simp only [go_sem, seval, sC_eq]; rfl) (by simp only [go_sem, seval, sC_eq]) (fun h5 => ?_) (fun h5 => ?_)
  · refine AWp.seq ?_
    refine AWp.rgn [] (by simp only [go_sem, seval, sC_eq]; rfl) ?_ ?_
    · first | trivial | simp
    refine AWp.ret (And.intro (.inr rfl) ?_)
    exact Out.plain (by simp only [Tryz.results128]; rfl) (by simp only [resCs, resC, go_sem, seval, sC_eq] <;> (split <;> rfl)) (by simp only [resV, go_sem, seval, sC_eq] <;> (simp at h5; simp [stxt, h5])) (by simp only [go_sem, seval, sC_eq])
  · refine AWp.skip ?_
    refine AWp.seq ?_
    refine AWp.rgn [callI (sok s = true) (fun h => sText_a s (sok_0 h) hs)] (by simp only [go_sem, seval, sC_eq]; rfl) ?_ ?_
    · simpa using h5
    refine AWp.ret (And.intro (.inr rfl) ?_)
    exact Out.plain (by simp only [Tryz.results128]; rfl) (by simp only [resCs, resC, go_sem, seval, sC_eq] <;> (split <;> rfl)) (by simp only [resV, go_sem, seval, sC_eq] <;> (simp at h5; simp [stxt, h5])) (by simp only [go_sem, seval, sC_eq])
theorem l5Words_a (s : Sl) (h : sok0 s = true) (hs : sms' s = true) : ACall En 86 [.ag (sC s)] [] [.sl false (strR (sw' s))] [] := by
  obtain ⟨h0, h1, h2⟩ := sok0_open h
  obtain ⟨s1, s1', s2, s3⟩ := sms_open hs
  have W : s.kind = 1 ∨ s.kind = 2 ∨ s.kind = 3 → _ := fun hk => l4Words_a 5 s.expr 1 (eok_form (h1 hk)) s2 (many_5 (h1 hk)) (by decide) (by decide)
  have W3 : s.kind = 3 → _ := fun hk => l4Words_a 5 s.thn 1 (eok_form (h2 hk)) s3 (many_5 (h2 hk)) (by decide) (by decide)
  refine acall_of_body (fn := Tryz.f86) [] Tryz.func86 rfl rfl (by simp) fun C => ?_
  rw [entry_eq]
  simp only [Tryz.ntmps86, List.length_cons, List.length_nil, Nat.reduceAdd, Nat.reduceSub, List.replicate_succ, List.replicate_zero, List.cons_append, List.nil_append, numL]
  refine AWp.seq ?_
  refine AWp.rgn [] (by simp only [go_sem, seval, strR_len, strR_pure, List.length_append, List.take_of_length_le, sC_eq]; rfl) ?_ ?_
  · (first | trivial | (simp; done) | (simp [strR_rows]; done))
  refine AWp.seq ?_
  refine AWp.seq ?_
  refine AWp.rgn [] (by simp only [go_sem, seval, strR_len, strR_pure, List.length_append, List.take_of_length_le, sC_eq]; rfl) ?_ ?_
  · (first | trivial | (simp; done) | (simp [strR_rows]; done))
  refine AWp.block ?_
  refine AWp.seq ?_
  refine AWp.rgn [] (by simp only [go_sem, seval, strR_len, strR_pure, List.length_append, List.take_of_length_le, sC_eq]; rfl) ?_ ?_
  · (first | trivial | (simp; done) | (simp [strR_rows]; done))
  refine AWp.condB (by simp only [go_sem, seval, strR_len, strR_pure, List.length_append, List.take_of_length_le, sC_eq]; rfl) (by simp only [go_sem, seval, strR_len, strR_pure, List.length_append, List.take_of_length_le, sC_eq]) (fun h6 => ?_) (fun h6 => ?_)
  · refine AWp.seq ?_
    refine AWp.rgnD [call0 (W (.inl (by simpa using h6)))] enM (by simp only [go_sem, seval, strR_len, strR_pure, List.length_append, List.take_of_length_le, sC_eq]; rfl) (by rfl) ?_ ?_
    · have q := h1 (.inl (by simpa using h6)); have q2 := (eok_wds q 1); have q3 := wds_ne q 1; simp [fsOk, strR_rows, q3, strR_nil']; omega
    refine AWp.frz 26 (by simp only [go_sem, seval, strR_len, strR_pure, List.length_append, List.take_of_length_le, sC_eq]; rfl) (by simp only [go_sem, seval, strR_len, strR_pure, List.length_append, List.take_of_length_le, sC_eq]) (by simp only [go_sem, seval, strR_len, strR_pure, List.length_append, List.take_of_length_le, sC_eq]; rfl) (by simp only [go_sem, seval, strR_len, strR_pure, List.length_append, List.take_of_length_le, sC_eq]; rfl) ?_
    refine AWp.ret (And.intro (.inr rfl) ?_)
    exact Out.plain (by simp only [Tryz.results86]; rfl) (by simp only [resCs, resC, go_sem, seval, strR_len, strR_pure, List.length_append, List.take_of_length_le, sC_eq] <;> (split <;> rfl)) (by simp only [resV, go_sem, seval, strR_len, strR_pure, List.length_append, List.take_of_length_le, sC_eq] <;> (have k : s.kind = 1 := (by simpa using h6); rw [if_pos (by omega), List.take_of_length_le (by simp [strR_len]; omega)]; simp [sw', k, strR, peel, wEq, wLet, wCol])) (by simp only [go_sem, seval, strR_len, strR_pure, List.length_append, List.take_of_length_le, sC_eq])
  · refine AWp.seq ?_
    refine AWp.rgn [] (by simp only [go_sem, seval, strR_len, strR_pure, List.length_append, List.take_of_length_le, sC_eq]; rfl) ?_ ?_
    · (first | trivial | (simp; done) | (simp [strR_rows]; done))
    refine AWp.condB (by simp only [go_sem, seval, strR_len, strR_pure, List.length_append, List.take_of_length_le, sC_eq]; rfl) (by simp only [go_sem, seval, strR_len, strR_pure, List.length_append, List.take_of_length_le, sC_eq]) (fun h17 => ?_) (fun h17 => ?_)
    · refine AWp.seq ?_
      refine AWp.rgn [call0 (W (.inr (.inl (by simpa using h17))))] (by simp only [go_sem, seval, strR_len, strR_pure, List.length_append, List.take_of_length_le, sC_eq]; rfl) ?_ ?_
      · have q := h1 (.inr (.inl (by simpa using h17))); have q2 := (eok_wds q 1); have q3 := wds_ne q 1; simp [fsOk, strR_rows, q3, strR_nil']; omega
      refine AWp.frz 33 (by simp only [go_sem, seval, strR_len, strR_pure, List.length_append, List.take_of_length_le, sC_eq]; rfl) (by simp only [go_sem, seval, strR_len, strR_pure, List.length_append, List.take_of_length_le, sC_eq]) (by simp only [go_sem, seval, strR_len, strR_pure, List.length_append, List.take_of_length_le, sC_eq]; rfl) (by simp only [go_sem, seval, strR_len, strR_pure, List.length_append, List.take_of_length_le, sC_eq]; rfl) ?_
      refine AWp.ret (And.intro (.inr rfl) ?_)
      exact Out.plain (by simp only [Tryz.results86]; rfl) (by simp only [resCs, resC, go_sem, seval, strR_len, strR_pure, List.length_append, List.take_of_length_le, sC_eq] <;> (split <;> rfl)) (by simp only [resV, go_sem, seval, strR_len, strR_pure, List.length_append, List.take_of_length_le, sC_eq] <;> (have k : s.kind = 2 := (by simpa using h17); rw [if_pos (by omega), List.take_of_length_le (by simp [strR_len]; omega)]; simp [sw', k, strR, peel, wSay])) (by simp only [go_sem, seval, strR_len, strR_pure, List.length_append, List.take_of_length_le, sC_eq])
    · refine AWp.seq ?_
      refine AWp.rgn [] (by simp only [go_sem, seval, strR_len, strR_pure, List.length_append, List.take_of_length_le, sC_eq]; rfl) ?_ ?_
      · (first | trivial | (simp; done) | (simp [strR_rows]; done))
      refine AWp.condB (by simp only [go_sem, seval, strR_len, strR_pure, List.length_append, List.take_of_length_le, sC_eq]; rfl) (by simp only [go_sem, seval, strR_len, strR_pure, List.length_append, List.take_of_length_le, sC_eq]) (fun h24 => ?_) (fun h24 => ?_)
      · refine AWp.seq ?_
        refine AWp.rgn [call0 (W (.inr (.inr (by simpa using h24))))] (by simp only [go_sem, seval, strR_len, strR_pure, List.length_append, List.take_of_length_le, sC_eq]; rfl) ?_ ?_
        · have q := h1 (.inr (.inr (by simpa using h24))); have q2 := (eok_wds q 1); have q3 := wds_ne q 1; simp [fsOk, strR_rows, q3, strR_nil']; omega
        refine AWp.seq ?_
        refine AWp.rgnD [call0 (W3 (by simpa using h24))] enM (by simp only [go_sem, seval, strR_len, strR_pure, List.length_append, List.take_of_length_le, sC_eq]; rfl) (by rfl) ?_ ?_
        · have q := h1 (.inr (.inr (by simpa using h24))); have q2 := (eok_wds q 1); have q4 := eok_wds (h2 (by simpa using h24)) 1; simp [fsOk, strR_rows]; omega
        refine AWp.frz 47 (by simp only [go_sem, seval, strR_len, strR_pure, List.length_append, List.take_of_length_le, sC_eq]; rfl) (by simp only [go_sem, seval, strR_len, strR_pure, List.length_append, List.take_of_length_le, sC_eq]) (by simp only [go_sem, seval, strR_len, strR_pure, List.length_append, List.take_of_length_le, sC_eq]; rfl) (by simp only [go_sem, seval, strR_len, strR_pure, List.length_append, List.take_of_length_le, sC_eq]; rfl) ?_
        refine AWp.ret (And.intro (.inr rfl) ?_)
        exact Out.plain (by simp only [Tryz.results86]; rfl) (by simp only [resCs, resC, go_sem, seval, strR_len, strR_pure, List.length_append, List.take_of_length_le, sC_eq] <;> (split <;> rfl)) (by simp only [resV, go_sem, seval, strR_len, strR_pure, List.length_append, List.take_of_length_le, sC_eq] <;> (have k : s.kind = 3 := (by simpa using h24); rw [if_pos (by omega), List.take_of_length_le (by simp [strR_len]; omega)]; simp [sw', k, strR, peel, wSay, wWhen])) (by simp only [go_sem, seval, strR_len, strR_pure, List.length_append, List.take_of_length_le, sC_eq])
      · refine AWp.skip ?_
        refine AWp.seq ?_
        refine AWp.rgn [] (by simp only [go_sem, seval, strR_len, strR_pure, List.length_append, List.take_of_length_le, sC_eq]; rfl) ?_ ?_
        · (first | trivial | (simp; done) | (simp [strR_rows]; done))
        refine AWp.can (Can.slotLe 2 (.sl false []) (by simp only [go_sem, seval, strR_len, strR_pure, List.length_append, List.take_of_length_le, sC_eq] <;> trivial) (by simp only [go_sem, seval, strR_len, strR_pure, List.length_append, List.take_of_length_le, sC_eq] <;> rfl)) ?_
        refine AWp.ret (And.intro (.inr rfl) ?_)
        exact Out.plain (by simp only [Tryz.results86]; rfl) (by simp only [resCs, resC, go_sem, seval, strR_len, strR_pure, List.length_append, List.take_of_length_le, sC_eq] <;> (split <;> rfl)) (by simp only [resV, go_sem, seval, strR_len, strR_pure, List.length_append, List.take_of_length_le, sC_eq] <;> (have k : s.kind = 0 := (by simp_all); simp [sw', k, strR])) (by simp only [go_sem, seval, strR_len, strR_pure, List.length_append, List.take_of_length_le, sC_eq])
theorem sStmtOk_a (s : Sl) (hs : sms' s = true) : ACall En 28 [.ag (sC s)] [] [.b (sok s)] [] := by
  obtain ⟨s1, s1', s2, s3⟩ := sms_open hs
  refine acall_of_body (fn := Tryz.f28) [] Tryz.func28 rfl rfl (by simp) fun C => ?_
  rw [entry_eq]
  simp only [Tryz.ntmps28, List.length_cons, List.length_nil, Nat.reduceAdd, Nat.reduceSub, List.replicate_succ, List.replicate_zero, List.cons_append, List.nil_append, numL]
  refine AWp.seq ?_
  refine AWp.rgn [] (by simp only [go_sem, seval, sC_eq, strR_pure]; rfl) ?_ ?_
  · (first | trivial | (simp; done) | exact hJ.symm | exact ⟨hJ.symm, hJ.symm⟩)
  refine AWp.seq ?_
  refine AWp.rgn [] (by simp only [go_sem, seval, sC_eq, strR_pure]; rfl) ?_ ?_
  · (first | trivial | (simp; done) | exact hJ.symm | exact ⟨hJ.symm, hJ.symm⟩)
  refine AWp.seqJ (fun q : Bool => ⟨[.no, .pt 11 11 0 0, .no, .b q, .no, .no, .no, .no, .no, .no, .no, .no, .no, .no, .no, .no, .no, .no, .no, .no, .no, .no, .no, .no, .no, .no, .no, .no, .no, .no, .no, .no, .no, .no, .no, .no, .no, .no, .no, .no, .no, .no, .no, .no, .no, .no, .no, .no, .no, .no, .no, .no, .no, .no, .no, .no, .no, .no, .no, .no, .no, .no, .no, .no, .no, .no, .no, .no, .no, .no, .no, .no, .no, .no, .no, .no, .no, .no, .no, .no, .no, .no, .no, .no, .no, .no, .no, .no, .no, .no, .no, .no, .no, .no], memOf [(11, ⟨32, 11, [sC s]⟩)], us [11]⟩) (fun q : Bool => q = sok0 s) ?_ (fun q hJ => ?_)
  · refine AWp.seq ?_
    refine AWp.rgn [] (by simp only [go_sem, seval, sC_eq, strR_pure]; rfl) ?_ ?_
    · (first | trivial | (simp; done) | exact hJ.symm | exact ⟨hJ.symm, hJ.symm⟩)
    refine AWp.block ?_
    refine AWp.seq ?_
    refine AWp.rgn [] (by simp only [go_sem, seval, sC_eq, strR_pure]; rfl) ?_ ?_
    · (first | trivial | (simp; done) | exact hJ.symm | exact ⟨hJ.symm, hJ.symm⟩)
    refine AWp.condB (by simp only [go_sem, seval, sC_eq, strR_pure]; rfl) (by simp only [go_sem, seval, sC_eq, strR_pure]) (fun h6 => ?_) (fun h6 => ?_)
    · refine AWp.rgn [call0 (l5None_a s.expr s2), call0 (l5None_a s.thn s3)] (by simp only [go_sem, seval, sC_eq, strR_pure]; rfl) ?_ ?_
      · (first | trivial | (simp; done) | exact hJ.symm | exact ⟨hJ.symm, hJ.symm⟩)
      refine Exists.intro (sok0 s) ⟨?_, ?_⟩
      · rfl
      exact Can.weak (Weak.lit (by simp only [go_sem, seval, sC_eq, strR_pure, subM, leV, inns, innr, V.inn, us, true_or, or_true] <;> ((unfold sok0; simp_all))) (by simp only [go_sem, seval, sC_eq, strR_pure, subM, leV, inns, innr, V.inn, us, true_or, or_true]) (by simp only [go_sem, seval, sC_eq, strR_pure, subM, leV, inns, innr, V.inn, us, true_or, or_true]))
    · refine AWp.seq ?_
      refine AWp.rgn [] (by simp only [go_sem, seval, sC_eq, strR_pure]; rfl) ?_ ?_
      · (first | trivial | (simp; done) | exact hJ.symm | exact ⟨hJ.symm, hJ.symm⟩)
      refine AWp.condB (by simp only [go_sem, seval, sC_eq, strR_pure]; rfl) (by simp only [go_sem, seval, sC_eq, strR_pure]) (fun h26 => ?_) (fun h26 => ?_)
      · refine AWp.rgn [call0 (l4Name_a s.name s1), call0 (l4Type_a s.type), call0 (sExprOk_a s.expr s2), call0 (l5None_a s.thn s3)] (by simp only [go_sem, seval, sC_eq, strR_pure]; rfl) ?_ ?_
        · (first | trivial | (simp; done) | exact hJ.symm | exact ⟨hJ.symm, hJ.symm⟩)
        refine Exists.intro (sok0 s) ⟨?_, ?_⟩
        · rfl
        exact Can.weak (Weak.lit (by simp only [go_sem, seval, sC_eq, strR_pure, subM, leV, inns, innr, V.inn, us, true_or, or_true] <;> ((unfold sok0; simp_all))) (by simp only [go_sem, seval, sC_eq, strR_pure, subM, leV, inns, innr, V.inn, us, true_or, or_true]) (by simp only [go_sem, seval, sC_eq, strR_pure, subM, leV, inns, innr, V.inn, us, true_or, or_true]))
      · refine AWp.seq ?_
        refine AWp.rgn [] (by simp only [go_sem, seval, sC_eq, strR_pure]; rfl) ?_ ?_
        · (first | trivial | (simp; done) | exact hJ.symm | exact ⟨hJ.symm, hJ.symm⟩)
        refine AWp.condB (by simp only [go_sem, seval, sC_eq, strR_pure]; rfl) (by simp only [go_sem, seval, sC_eq, strR_pure]) (fun h46 => ?_) (fun h46 => ?_)
        · refine AWp.rgn [call0 (sExprOk_a s.expr s2), call0 (l5None_a s.thn s3)] (by simp only [go_sem, seval, sC_eq, strR_pure]; rfl) ?_ ?_
          · (first | trivial | (simp; done) | exact hJ.symm | exact ⟨hJ.symm, hJ.symm⟩)
          refine Exists.intro (sok0 s) ⟨?_, ?_⟩
          · rfl
          exact Can.weak (Weak.lit (by simp only [go_sem, seval, sC_eq, strR_pure, subM, leV, inns, innr, V.inn, us, true_or, or_true] <;> ((unfold sok0; simp_all))) (by simp only [go_sem, seval, sC_eq, strR_pure, subM, leV, inns, innr, V.inn, us, true_or, or_true]) (by simp only [go_sem, seval, sC_eq, strR_pure, subM, leV, inns, innr, V.inn, us, true_or, or_true]))
        · refine AWp.seq ?_
          refine AWp.rgn [] (by simp only [go_sem, seval, sC_eq, strR_pure]; rfl) ?_ ?_
          · (first | trivial | (simp; done) | exact hJ.symm | exact ⟨hJ.symm, hJ.symm⟩)
          refine AWp.condB (by simp only [go_sem, seval, sC_eq, strR_pure]; rfl) (by simp only [go_sem, seval, sC_eq, strR_pure]) (fun h66 => ?_) (fun h66 => ?_)
          · refine AWp.rgn [call0 (sExprOk_a s.expr s2), call0 (sExprOk_a s.thn s3)] (by simp only [go_sem, seval, sC_eq, strR_pure]; rfl) ?_ ?_
            · (first | trivial | (simp; done) | exact hJ.symm | exact ⟨hJ.symm, hJ.symm⟩)
            refine Exists.intro (sok0 s) ⟨?_, ?_⟩
            · rfl
            exact Can.weak (Weak.lit (by simp only [go_sem, seval, sC_eq, strR_pure, subM, leV, inns, innr, V.inn, us, true_or, or_true] <;> ((unfold sok0; simp_all))) (by simp only [go_sem, seval, sC_eq, strR_pure, subM, leV, inns, innr, V.inn, us, true_or, or_true]) (by simp only [go_sem, seval, sC_eq, strR_pure, subM, leV, inns, innr, V.inn, us, true_or, or_true]))
          · refine AWp.skip ?_
            refine Exists.intro (sok0 s) ⟨?_, ?_⟩
            · rfl
            exact Can.weak (Weak.lit (by simp only [go_sem, seval, sC_eq, strR_pure, subM, leV, inns, innr, V.inn, us, true_or, or_true] <;> ((unfold sok0; simp_all))) (by simp only [go_sem, seval, sC_eq, strR_pure, subM, leV, inns, innr, V.inn, us, true_or, or_true]) (by simp only [go_sem, seval, sC_eq, strR_pure, subM, leV, inns, innr, V.inn, us, true_or, or_true]))
  cases q
  · refine AWp.seq ?_
    refine AWp.rgn [callI (sok0 s = true) (fun h => l5Words_a s h hs), callI (sok0 s = true) (fun h => sTokText_a (sw' s) (by have := (sw_le h).1; omega) (by have := sw_text h; omega))] (by simp only [go_sem, seval, sC_eq, strR_pure]; rfl) ?_ ?_
    · (first | trivial | (simp; done) | exact hJ.symm | exact ⟨hJ.symm, hJ.symm⟩)
    refine AWp.ret (And.intro (.inr rfl) ?_)
    exact Out.plain (by simp only [Tryz.results28]; rfl) (by simp only [resCs, resC, go_sem, seval, sC_eq, strR_pure] <;> (split <;> rfl)) (by simp only [resV, go_sem, seval, sC_eq, strR_pure] <;> (rw [sok, ← hJ]; first | rfl | (rw [Bool.true_and, dec_cast]; rfl))) (by simp only [go_sem, seval, sC_eq, strR_pure])
  · refine AWp.seq ?_
    refine AWp.rgn [callI (sok0 s = true) (fun h => l5Words_a s h hs), callI (sok0 s = true) (fun h => sTokText_a (sw' s) (by have := (sw_le h).1; omega) (by have := sw_text h; omega))] (by simp only [go_sem, seval, sC_eq, strR_pure]; rfl) ?_ ?_
    · (first | trivial | (simp; done) | exact hJ.symm | exact ⟨hJ.symm, hJ.symm⟩)
    refine AWp.ret (And.intro (.inr rfl) ?_)
    exact Out.plain (by simp only [Tryz.results28]; rfl) (by simp only [resCs, resC, go_sem, seval, sC_eq, strR_pure] <;> (split <;> rfl)) (by simp only [resV, go_sem, seval, sC_eq, strR_pure] <;> (rw [sok, ← hJ]; first | rfl | (rw [Bool.true_and, dec_cast]; rfl))) (by simp only [go_sem, seval, sC_eq, strR_pure])
end

section
set_option maxRecDepth 100000
set_option maxHeartbeats 4000000

theorem sok0_wf {s : Sl} (h : sok0 s = true) : wf s.expr = true ∧ wf s.thn = true := by
  unfold sok0 at h
  by_cases k0 : s.kind = 0
  · simp [k0, none0_iff] at h; rw [h.1.2, h.2]; exact ⟨wf_E0, wf_E0⟩
  by_cases k1 : s.kind = 1
  · simp [k1, none0_iff] at h; rw [h.2]; exact ⟨eok_wf h.1.2, wf_E0⟩
  by_cases k2 : s.kind = 2
  · simp [k2, none0_iff] at h; rw [h.2]; exact ⟨eok_wf h.1.2, wf_E0⟩
  by_cases k3 : s.kind = 3
  · simp [k3] at h; exact ⟨eok_wf h.1.2, eok_wf h.2⟩
  · simp [k0, k1, k2, k3] at h
theorem bareOf_a (s : Sl) (hs : sms' s = true) (w1 : wf s.expr = true) (w2 : wf s.thn = true) : ACall En 99 [.ag (sC s)] [] [.ag (bC (bof s))] [] := by
  obtain ⟨s1, s2, s3, s4⟩ := sms_open hs
  refine acall_of_body (fn := Tryz.f99) [] Tryz.func99 rfl rfl (by simp) fun C => ?_
  rw [entry_eq]
  simp only [Tryz.ntmps99, List.length_cons, List.length_nil, Nat.reduceAdd, Nat.reduceSub, List.replicate_succ, List.replicate_zero, List.cons_append, List.nil_append, numL]
  refine AWp.seq ?_
  refine AWp.rgn [] (by simp only [go_sem, seval, sC_eq, bC_eq]; rfl) ?_ ?_
  · (first | trivial | (simp; done))
  refine AWp.seq ?_
  refine AWp.rgn [] (by simp only [go_sem, seval, sC_eq, bC_eq]; rfl) ?_ ?_
  · (first | trivial | (simp; done))
  refine AWp.seq ?_
  refine AWp.seq ?_
  refine AWp.rgn [] (by simp only [go_sem, seval, sC_eq, bC_eq]; rfl) ?_ ?_
  · (first | trivial | (simp; done))
  refine AWp.condB (by simp only [go_sem, seval, sC_eq, bC_eq]; rfl) (by simp only [go_sem, seval, sC_eq, bC_eq]) (fun h11 => ?_) (fun h11 => ?_)
  · refine AWp.rgn [call0 (iBare_a s.expr w1 s3)] (by simp only [go_sem, seval, sC_eq, bC_eq]; rfl) ?_ ?_
    · (first | trivial | (simp; done))
    refine AWp.seq ?_
    refine AWp.seq ?_
    refine AWp.rgn [] (by simp only [go_sem, seval, sC_eq, bC_eq]; rfl) ?_ ?_
    · (first | trivial | (simp; done))
    refine AWp.condB (by simp only [go_sem, seval, sC_eq, bC_eq]; rfl) (by simp only [go_sem, seval, sC_eq, bC_eq]) (fun h18 => ?_) (fun h18 => ?_)
    · refine AWp.rgn [call0 (iBare_a s.thn w2 s4)] (by simp only [go_sem, seval, sC_eq, bC_eq]; rfl) ?_ ?_
      · (first | trivial | (simp; done))
      refine AWp.seq ?_
      refine AWp.rgn [] (by simp only [go_sem, seval, sC_eq, bC_eq]; rfl) ?_ ?_
      · (first | trivial | (simp; done))
      refine AWp.ret (And.intro (.inr rfl) ?_)
      exact Out.plainL (by simp only [Tryz.results99]; rfl) (by simp only [resCs, resC, go_sem, seval, sC_eq, bC_eq] <;> (split <;> rfl)) (by simp only [resV, go_sem, seval, sC_eq, bC_eq] <;> (simp at h11 h18; simp [bof, h11, h18, bC_eq, E0_k, E0_n, E0_s, E0_kids, eR_nil, ler, ler_refl])) (by simp only [go_sem, seval, sC_eq, bC_eq])
    · refine AWp.skip ?_
      refine AWp.seq ?_
      refine AWp.rgn [] (by simp only [go_sem, seval, sC_eq, bC_eq]; rfl) ?_ ?_
      · (first | trivial | (simp; done))
      refine AWp.ret (And.intro (.inr rfl) ?_)
      exact Out.plainL (by simp only [Tryz.results99]; rfl) (by simp only [resCs, resC, go_sem, seval, sC_eq, bC_eq] <;> (split <;> rfl)) (by simp only [resV, go_sem, seval, sC_eq, bC_eq] <;> (simp at h11 h18; simp [bof, h11, h18, bC_eq, E0_k, E0_n, E0_s, E0_kids, eR_nil, ler, ler_refl])) (by simp only [go_sem, seval, sC_eq, bC_eq])
  · refine AWp.skip ?_
    refine AWp.seq ?_
    refine AWp.seq ?_
    refine AWp.rgn [] (by simp only [go_sem, seval, sC_eq, bC_eq]; rfl) ?_ ?_
    · (first | trivial | (simp; done))
    refine AWp.condB (by simp only [go_sem, seval, sC_eq, bC_eq]; rfl) (by simp only [go_sem, seval, sC_eq, bC_eq]) (fun h18 => ?_) (fun h18 => ?_)
    · refine AWp.rgn [call0 (iBare_a s.thn w2 s4)] (by simp only [go_sem, seval, sC_eq, bC_eq]; rfl) ?_ ?_
      · (first | trivial | (simp; done))
      refine AWp.seq ?_
      refine AWp.rgn [] (by simp only [go_sem, seval, sC_eq, bC_eq]; rfl) ?_ ?_
      · (first | trivial | (simp; done))
      refine AWp.ret (And.intro (.inr rfl) ?_)
      exact Out.plainL (by simp only [Tryz.results99]; rfl) (by simp only [resCs, resC, go_sem, seval, sC_eq, bC_eq] <;> (split <;> rfl)) (by simp only [resV, go_sem, seval, sC_eq, bC_eq] <;> (simp at h11 h18; omega)) (by simp only [go_sem, seval, sC_eq, bC_eq])
    · refine AWp.skip ?_
      refine AWp.seq ?_
      refine AWp.rgn [] (by simp only [go_sem, seval, sC_eq, bC_eq]; rfl) ?_ ?_
      · (first | trivial | (simp; done))
      refine AWp.ret (And.intro (.inr rfl) ?_)
      exact Out.plainL (by simp only [Tryz.results99]; rfl) (by simp only [resCs, resC, go_sem, seval, sC_eq, bC_eq] <;> (split <;> rfl)) (by simp only [resV, go_sem, seval, sC_eq, bC_eq] <;> (simp at h11 h18; simp [bof, h11, h18, bC_eq, E0_k, E0_n, E0_s, E0_kids, eR_nil, ler, ler_refl])) (by simp only [go_sem, seval, sC_eq, bC_eq])
end

section
set_option maxRecDepth 100000
set_option maxHeartbeats 4000000
end
end Go.Proofs.YteihfmnmpdbkiaaGreatDoor
