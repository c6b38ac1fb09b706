/- Parts of the proof, one after another: The words of a line; where a word stands: the reference's. | The reference's StmtRead. | The reference's BareRead. Conditions: none. -/
import Derived.Test.YteihfmnmpdbkiaaGreatDoorK5
import Derived.Test.YteihfmnmpdbkiaaGreatDoorKg
import Derived.Test.YteihfmnmpdbkiaaGreatDoorKl
import Derived.Test.YteihfmnmpdbkiaaGreatDoorKi
set_option linter.unusedVariables false
set_option linter.unusedSimpArgs false
namespace Go.Proofs.YteihfmnmpdbkiaaGreatDoor
section
set_option maxRecDepth 100000
set_option maxHeartbeats 4000000

theorem l5List_a (s : Str) (hs : s.length ≤ 281474976710656) : ACall En 116 [.s s] [] [.sl false (strR (wdsOf s)), .b (tokLine s).isSome] [] := by
  have T := sTokLine_a s hs
  have hb := tokL_len s
  unfold wdsOf
  generalize (tokLine s).getD [] = ts at *
  refine acall_of_body (fn := Tryz.f116) [] Tryz.func116 rfl rfl (by simp) fun C => ?_
  rw [entry_eq]
  simp only [Tryz.ntmps116, List.length_cons, List.length_nil, Nat.reduceAdd, Nat.reduceSub, List.replicate_succ, List.replicate_zero, List.cons_append, List.nil_append, numL]
  refine AWp.seq ?_
  refine AWp.rgn [] (by simp only [go_sem, seval, tkR_len, tkR_pure]; rfl) ?_ ?_
  · (first | trivial | (simp; done) | (simp only [decide_eq_true_eq] at h17; simp [strR, fsOk]; omega))
  refine AWp.seq ?_
  refine AWp.rgn [call0 T] (by simp only [go_sem, seval, tkR_len, tkR_pure]; rfl) ?_ ?_
  · (first | trivial | (simp; done) | (simp only [decide_eq_true_eq] at h17; simp [strR, fsOk]; omega))
  refine AWp.seq ?_
  refine AWp.rgn [] (by simp only [go_sem, seval, tkR_len, tkR_pure]; rfl) ?_ ?_
  · (first | trivial | (simp; done) | (simp only [decide_eq_true_eq] at h17; simp [strR, fsOk]; omega))
  refine AWp.seq ?_
  refine AWp.seq ?_
  refine AWp.rgn [] (by simp only [go_sem, seval, tkR_len, tkR_pure]; rfl) ?_ ?_
  · (first | trivial | (simp; done) | (simp only [decide_eq_true_eq] at h17; simp [strR, fsOk]; omega))
  refine AWp.block ?_
  refine AWp.loopK (fun k : Nat => ⟨[.no, .no, .no, .no, .sl false (tkR ts), .b (tokLine s).isSome, .ow 23 1 0 k, .i .i64 k, .no, .no, .no, .no, .no, .no, .no, .no, .no, .no, .no, .no, .no, .no, .no, .no, .no, .no, .no, .no, .no, .no], memOf [(23, ⟨9, 1, strR ((ts.take k).map (·.s))⟩)], us [23]⟩) (fun k : Nat => k ≤ ts.length) (fun k : Nat => ts.length - k) (0) ?_ ?_ (fun k hI => ?_)
  · simp
  · refine Can.trans (Can.ownSlot 6 23 9 1 (by simp only [go_sem, seval, tkR_len, tkR_pure] <;> rfl) (by simp only [go_sem, seval, tkR_len, tkR_pure]) (by simp only [go_sem, seval, tkR_len, tkR_pure] <;> rfl)) ?_
    exact Can.weak (Weak.lit (by simp only [go_sem, seval, tkR_len, tkR_pure, subM, leV, inns, innr, V.inn, us, true_or, or_true] <;> ((try simp))) (by simp only [go_sem, seval, tkR_len, tkR_pure, subM, leV, inns, innr, V.inn, us, true_or, or_true]) (by simp only [go_sem, seval, tkR_len, tkR_pure, subM, leV, inns, innr, V.inn, us, true_or, or_true] <;> ((try simp [strR]))))
  refine AWp.seq ?_
  refine AWp.seq ?_
  refine AWp.rgn [] (by simp only [go_sem, seval, tkR_len, tkR_pure]; rfl) ?_ ?_
  · (first | trivial | (simp; done) | (simp only [decide_eq_true_eq] at h17; simp [strR, fsOk]; omega))
  refine AWp.condB (by simp only [go_sem, seval, tkR_len, tkR_pure]; rfl) (by simp only [go_sem, seval, tkR_len, tkR_pure]) (fun h17 => ?_) (fun h17 => ?_)
  · refine AWp.skip ?_
    refine AWp.seq ?_
    refine AWp.block ?_
    refine AWp.rgn [] (by simp only [go_sem, seval, tkR_len, tkR_pure, tkR_get (show k < ts.length by simpa using h17)]; rfl) ?_ ?_
    · (first | trivial | (simp; done) | (simp only [decide_eq_true_eq] at h17; simp [strR, fsOk]; omega))
    refine AWp.rgn [] (by simp only [go_sem, seval, tkR_len, tkR_pure]; rfl) ?_ ?_
    · (first | trivial | (simp; done) | (simp only [decide_eq_true_eq] at h17; simp [strR, fsOk]; omega))
    refine Exists.intro (k + 1) ⟨?_, ?_, ?_⟩
    · simp at h17; omega
    · simp at h17; omega
    refine Can.trans (Can.swap 37 23 (by decide) (by decide) (by decide) (by decide) (by simp only [go_sem, seval, tkR_len, tkR_pure, V.cl]) (by simp only [go_sem, seval, tkR_len, tkR_pure, V.cl]) (by simp only [go_sem, seval, tkR_len, tkR_pure, swL_get, sw, swM, rnB] <;> rfl) (by simp only [go_sem, seval, tkR_len, tkR_pure, swL_get, sw, swM, rnB] <;> rfl) (by simp only [go_sem, seval, tkR_len, tkR_pure, swL_get, sw, swM, rnB] <;> rfl)) ?_
    exact Can.weak (Weak.lit (by simp only [go_sem, seval, tkR_len, tkR_pure, subM, leV, inns, innr, V.inn, us, true_or, or_true] <;> (rw [wrap64 (by simp at h17; omega) (by simp at h17; omega)]; (try simp))) (by simp only [go_sem, seval, tkR_len, tkR_pure, subM, leV, inns, innr, V.inn, us, true_or, or_true]) (by simp only [go_sem, seval, tkR_len, tkR_pure, subM, leV, inns, innr, V.inn, us, true_or, or_true] <;> (simp only [decide_eq_true_eq] at h17; rw [List.take_add_one, List.getElem?_eq_getElem (show k < ts.length by omega)]; simp [-List.map_take, -List.take_append_getElem, strR, List.getD_eq_getElem?_getD, List.getElem?_eq_getElem (show k < ts.length by omega)])))
  · refine AWp.exit ?_
    refine AWp.seq ?_
    refine AWp.rgn [] (by simp only [go_sem, seval, tkR_len, tkR_pure]; rfl) ?_ ?_
    · (first | trivial | (simp; done) | (simp only [decide_eq_true_eq] at h17; simp [strR, fsOk]; omega))
    refine AWp.frz 23 (by simp only [go_sem, seval, tkR_len, tkR_pure]; rfl) (by simp only [go_sem, seval, tkR_len, tkR_pure]) (by simp only [go_sem, seval, tkR_len, tkR_pure]; rfl) (by simp only [go_sem, seval, tkR_len, tkR_pure]; rfl) ?_
    refine AWp.ret (And.intro (.inr rfl) ?_)
    exact Out.plainL (by simp only [Tryz.results116]; rfl) (by simp only [resCs, resC, go_sem, seval, tkR_len, tkR_pure] <;> (split <;> rfl)) (by simp only [resV, go_sem, seval, tkR_len, tkR_pure] <;> (simp at h17; rw [List.take_of_length_le h17, if_pos (by simpa using hI)]; simp [peel, leV, ler_refl, strR, List.take_of_length_le, h17]; (try (trace_state; sorry)))) (by simp only [go_sem, seval, tkR_len, tkR_pure])
theorem l7Colon_a (l : List Str) (hl : l.length < 4611686018427387904) : ACall En 171 [.sl false (strR l)] [] [.i .i64 (sidx l wCol)] [] := by
  refine acall_of_body (fn := Tryz.f171) [] Tryz.func171 rfl rfl (by simp) fun C => ?_
  rw [entry_eq]
  simp only [Tryz.ntmps171, List.length_cons, List.length_nil, Nat.reduceAdd, Nat.reduceSub, List.replicate_succ, List.replicate_zero, List.cons_append, List.nil_append, numL]
  refine AWp.seq ?_
  refine AWp.rgn [] (by simp only [go_sem, seval, strR_len, strR_pure]; rfl) ?_ ?_
  · (first | trivial | (simp; done))
  refine AWp.seq ?_
  refine AWp.seq ?_
  refine AWp.rgn [] (by simp only [go_sem, seval, strR_len, strR_pure]; rfl) ?_ ?_
  · (first | trivial | (simp; done))
  refine AWp.block ?_
  refine AWp.loopK (fun k : Nat => ⟨[.sl false (strR l), .no, .no, .i .i64 k, .no, .no, .no, .no, .no, .no, .no, .no, .no, .no, .no, .no], memOf [], us []⟩) (fun k : Nat => k ≤ l.length ∧ ∀ x ∈ l.take k, x ≠ wCol) (fun k : Nat => l.length - k) (0) ?_ ?_ (fun k hI => ?_)
  · simp
  · exact Can.weak (Weak.lit (by simp only [go_sem, seval, strR_len, strR_pure, subM, leV, inns, innr, V.inn, us, true_or, or_true] <;> (simp)) (by simp only [go_sem, seval, strR_len, strR_pure, subM, leV, inns, innr, V.inn, us, true_or, or_true]) (by simp only [go_sem, seval, strR_len, strR_pure, subM, leV, inns, innr, V.inn, us, true_or, or_true]))
  refine AWp.seq ?_
  refine AWp.seq ?_
  refine AWp.rgn [] (by simp only [go_sem, seval, strR_len, strR_pure]; rfl) ?_ ?_
  · (first | trivial | (simp; done))
  refine AWp.condB (by simp only [go_sem, seval, strR_len, strR_pure]; rfl) (by simp only [go_sem, seval, strR_len, strR_pure]) (fun h7 => ?_) (fun h7 => ?_)
  · refine AWp.skip ?_
    refine AWp.seq ?_
    refine AWp.block ?_
    refine AWp.seq ?_
    refine AWp.rgn [] (by simp only [go_sem, seval, strR_len, strR_pure, strR_get (show k < l.length by simpa using h7)]; rfl) ?_ ?_
    · simp at h7; simp [strR_len, h7]
    refine AWp.condB (by simp only [go_sem, seval, strR_len, strR_pure]; rfl) (by simp only [go_sem, seval, strR_len, strR_pure]) (fun h14 => ?_) (fun h14 => ?_)
    · refine AWp.seq ?_
      refine AWp.rgn [] (by simp only [go_sem, seval, strR_len, strR_pure]; rfl) ?_ ?_
      · (first | trivial | (simp; done))
      refine AWp.ret (And.intro (.inr rfl) ?_)
      exact Out.plain (by simp only [Tryz.results171]; rfl) (by simp only [resCs, resC, go_sem, seval, strR_len, strR_pure] <;> (split <;> rfl)) (by simp only [resV, go_sem, seval, strR_len, strR_pure] <;> (simp at h7; obtain ⟨g1, g2⟩ := idxOf_at h7 hI.2 (eq_of_beq h14); unfold sidx; rw [if_pos g1, g2])) (by simp only [go_sem, seval, strR_len, strR_pure])
    · refine AWp.skip ?_
      refine AWp.rgn [] (by simp only [go_sem, seval, strR_len, strR_pure]; rfl) ?_ ?_
      · (first | trivial | (simp; done))
      refine Exists.intro (k + 1) ⟨?_, ?_, ?_⟩
      · simp at h7; refine ⟨by omega, fun x hx => ?_⟩; rw [List.take_add_one, List.mem_append, List.getElem?_eq_getElem h7] at hx; rcases hx with hx | hx; exact hI.2 x hx; simp at hx; subst hx; simp [List.getD_eq_getElem?_getD, List.getElem?_eq_getElem h7] at h14; exact h14
      · simp at h7; omega
      exact Can.weak (Weak.lit (by simp only [go_sem, seval, strR_len, strR_pure, subM, leV, inns, innr, V.inn, us, true_or, or_true] <;> (rw [wrap64 (by omega) (by omega)]; simp)) (by simp only [go_sem, seval, strR_len, strR_pure, subM, leV, inns, innr, V.inn, us, true_or, or_true]) (by simp only [go_sem, seval, strR_len, strR_pure, subM, leV, inns, innr, V.inn, us, true_or, or_true]))
  · refine AWp.exit ?_
    refine AWp.seq ?_
    refine AWp.rgn [] (by simp only [go_sem, seval, strR_len, strR_pure]; rfl) ?_ ?_
    · (first | trivial | (simp; done))
    refine AWp.ret (And.intro (.inr rfl) ?_)
    exact Out.plain (by simp only [Tryz.results171]; rfl) (by simp only [resCs, resC, go_sem, seval, strR_len, strR_pure] <;> (split <;> rfl)) (by simp only [resV, go_sem, seval, strR_len, strR_pure] <;> (simp at h7; have : ¬ wCol ∈ l := fun hm => hI.2 wCol (by rw [List.take_of_length_le h7]; exact hm) rfl; simp [sidx, this])) (by simp only [go_sem, seval, strR_len, strR_pure])
end

section
set_option maxRecDepth 100000
set_option maxHeartbeats 8000000

theorem lpos {w : List Str} (h : ((w.length : Int) == 0) = false) : 0 < w.length := by
  rw [beq_eq_false_iff_ne] at h; omega
end

section
set_option maxRecDepth 100000
set_option maxHeartbeats 8000000

theorem l7if {w : List Str} {b : Bool} (h : ((w.getD 0 [] == [105, 102] && decide (sidx w [58] > 0)) && atI w (sidx w [58] + 1) == [112, 114, 105, 110, 116]) = b) : (b = true ↔ (w.getD 0 [] = wIf ∧ 0 < sidx w wCol ∧ w.getD ((sidx w wCol).toNat + 1) [] = wPrint)) := by
  have e : 0 < sidx w [58] → atI w (sidx w [58] + 1) = w.getD ((sidx w [58]).toNat + 1) [] := fun q => by
    unfold atI
    rw [if_pos (by omega), show (sidx w [58] + 1).toNat = (sidx w [58]).toNat + 1 by omega]
  rw [← h]
  simp only [Bool.and_eq_true, beq_iff_eq, decide_eq_true_eq, wIf, wCol, wPrint, and_assoc]
  constructor
  · rintro ⟨a, b, c⟩; exact ⟨a, b, by rw [← e b]; exact c⟩
  · rintro ⟨a, b, c⟩; exact ⟨a, b, by rw [e b]; exact c⟩
theorem l7if_in {w : List Str} (h : w.getD ((sidx w wCol).toNat + 1) [] = wPrint) : (sidx w wCol).toNat + 1 < w.length := get_in fun e => by rw [e] at h; exact absurd h (by decide)
theorem l7eq {w : List Str} {b : Bool} (h : (atI w 1 == [61]) = b) : (b = true ↔ w.getD 1 [] = wEq) := by
  rw [← h, show atI w 1 = w.getD 1 [] from rfl]; simp [wEq]
theorem l7Read_a (w : List Str) (hw : smW w) (hl : w.length ≤ 100000) : ACall En 117 [.sl false (strR w)] [] [.ag (bC (rdB2 w).1), .b (rdB2 w).2] [] := by
  have hs := sidx_bd w wCol
  have hss := l7Colon_a w (by omega)
  simp only [wCol] at hs hss
  have hsw : IntKind.i64.wrap (sidx w [58] + 2) = sidx w [58] + 2 := wrap64 (by omega) (by omega)
  have hsw1 : IntKind.i64.wrap (sidx w [58] + 1) = sidx w [58] + 1 := wrap64 (by omega) (by omega)
  have ht : 0 < sidx w [58] → (sidx w [58] + 2).toNat = (sidx w [58]).toNat + 2 := fun h => by omega
  refine acall_of_body (fn := Tryz.f117) [] Tryz.func117 rfl rfl (by simp) fun C => ?_
  rw [entry_eq]
  simp only [Tryz.ntmps117, List.length_cons, List.length_nil, Nat.reduceAdd, Nat.reduceSub, List.replicate_succ, List.replicate_zero, List.cons_append, List.nil_append, numL]
  refine AWp.seq ?_
  refine AWp.rgn [] (by simp only [go_sem, seval, strR_len, strR_pure, strR_drop, strR_take, wCol, hsw, hsw1, bC_pure2, eC_eq]; rfl) ?_ ?_
  · (first | trivial | (simp; done) | (simp [strR_rows]; done) | (simp [strR_rows]; omega) | (have := lpos h15; omega))
  refine AWp.seq ?_
  refine AWp.rgn [call0 hss] (by simp only [go_sem, seval, strR_len, strR_pure, strR_drop, strR_take, wCol, hsw, hsw1, bC_pure2, eC_eq]; rfl) ?_ ?_
  · (first | trivial | (simp; done) | (simp [strR_rows]; done) | (simp [strR_rows]; omega) | (have := lpos h15; omega))
  refine AWp.seq ?_
  refine AWp.block ?_
  refine AWp.seq ?_
  refine AWp.rgn [] (by simp only [go_sem, seval, strR_len, strR_pure, strR_drop, strR_take, wCol, hsw, hsw1, bC_pure2, eC_eq]; rfl) ?_ ?_
  · (first | trivial | (simp; done) | (simp [strR_rows]; done) | (simp [strR_rows]; omega) | (have := lpos h15; omega))
  refine AWp.condB (by simp only [go_sem, seval, strR_len, strR_pure, strR_drop, strR_take, wCol, hsw, hsw1, bC_pure2, eC_eq]; rfl) (by simp only [go_sem, seval, strR_len, strR_pure, strR_drop, strR_take, wCol, hsw, hsw1, bC_pure2, eC_eq]) (fun h15 => ?_) (fun h15 => ?_)
  · refine AWp.seq ?_
    refine AWp.rgn [] (by simp only [go_sem, seval, strR_len, strR_pure, strR_drop, strR_take, wCol, hsw, hsw1, bC_pure2, eC_eq]; rfl) ?_ ?_
    · (first | trivial | (simp; done) | (simp [strR_rows]; done) | (simp [strR_rows]; omega) | (have := lpos h15; omega))
    refine AWp.ret (And.intro (.inr rfl) ?_)
    exact Out.plainL (by simp only [Tryz.results117]; rfl) (by simp only [resCs, resC, go_sem, seval, strR_len, strR_pure, strR_drop, strR_take, wCol, hsw, hsw1, bC_pure2, eC_eq] <;> (split <;> rfl)) (by simp only [resV, go_sem, seval, strR_len, strR_pure, strR_drop, strR_take, wCol, hsw, hsw1, bC_pure2, eC_eq] <;> ((have e : rdB2 w = (B0, true) := (by unfold rdB2; rw [if_pos (by simpa using h15)])); rw [e, bC_eq]; simp [les, leV, ler, ler_refl, E0_k, E0_n, E0_s, E0_kids, eR_nil, B0])) (by simp only [go_sem, seval, strR_len, strR_pure, strR_drop, strR_take, wCol, hsw, hsw1, bC_pure2, eC_eq])
  · refine AWp.seq ?_
    refine AWp.rgn [] (by simp only [go_sem, seval, strR_len, strR_pure, strR_drop, strR_take, wCol, hsw, hsw1, bC_pure2, eC_eq, strR_get (lpos h15)]; rfl) ?_ ?_
    · (first | trivial | (simp; done) | (simp [strR_rows]; done) | (simp [strR_rows]; omega) | (have := lpos h15; omega))
    refine AWp.condB (by simp only [go_sem, seval, strR_len, strR_pure, strR_drop, strR_take, wCol, hsw, hsw1, bC_pure2, eC_eq]; rfl) (by simp only [go_sem, seval, strR_len, strR_pure, strR_drop, strR_take, wCol, hsw, hsw1, bC_pure2, eC_eq]) (fun h20 => ?_) (fun h20 => ?_)
    · refine AWp.seq ?_
      refine AWp.rgn [call0 (sExprRead_a (w.drop 1) (smW_drop hw 1) (by simp; omega))] (by simp only [go_sem, seval, strR_len, strR_pure, strR_drop, strR_take, wCol, hsw, hsw1, bC_pure2, eC_eq]; rfl) ?_ ?_
      · have h5 := lpos h15; refine ⟨⟨by omega, .inr (of_eq_true (strR_rows w))⟩, ?_⟩; rw [List.take_length]; exact ler_refl _
      refine AWp.seq ?_
      refine AWp.rgn [] (by simp only [go_sem, seval, strR_len, strR_pure, strR_drop, strR_take, wCol, hsw, hsw1, bC_pure2, eC_eq]; rfl) ?_ ?_
      · (first | trivial | (simp; done) | (simp [strR_rows]; done) | (simp [strR_rows]; omega) | (have := lpos h15; omega))
      refine AWp.ret (And.intro (.inr rfl) ?_)
      exact Out.plainL (by simp only [Tryz.results117]; rfl) (by simp only [resCs, resC, go_sem, seval, strR_len, strR_pure, strR_drop, strR_take, wCol, hsw, hsw1, bC_pure2, eC_eq] <;> (split <;> rfl)) (by simp only [resV, go_sem, seval, strR_len, strR_pure, strR_drop, strR_take, wCol, hsw, hsw1, bC_pure2, eC_eq] <;> ((have e : rdB2 w = (⟨2, [], ex (w.drop 1), E0⟩, exOk (w.drop 1)) := (by have := lpos h15; unfold rdB2; rw [if_neg (by omega), if_pos (by simpa [wPrint] using h20)]; rfl)); rw [e, bC_eq]; simp [les, leV, ler, ler_refl, E0_k, E0_n, E0_s, E0_kids, eR_nil, exOk])) (by simp only [go_sem, seval, strR_len, strR_pure, strR_drop, strR_take, wCol, hsw, hsw1, bC_pure2, eC_eq])
    · refine AWp.seq ?_
      refine AWp.rgn [call0 (l4At_a w (sidx w [58] + 1))] (by simp only [go_sem, seval, strR_len, strR_pure, strR_drop, strR_take, wCol, hsw, hsw1, bC_pure2, eC_eq, strR_get (lpos h15)]; rfl) ?_ ?_
      · (first | trivial | (simp; done) | (simp [strR_rows]; done) | (simp [strR_rows]; omega) | (have := lpos h15; omega))
      refine AWp.condB (by simp only [go_sem, seval, strR_len, strR_pure, strR_drop, strR_take, wCol, hsw, hsw1, bC_pure2, eC_eq]; rfl) (by simp only [go_sem, seval, strR_len, strR_pure, strR_drop, strR_take, wCol, hsw, hsw1, bC_pure2, eC_eq]) (fun h34 => ?_) (fun h34 => ?_)
      · refine AWp.seq ?_
        refine AWp.rgn [call0 (sExprRead_a ((w.take (sidx w wCol).toNat).drop 1) (smW_drop (smW_take hw _) 1) (by simp; omega))] (by simp only [go_sem, seval, strR_len, strR_pure, strR_drop, strR_take, wCol, hsw, hsw1, bC_pure2, eC_eq]; rfl) ?_ ?_
        · have h5 := ((l7if h34).1 rfl).2.1; simp only [wCol] at h5; exact ⟨⟨by omega, by omega, by omega, fun h => absurd rfl h⟩, .inr (of_eq_true (strR_rows w))⟩
        refine AWp.seq ?_
        refine AWp.rgn [call0 (sExprRead_a (w.drop ((sidx w wCol).toNat + 2)) (smW_drop hw _) (by simp; omega))] (by simp only [go_sem, seval, strR_len, strR_pure, strR_drop, strR_take, wCol, hsw, hsw1, bC_pure2, eC_eq]; rfl) ?_ ?_
        · have h5 := ((l7if h34).1 rfl).2; have h6 := l7if_in h5.2; simp only [wCol] at h5 h6; refine ⟨⟨by omega, .inr (of_eq_true (strR_rows w))⟩, ?_⟩; rw [List.take_length, ht h5.1]; exact ler_refl _
        refine AWp.seq ?_
        refine AWp.rgn [] (by simp only [go_sem, seval, strR_len, strR_pure, strR_drop, strR_take, wCol, hsw, hsw1, bC_pure2, eC_eq]; rfl) ?_ ?_
        · (first | trivial | (simp; done) | (simp [strR_rows]; done) | (simp [strR_rows]; omega) | (have := lpos h15; omega))
        refine AWp.ret (And.intro (.inr rfl) ?_)
        exact Out.plainL (by simp only [Tryz.results117]; rfl) (by simp only [resCs, resC, go_sem, seval, strR_len, strR_pure, strR_drop, strR_take, wCol, hsw, hsw1, bC_pure2, eC_eq] <;> (split <;> rfl)) (by simp only [resV, go_sem, seval, strR_len, strR_pure, strR_drop, strR_take, wCol, hsw, hsw1, bC_pure2, eC_eq] <;> ((have e : rdB2 w = (⟨3, [], ex ((w.take (sidx w wCol).toNat).drop 1), ex (w.drop ((sidx w wCol).toNat + 2))⟩, exOk ((w.take (sidx w wCol).toNat).drop 1) && exOk (w.drop ((sidx w wCol).toNat + 2))) := (by have := lpos h15; unfold rdB2; rw [if_neg (by omega), if_neg (by simpa [wPrint] using h20), if_pos ((l7if h34).1 rfl)]; rfl)); rw [e, bC_eq]; simp [wCol, les, leV, ler, ler_refl, E0_k, E0_n, E0_s, E0_kids, eR_nil, exOk])) (by simp only [go_sem, seval, strR_len, strR_pure, strR_drop, strR_take, wCol, hsw, hsw1, bC_pure2, eC_eq])
      · refine AWp.seq ?_
        refine AWp.rgn [call0 (l4At_a w 1)] (by simp only [go_sem, seval, strR_len, strR_pure, strR_drop, strR_take, wCol, hsw, hsw1, bC_pure2, eC_eq]; rfl) ?_ ?_
        · (first | trivial | (simp; done) | (simp [strR_rows]; done) | (simp [strR_rows]; omega) | (have := lpos h15; omega))
        refine AWp.condB (by simp only [go_sem, seval, strR_len, strR_pure, strR_drop, strR_take, wCol, hsw, hsw1, bC_pure2, eC_eq]; rfl) (by simp only [go_sem, seval, strR_len, strR_pure, strR_drop, strR_take, wCol, hsw, hsw1, bC_pure2, eC_eq]) (fun h72 => ?_) (fun h72 => ?_)
        · refine AWp.seq ?_
          refine AWp.rgn [call0 (sExprRead_a (w.drop 2) (smW_drop hw 2) (by simp; omega))] (by simp only [go_sem, seval, strR_len, strR_pure, strR_drop, strR_take, wCol, hsw, hsw1, bC_pure2, eC_eq]; rfl) ?_ ?_
          · have h5 : 1 < w.length := get_in (by rw [(l7eq h72).1 rfl]; decide); refine ⟨⟨by omega, .inr (of_eq_true (strR_rows w))⟩, ?_⟩; rw [List.take_length]; exact ler_refl _
          refine AWp.seq ?_
          refine AWp.rgnD [] enM (by simp only [go_sem, seval, strR_len, strR_pure, strR_drop, strR_take, wCol, hsw, hsw1, bC_pure2, eC_eq, strR_get (lpos h15)]; rfl) (by rfl) ?_ ?_
          · have := lpos h15; exact ⟨by omega, rfl⟩
          refine AWp.ret (And.intro (.inr rfl) ?_)
          exact Out.plainL (by simp only [Tryz.results117]; rfl) (by simp only [resCs, resC, go_sem, seval, strR_len, strR_pure, strR_drop, strR_take, wCol, hsw, hsw1, bC_pure2, eC_eq] <;> (split <;> rfl)) (by simp only [resV, go_sem, seval, strR_len, strR_pure, strR_drop, strR_take, wCol, hsw, hsw1, bC_pure2, eC_eq] <;> ((have e : rdB2 w = (⟨1, w.getD 0 [], ex (w.drop 2), E0⟩, exOk (w.drop 2)) := (by have := lpos h15; unfold rdB2; rw [if_neg (by omega), if_neg (by simpa [wPrint] using h20), if_neg (fun h => absurd ((l7if h34).2 h) (by decide)), if_pos ((l7eq h72).1 rfl)]; rfl)); rw [e, bC_eq]; simp [les, leV, ler, ler_refl, E0_k, E0_n, E0_s, E0_kids, eR_nil, exOk])) (by simp only [go_sem, seval, strR_len, strR_pure, strR_drop, strR_take, wCol, hsw, hsw1, bC_pure2, eC_eq])
        · refine AWp.skip ?_
          refine AWp.seq ?_
          refine AWp.rgn [] (by simp only [go_sem, seval, strR_len, strR_pure, strR_drop, strR_take, wCol, hsw, hsw1, bC_pure2, eC_eq]; rfl) ?_ ?_
          · (first | trivial | (simp; done) | (simp [strR_rows]; done) | (simp [strR_rows]; omega) | (have := lpos h15; omega))
          refine AWp.ret (And.intro (.inr rfl) ?_)
          exact Out.plainL (by simp only [Tryz.results117]; rfl) (by simp only [resCs, resC, go_sem, seval, strR_len, strR_pure, strR_drop, strR_take, wCol, hsw, hsw1, bC_pure2, eC_eq] <;> (split <;> rfl)) (by simp only [resV, go_sem, seval, strR_len, strR_pure, strR_drop, strR_take, wCol, hsw, hsw1, bC_pure2, eC_eq] <;> ((have e : rdB2 w = (B0, false) := (by have := lpos h15; unfold rdB2; rw [if_neg (by omega), if_neg (by simpa [wPrint] using h20), if_neg (fun h => absurd ((l7if h34).2 h) (by decide)), if_neg (fun h => absurd ((l7eq h72).2 h) (by decide))])); rw [e, bC_eq]; simp [les, leV, ler, ler_refl, E0_k, E0_n, E0_s, E0_kids, eR_nil, B0])) (by simp only [go_sem, seval, strR_len, strR_pure, strR_drop, strR_take, wCol, hsw, hsw1, bC_pure2, eC_eq])
theorem bareR2_none {line : Str} (h : ¬ ((tokLine line).isSome = true ∧ (rdB2 (wdsOf line)).2 = true ∧ bok (rdB2 (wdsOf line)).1 = true ∧ tokText (bw (rdB2 (wdsOf line)).1) = line)) : bareR2 line = none := by
  unfold bareR2 wdsOf at *
  cases ht : tokLine line with
  | none => rfl
  | some ts =>
    rw [ht] at h
    simp only [Option.getD_some] at h
    dsimp only
    rw [if_neg]
    exact fun q => h ⟨rfl, q⟩
theorem bareR2_some {line : Str} (h : (tokLine line).isSome = true) (h0 : (rdB2 (wdsOf line)).2 = true) (h1 : bok (rdB2 (wdsOf line)).1 = true) (h2 : tokText (bw (rdB2 (wdsOf line)).1) = line) : bareR2 line = some (rdB2 (wdsOf line)).1 := by
  unfold bareR2 wdsOf at *
  cases ht : tokLine line with
  | none => rw [ht] at h; cases h
  | some ts =>
    rw [ht] at h0 h1 h2
    simp only [Option.getD_some] at h0 h1 h2 ⊢
    rw [if_pos ⟨h0, h1, h2⟩]
theorem rdB2_sm {w : List Str} (h : smW w) : smb (rdB2 w).1 = true := by
  have g := smW_get h
  have e := fun k => sm_ex (smW_drop h k)
  have e0 : sm E0 = true := by decide
  unfold rdB2
  split
  · decide
  · split
    · simp only [smb, e, e0, Bool.and_true]; rfl
    · split
      · simp only [smb, e, sm_ex (smW_drop (smW_take h _) 1), Bool.and_true]; rfl
      · split
        · simp only [smb, e, e0, Bool.and_true, decide_eq_true_eq]; have := g 0; omega
        · decide
theorem sBareRead_a (line : Str) (hl : line.length ≤ 281474976710656) : ACall En 47 [.s line] [] [.ag (bC ((bareR line).getD B0)), .b (bareR line).isSome] [] := by
  obtain ⟨w1, w2⟩ := smW_wds line
  have hs := rdB2_sm w1
  rw [bareR_eq]
  refine acall_of_body (fn := Tryz.f47) [] Tryz.func47 rfl rfl (by simp) fun C => ?_
  rw [entry_eq]
  simp only [Tryz.ntmps47, List.length_cons, List.length_nil, Nat.reduceAdd, Nat.reduceSub, List.replicate_succ, List.replicate_zero, List.cons_append, List.nil_append, numL]
  refine AWp.seq ?_
  refine AWp.rgn [] (by simp only [go_sem, seval, strR_pure, bC_pure2, bC_eq]; rfl) ?_ ?_
  · (first | trivial | (simp; done))
  refine AWp.seq ?_
  refine AWp.rgn [call0 (l5List_a line hl)] (by simp only [go_sem, seval, strR_pure, bC_pure2, bC_eq]; rfl) ?_ ?_
  · (first | trivial | (simp; done))
  refine AWp.seq ?_
  refine AWp.seq ?_
  refine AWp.rgn [] (by simp only [go_sem, seval, strR_pure, bC_pure2, bC_eq]; rfl) ?_ ?_
  · (first | trivial | (simp; done))
  refine AWp.condB (by simp only [go_sem, seval, strR_pure, bC_pure2, bC_eq]; rfl) (by simp only [go_sem, seval, strR_pure, bC_pure2, bC_eq]) (fun h14 => ?_) (fun h14 => ?_)
  · refine AWp.seq ?_
    refine AWp.rgn [] (by simp only [go_sem, seval, strR_pure, bC_pure2, bC_eq]; rfl) ?_ ?_
    · (first | trivial | (simp; done))
    refine AWp.ret (And.intro (.inr rfl) ?_)
    exact Out.plainL (by simp only [Tryz.results47]; rfl) (by simp only [resCs, resC, go_sem, seval, strR_pure, bC_pure2, bC_eq] <;> (split <;> rfl)) (by simp only [resV, go_sem, seval, strR_pure, bC_pure2, bC_eq] <;> (rw [bareR2_none (fun q => by rw [q.1] at h14; simp at h14)]; simp [B0, les, leV, ler, ler_refl, E0_k, E0_n, E0_s, E0_kids, eR_nil])) (by simp only [go_sem, seval, strR_pure, bC_pure2, bC_eq])
  · refine AWp.skip ?_
    refine AWp.seq ?_
    refine AWp.rgn [call0 (l7Read_a (wdsOf line) w1 (by omega))] (by simp only [go_sem, seval, strR_pure, bC_pure2, bC_eq]; rfl) ?_ ?_
    · (first | trivial | (simp; done))
    refine AWp.seq ?_
    refine AWp.seq ?_
    refine AWp.rgn [call0 (sBareOk_a (rdB2 (wdsOf line)).1 hs), callI (bok (rdB2 (wdsOf line)).1 = true) (fun h => l7Words_a (rdB2 (wdsOf line)).1 (bok_0 h) hs), callI (bok (rdB2 (wdsOf line)).1 = true) (fun h => sTokText_a (bw (rdB2 (wdsOf line)).1) (by have := (bw_le (bok_0 h)).1; omega) (by have := bw_text (bok_0 h); omega))] (by simp only [go_sem, seval, strR_pure, bC_pure2, bC_eq]; rfl) ?_ ?_
    · (first | trivial | (simp; done))
    refine AWp.condB (by simp only [go_sem, seval, strR_pure, bC_pure2, bC_eq]; rfl) (by simp only [go_sem, seval, strR_pure, bC_pure2, bC_eq]) (fun h34 => ?_) (fun h34 => ?_)
    · refine AWp.seq ?_
      refine AWp.rgn [] (by simp only [go_sem, seval, strR_pure, bC_pure2, bC_eq]; rfl) ?_ ?_
      · (first | trivial | (simp; done))
      refine AWp.ret (And.intro (.inr rfl) ?_)
      exact Out.plainL (by simp only [Tryz.results47]; rfl) (by simp only [resCs, resC, go_sem, seval, strR_pure, bC_pure2, bC_eq] <;> (split <;> rfl)) (by simp only [resV, go_sem, seval, strR_pure, bC_pure2, bC_eq] <;> (rw [bareR2_none (by intro q; simp [q.1, q.2.1, q.2.2] at h34)]; simp [B0, les, leV, ler, ler_refl, E0_k, E0_n, E0_s, E0_kids, eR_nil])) (by simp only [go_sem, seval, strR_pure, bC_pure2, bC_eq])
    · refine AWp.skip ?_
      refine AWp.seq ?_
      refine AWp.rgn [] (by simp only [go_sem, seval, strR_pure, bC_pure2, bC_eq]; rfl) ?_ ?_
      · (first | trivial | (simp; done))
      refine AWp.ret (And.intro (.inr rfl) ?_)
      exact Out.plainL (by simp only [Tryz.results47]; rfl) (by simp only [resCs, resC, go_sem, seval, strR_pure, bC_pure2, bC_eq] <;> (split <;> rfl)) (by simp only [resV, go_sem, seval, strR_pure, bC_pure2, bC_eq] <;> (rw [bareR2_some (by simp at h14; exact h14) (by simp at h34; exact h34.1.1) (by simp at h34; exact h34.1.2) (by simp at h34; exact h34.2)]; simp [les, leV, ler, ler_refl])) (by simp only [go_sem, seval, strR_pure, bC_pure2, bC_eq])
end
end Go.Proofs.YteihfmnmpdbkiaaGreatDoor
