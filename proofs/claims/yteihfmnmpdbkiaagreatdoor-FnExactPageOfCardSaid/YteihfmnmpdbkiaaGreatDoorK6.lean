/- Parts of the proof, one after another: The words of a line; where a word stands: the reference's. | The reference's StmtRead. | The reference's BareRead. Conditions: none. -/
import Derived.Test.YteihfmnmpdbkiaaGreatDoorK5
import Derived.Test.YteihfmnmpdbkiaaGreatDoorKg
import Derived.Test.YteihfmnmpdbkiaaGreatDoorKl
import Derived.Test.YteihfmnmpdbkiaaGreatDoorKi
set_option linter.unusedVariables false
set_option linter.unusedSimpArgs false
namespace Go.Proofs.YteihfmnmpdbkiaaGreatDoor
section
set_option maxRecDepth 100000
set_option maxHeartbeats 4000000

theorem l5List_a (s : Str) (hs : s.length ≤ 281474976710656) : ACall En 116 [.s s] [] [.sl false (strR (wdsOf s)), .b (tokLine s).isSome] [] := by
  have T := sTokLine_a s hs
  have hb := tokL_len s
  unfold wdsOf
  generalize (tokLine s).getD [] = ts at *
  refine acall_of_body (fn := Tryz.f116) [] Tryz.func116 rfl rfl (by simp) fun C => ?_
  rw [entry_eq]
  simp only [Tryz.ntmps116, List.length_cons, List.length_nil, Nat.reduceAdd, Nat.reduceSub, List.replicate_succ, List.replicate_zero, List.cons_append, List.nil_append, numL]
  refine AWp.seq ?_
  refine AWp.rgn [] (by simp only [go_sem, seval, tkR_len, tkR_pure]; rfl) ?_ ?_
  · (first | trivial | (simp; done) | (simp only [decide_eq_true_eq] at h17; simp [strR, fsOk]; omega))
  refine AWp.seq ?_
  refine AWp.rgn [call0 T] (by simp only [go_sem, seval, tkR_len, tkR_pure]; rfl) ?_ ?_
  · (first | trivial | (simp; done) | (simp only [decide_eq_true_eq] at h17; simp [strR, fsOk]; omega))
  refine AWp.seq ?_
  refine AWp.rgn [] (by simp only [go_sem, seval, tkR_len, tkR_pure]; rfl) ?_ ?_
  · (first | trivial | (simp; done) | (simp only [decide_eq_true_eq] at h17; simp [strR, fsOk]; omega))
  refine AWp.seq ?_
  refine AWp.seq ?_
  refine AWp.rgn [] (by simp only [go_sem, seval, tkR_len, tkR_pure]; rfl) ?_ ?_
  · (first | trivial | (simp; done) | (simp only [decide_eq_true_eq] at h17; simp [strR, fsOk]; omega))
  refine AWp.block ?_
  refine AWp.loopK (fun k : Nat => ⟨[.no, .no, .no, .no, .sl false (tkR ts), .b (tokLine s).isSome, .ow 23 1 0 k, .i .i64 k, .no, .no, .no, .no, .no, .no, .no, .no, .no, .no, .no, .no, .no, .no, .no, .no, .no, .no, .no, .no, .no, .no], memOf [(23, ⟨9, 1, strR ((ts.take k).map (·.s))⟩)], us [23]⟩) (fun k : Nat => k ≤ ts.length) (fun k : Nat => ts.length - k) (0) ?_ ?_ (fun k hI => ?_)
  · simp
  · refine Can.trans (Can.ownSlot 6 23 9 1 (by simp only [go_sem, seval, tkR_len, tkR_pure] <;> rfl) (by simp only [go_sem, seval, tkR_len, tkR_pure]) (by simp only [go_sem, seval, tkR_len, tkR_pure] <;> rfl)) ?_
    exact Can.weak (Weak.lit (by simp only [go_sem, seval, tkR_len, tkR_pure, subM, leV, inns, innr, V.inn, us, true_or, or_true] <;> ((try simp))) (by simp only [go_sem, seval, tkR_len, tkR_pure, subM, leV, inns, innr, V.inn, us, true_or, or_true]) (by simp only [go_sem, seval, tkR_len, tkR_pure, subM, leV, inns, innr, V.inn, us, true_or, or_true] <;> ((try simp [strR]))))
  refine AWp.seq ?_
  refine AWp.seq ?_
  refine AWp.rgn [] (by simp only [go_sem, seval, tkR_len, tkR_pure]; rfl) ?_ ?_
  · (first | trivial | (simp; done) | (simp only [decide_eq_true_eq] at h17; simp [strR, fsOk]; omega))
  refine AWp.condB (by simp only [go_sem, seval, tkR_len, tkR_pure]; rfl) (by simp only [go_sem, seval, tkR_len, tkR_pure]) (fun h17 => ?_) (fun h17 => ?_)
  · refine AWp.skip ?_
    refine AWp.seq ?_
    refine AWp.block ?_
    refine AWp.rgn [] (by simp only [go_sem, seval, tkR_len, tkR_pure, tkR_get (show k < ts.length by simpa using h17)]; rfl) ?_ ?_
    · (first | trivial | (simp; done) | (simp only [decide_eq_true_eq] at h17; simp [strR, fsOk]; omega))
    refine AWp.rgn [] (by simp only [go_sem, seval, tkR_len, tkR_pure]; rfl) ?_ ?_
    · (first | trivial | (simp; done) | (simp only [decide_eq_true_eq] at h17; simp [strR, fsOk]; omega))
    refine Exists.intro (k + 1) ⟨?_, ?_, ?_⟩
    · simp at h17; omega
    · simp at h17; omega
    refine Can.trans (Can.swap 37 23 (by decide) (by decide) (by decide) (by decide) (by simp only [go_sem, seval, tkR_len, tkR_pure, V.cl]) (by simp only [go_sem, seval, tkR_len, tkR_pure, V.cl]) (by simp only [go_sem, seval, tkR_len, tkR_pure, swL_get, sw, swM, rnB] <;> rfl) (by simp only [go_sem, seval, tkR_len, tkR_pure, swL_get, sw, swM, rnB] <;> rfl) (by simp only [go_sem, seval, tkR_len, tkR_pure, swL_get, sw, swM, rnB] <;> rfl)) ?_
    exact Can.weak (Weak.lit (by simp only [go_sem, seval, tkR_len, tkR_pure, subM, leV, inns, innr, V.inn, us, true_or, or_true] <;> (rw [wrap64 (by simp at h17; omega) (by simp at h17; omega)]; (try simp))) (by simp only [go_sem, seval, tkR_len, tkR_pure, subM, leV, inns, innr, V.inn, us, true_or, or_true]) (by simp only [go_sem, seval, tkR_len, tkR_pure, subM, leV, inns, innr, V.inn, us, true_or, or_true] <;> (simp only [decide_eq_true_eq] at h17; rw [List.take_add_one, List.getElem?_eq_getElem (show k < ts.length by omega)]; simp [-List.map_take, -List.take_append_getElem, strR, List.getD_eq_getElem?_getD, List.getElem?_eq_getElem (show k < ts.length by omega)])))
  · refine AWp.exit ?_
    refine AWp.seq ?_
    refine AWp.rgn [] (by simp only [go_sem, seval, tkR_len, tkR_pure]; rfl) ?_ ?_
    · (first | trivial | (simp; done) | (simp only [decide_eq_true_eq] at h17; simp [strR, fsOk]; omega))
    refine AWp.frz 23 (by simp only [go_sem, seval, tkR_len, tkR_pure]; rfl) (by simp only [go_sem, seval, tkR_len, tkR_pure]) (by simp only [go_sem, seval, tkR_len, tkR_pure]; rfl) (by simp only [go_sem, seval, tkR_len, tkR_pure]; rfl) ?_
    refine AWp.ret (And.intro (.inr rfl) ?_)
    exact Out.plainL (by simp only [Tryz.results116]; rfl) (by simp only [resCs, resC, go_sem, seval, tkR_len, tkR_pure] <;> (split <;> rfl)) (by simp only [resV, go_sem, seval, tkR_len, tkR_pure] <;> (simp at h17; rw [List.take_of_length_le h17, if_pos (by simpa using hI)]; simp [peel, leV, ler_refl, strR, List.take_of_length_le, h17]; (try (trace_state; sorry)))) (by simp only [go_sem, seval, tkR_len, tkR_pure])
theorem l5Say_a (l : List Str) (hl : l.length < 4611686018427387904) : ACall En 209 [.sl false (strR l)] [] [.i .i64 (sidx l wSay)] [] := by
  refine acall_of_body (fn := Tryz.f209) [] Tryz.func209 rfl rfl (by simp) fun C => ?_
  rw [entry_eq]
  simp only [Tryz.ntmps209, List.length_cons, List.length_nil, Nat.reduceAdd, Nat.reduceSub, List.replicate_succ, List.replicate_zero, List.cons_append, List.nil_append, numL]
  refine AWp.seq ?_
  refine AWp.rgn [] (by simp only [go_sem, seval, strR_len, strR_pure]; rfl) ?_ ?_
  · (first | trivial | (simp; done))
  refine AWp.seq ?_
  refine AWp.seq ?_
  refine AWp.rgn [] (by simp only [go_sem, seval, strR_len, strR_pure]; rfl) ?_ ?_
  · (first | trivial | (simp; done))
  refine AWp.block ?_
  refine AWp.loopK (fun k : Nat => ⟨[.sl false (strR l), .no, .no, .i .i64 k, .no, .no, .no, .no, .no, .no, .no, .no, .no, .no, .no, .no], memOf [], us []⟩) (fun k : Nat => k ≤ l.length ∧ ∀ x ∈ l.take k, x ≠ wSay) (fun k : Nat => l.length - k) (0) ?_ ?_ (fun k hI => ?_)
  · simp
  · exact Can.weak (Weak.lit (by simp only [go_sem, seval, strR_len, strR_pure, subM, leV, inns, innr, V.inn, us, true_or, or_true] <;> (simp)) (by simp only [go_sem, seval, strR_len, strR_pure, subM, leV, inns, innr, V.inn, us, true_or, or_true]) (by simp only [go_sem, seval, strR_len, strR_pure, subM, leV, inns, innr, V.inn, us, true_or, or_true]))
  refine AWp.seq ?_
  refine AWp.seq ?_
  refine AWp.rgn [] (by simp only [go_sem, seval, strR_len, strR_pure]; rfl) ?_ ?_
  · (first | trivial | (simp; done))
  refine AWp.condB (by simp only [go_sem, seval, strR_len, strR_pure]; rfl) (by simp only [go_sem, seval, strR_len, strR_pure]) (fun h7 => ?_) (fun h7 => ?_)
  · refine AWp.skip ?_
    refine AWp.seq ?_
    refine AWp.block ?_
    refine AWp.seq ?_
    refine AWp.rgn [] (by simp only [go_sem, seval, strR_len, strR_pure, strR_get (show k < l.length by simpa using h7)]; rfl) ?_ ?_
    · simp at h7; simp [strR_len, h7]
    refine AWp.condB (by simp only [go_sem, seval, strR_len, strR_pure]; rfl) (by simp only [go_sem, seval, strR_len, strR_pure]) (fun h14 => ?_) (fun h14 => ?_)
    · refine AWp.seq ?_
      refine AWp.rgn [] (by simp only [go_sem, seval, strR_len, strR_pure]; rfl) ?_ ?_
      · (first | trivial | (simp; done))
      refine AWp.ret (And.intro (.inr rfl) ?_)
      exact Out.plain (by simp only [Tryz.results209]; rfl) (by simp only [resCs, resC, go_sem, seval, strR_len, strR_pure] <;> (split <;> rfl)) (by simp only [resV, go_sem, seval, strR_len, strR_pure] <;> (simp at h7; obtain ⟨g1, g2⟩ := idxOf_at h7 hI.2 (eq_of_beq h14); unfold sidx; rw [if_pos g1, g2])) (by simp only [go_sem, seval, strR_len, strR_pure])
    · refine AWp.skip ?_
      refine AWp.rgn [] (by simp only [go_sem, seval, strR_len, strR_pure]; rfl) ?_ ?_
      · (first | trivial | (simp; done))
      refine Exists.intro (k + 1) ⟨?_, ?_, ?_⟩
      · simp at h7; refine ⟨by omega, fun x hx => ?_⟩; rw [List.take_add_one, List.mem_append, List.getElem?_eq_getElem h7] at hx; rcases hx with hx | hx; exact hI.2 x hx; simp at hx; subst hx; simp [List.getD_eq_getElem?_getD, List.getElem?_eq_getElem h7] at h14; exact h14
      · simp at h7; omega
      exact Can.weak (Weak.lit (by simp only [go_sem, seval, strR_len, strR_pure, subM, leV, inns, innr, V.inn, us, true_or, or_true] <;> (rw [wrap64 (by omega) (by omega)]; simp)) (by simp only [go_sem, seval, strR_len, strR_pure, subM, leV, inns, innr, V.inn, us, true_or, or_true]) (by simp only [go_sem, seval, strR_len, strR_pure, subM, leV, inns, innr, V.inn, us, true_or, or_true]))
  · refine AWp.exit ?_
    refine AWp.seq ?_
    refine AWp.rgn [] (by simp only [go_sem, seval, strR_len, strR_pure]; rfl) ?_ ?_
    · (first | trivial | (simp; done))
    refine AWp.ret (And.intro (.inr rfl) ?_)
    exact Out.plain (by simp only [Tryz.results209]; rfl) (by simp only [resCs, resC, go_sem, seval, strR_len, strR_pure] <;> (split <;> rfl)) (by simp only [resV, go_sem, seval, strR_len, strR_pure] <;> (simp at h7; have : ¬ wSay ∈ l := fun hm => hI.2 wSay (by rw [List.take_of_length_le h7]; exact hm) rfl; simp [sidx, this])) (by simp only [go_sem, seval, strR_len, strR_pure])
end

section
set_option maxRecDepth 100000
set_option maxHeartbeats 8000000

theorem hd_obk (w : List Str) (k : Nat) (c : Bool) (hc : c = true → k < w.length) : (c = true → c = true ∧ (k : Int) < w.length ∧ ((strR w).getD k []).length = 1) ∧ (c = true → (c = true ∧ 1 ≤ ((strR w).getD k []).length) ∧ ({ v := ((strR w).getD k []).getD 0 .no } : Eff) = { v := .s (w.getD k []) }) := by
  have e := fun h => strR_get (l := w) (hc h)
  exact ⟨fun h => ⟨h, by have := hc h; omega, by rw [e h]; rfl⟩, fun h => ⟨⟨h, by rw [e h]; exact Nat.le_refl _⟩, by rw [e h]; rfl⟩⟩
theorem lpos {w : List Str} (h : ((w.length : Int) == 0) = false) : 0 < w.length := by
  rw [beq_eq_false_iff_ne] at h; omega
theorem l5let {w : List Str} {b : Bool} (h : (w.getD 0 [] == [108, 101, 116] && decide ((w.length : Int) > 5) && w.getD 2 [] == [58] && w.getD 4 [] == [61]) = b) : (b = true ↔ (w.getD 0 [] = wLet ∧ 5 < w.length ∧ w.getD 2 [] = wCol ∧ w.getD 4 [] = wEq)) := by
  rw [← h]
  simp only [Bool.and_eq_true, beq_iff_eq, decide_eq_true_eq, wLet, wCol, wEq, and_assoc]
  constructor
  · rintro ⟨a, b, c, d⟩; exact ⟨a, by omega, c, d⟩
  · rintro ⟨a, b, c, d⟩; exact ⟨a, by omega, c, d⟩
theorem l5when {w : List Str} {b : Bool} (h : (w.getD 0 [] == [119, 104, 101, 110] && decide (sidx w [115, 97, 121] > 0)) = b) : (b = true ↔ (w.getD 0 [] = wWhen ∧ 0 < sidx w wSay)) := by
  rw [← h]
  simp only [Bool.and_eq_true, beq_iff_eq, decide_eq_true_eq, wWhen, wSay]
  try exact Iff.rfl
theorem l5Read_a (w : List Str) (hw : smW w) (hl : w.length ≤ 100000) : ACall En 174 [.sl false (strR w)] [] [.ag (sC (rdS2 w).1), .b (rdS2 w).2] [] := by
  have hs := sidx_bd w wSay
  have hss := l5Say_a w (by omega)
  simp only [wSay] at hs hss
  have hsw : IntKind.i64.wrap (sidx w [115, 97, 121] + 1) = sidx w [115, 97, 121] + 1 := wrap64 (by omega) (by omega)
  have ht : 0 < sidx w [115, 97, 121] → (sidx w [115, 97, 121] + 1).toNat = (sidx w [115, 97, 121]).toNat + 1 := fun h => by omega
  refine acall_of_body (fn := Tryz.f174) [] Tryz.func174 rfl rfl (by simp) fun C => ?_
  rw [entry_eq]
  simp only [Tryz.ntmps174, List.length_cons, List.length_nil, Nat.reduceAdd, Nat.reduceSub, List.replicate_succ, List.replicate_zero, List.cons_append, List.nil_append, numL]
  refine AWp.seq ?_
  refine AWp.rgn [] (by simp only [go_sem, seval, asO, strR_len, strR_pure, strR_drop, strR_take, wSay, hsw, sC_pure2, eC_eq]; rfl) ?_ ?_
  · (first | trivial | (simp; done) | (simp [strR_rows]; done) | (simp [strR_rows]; omega))
  refine AWp.seq ?_
  refine AWp.rgn [] (by simp only [go_sem, seval, asO, strR_len, strR_pure, strR_drop, strR_take, wSay, hsw, sC_pure2, eC_eq]; rfl) ?_ ?_
  · (first | trivial | (simp; done) | (simp [strR_rows]; done) | (simp [strR_rows]; omega))
  refine AWp.seq ?_
  refine AWp.block ?_
  refine AWp.seq ?_
  refine AWp.rgn [] (by simp only [go_sem, seval, asO, strR_len, strR_pure, strR_drop, strR_take, wSay, hsw, sC_pure2, eC_eq]; rfl) ?_ ?_
  · (first | trivial | (simp; done) | (simp [strR_rows]; done) | (simp [strR_rows]; omega))
  refine AWp.condB (by simp only [go_sem, seval, asO, strR_len, strR_pure, strR_drop, strR_take, wSay, hsw, sC_pure2, eC_eq]; rfl) (by simp only [go_sem, seval, asO, strR_len, strR_pure, strR_drop, strR_take, wSay, hsw, sC_pure2, eC_eq]) (fun h15 => ?_) (fun h15 => ?_)
  · refine AWp.seq ?_
    refine AWp.rgn [] (by simp only [go_sem, seval, asO, strR_len, strR_pure, strR_drop, strR_take, wSay, hsw, sC_pure2, eC_eq]; rfl) ?_ ?_
    · (first | trivial | (simp; done) | (simp [strR_rows]; done) | (simp [strR_rows]; omega))
    refine AWp.ret (And.intro (.inr rfl) ?_)
    exact Out.plainL (by simp only [Tryz.results174]; rfl) (by simp only [resCs, resC, go_sem, seval, asO, strR_len, strR_pure, strR_drop, strR_take, wSay, hsw, sC_pure2, eC_eq] <;> (split <;> rfl)) (by simp only [resV, go_sem, seval, asO, strR_len, strR_pure, strR_drop, strR_take, wSay, hsw, sC_pure2, eC_eq] <;> ((have e : rdS2 w = (S0, true) := (by unfold rdS2; rw [if_pos (by simpa using h15)])); rw [e, sC_eq]; simp [les, leV, ler, ler_refl, E0_k, E0_n, E0_s, E0_kids, eR_nil, S0])) (by simp only [go_sem, seval, asO, strR_len, strR_pure, strR_drop, strR_take, wSay, hsw, sC_pure2, eC_eq])
  · refine AWp.seq ?_
    refine AWp.rgnS [33, 39] [asO En { v := .s (w.getD 2 []) }, asO En { v := .s (w.getD 4 []) }] (by simp only [go_sem, seval, asO, strR_len, strR_pure, strR_drop, strR_take, wSay, hsw, sC_pure2, eC_eq, strR_get (lpos h15)]; rfl) ?_ ?_
    · have k1 : (w.getD 0 [] == [108, 101, 116] && decide ((w.length : Int) > 5)) = true → 2 < w.length := (fun h => by simp only [Bool.and_eq_true, decide_eq_true_eq] at h; omega); have k2 : (w.getD 0 [] == [108, 101, 116] && decide ((w.length : Int) > 5) && w.getD 2 [] == [58]) = true → 4 < w.length := (fun h => by simp only [Bool.and_eq_true, decide_eq_true_eq] at h; omega); exact ⟨⟨⟨⟨by have := lpos h15; omega, (hd_obk w 2 _ k1).1⟩, (hd_obk w 2 _ k1).2⟩, (hd_obk w 4 _ k2).1⟩, (hd_obk w 4 _ k2).2⟩
    refine AWp.condB (by simp only [go_sem, seval, asO, strR_len, strR_pure, strR_drop, strR_take, wSay, hsw, sC_pure2, eC_eq]; rfl) (by simp only [go_sem, seval, asO, strR_len, strR_pure, strR_drop, strR_take, wSay, hsw, sC_pure2, eC_eq]) (fun h20 => ?_) (fun h20 => ?_)
    · refine AWp.seq ?_
      refine AWp.rgn [call0 (sExprRead_a (w.drop 5) (smW_drop hw 5) (by simp; omega))] (by simp only [go_sem, seval, asO, strR_len, strR_pure, strR_drop, strR_take, wSay, hsw, sC_pure2, eC_eq]; rfl) ?_ ?_
      · have h5 := ((l5let h20).1 rfl).2.1; refine ⟨⟨by omega, .inr (of_eq_true (strR_rows w))⟩, ?_⟩; rw [List.take_length]; exact ler_refl _
      refine AWp.seq ?_
      refine AWp.rgnD [] enM (by simp only [go_sem, seval, asO, strR_len, strR_pure, strR_drop, strR_take, wSay, hsw, sC_pure2, eC_eq, strR_get (show 1 < w.length by simp at h20; omega), strR_get (show 3 < w.length by simp at h20; omega)]; rfl) (by rfl) ?_ ?_
      · have h5 := ((l5let h20).1 rfl).2.1; exact ⟨by omega, rfl⟩
      refine AWp.ret (And.intro (.inr rfl) ?_)
      exact Out.plainL (by simp only [Tryz.results174]; rfl) (by simp only [resCs, resC, go_sem, seval, asO, strR_len, strR_pure, strR_drop, strR_take, wSay, hsw, sC_pure2, eC_eq] <;> (split <;> rfl)) (by simp only [resV, go_sem, seval, asO, strR_len, strR_pure, strR_drop, strR_take, wSay, hsw, sC_pure2, eC_eq] <;> ((have e : rdS2 w = (⟨1, w.getD 1 [], w.getD 3 [], ex (w.drop 5), E0⟩, exOk (w.drop 5)) := (by have := lpos h15; unfold rdS2; rw [if_neg (by omega), if_pos ((l5let h20).1 rfl)]; rfl)); rw [e, sC_eq]; simp [les, leV, ler, ler_refl, E0_k, E0_n, E0_s, E0_kids, eR_nil, exOk])) (by simp only [go_sem, seval, asO, strR_len, strR_pure, strR_drop, strR_take, wSay, hsw, sC_pure2, eC_eq])
    · refine AWp.seq ?_
      refine AWp.rgn [] (by simp only [go_sem, seval, asO, strR_len, strR_pure, strR_drop, strR_take, wSay, hsw, sC_pure2, eC_eq, strR_get (lpos h15)]; rfl) ?_ ?_
      · have := lpos h15; omega
      refine AWp.condB (by simp only [go_sem, seval, asO, strR_len, strR_pure, strR_drop, strR_take, wSay, hsw, sC_pure2, eC_eq]; rfl) (by simp only [go_sem, seval, asO, strR_len, strR_pure, strR_drop, strR_take, wSay, hsw, sC_pure2, eC_eq]) (fun h57 => ?_) (fun h57 => ?_)
      · refine AWp.seq ?_
        refine AWp.rgn [call0 (sExprRead_a (w.drop 1) (smW_drop hw 1) (by simp; omega))] (by simp only [go_sem, seval, asO, strR_len, strR_pure, strR_drop, strR_take, wSay, hsw, sC_pure2, eC_eq]; rfl) ?_ ?_
        · have h5 := lpos h15; refine ⟨⟨by omega, .inr (of_eq_true (strR_rows w))⟩, ?_⟩; rw [List.take_length]; exact ler_refl _
        refine AWp.seq ?_
        refine AWp.rgn [] (by simp only [go_sem, seval, asO, strR_len, strR_pure, strR_drop, strR_take, wSay, hsw, sC_pure2, eC_eq]; rfl) ?_ ?_
        · (first | trivial | (simp; done) | (simp [strR_rows]; done) | (simp [strR_rows]; omega))
        refine AWp.ret (And.intro (.inr rfl) ?_)
        exact Out.plainL (by simp only [Tryz.results174]; rfl) (by simp only [resCs, resC, go_sem, seval, asO, strR_len, strR_pure, strR_drop, strR_take, wSay, hsw, sC_pure2, eC_eq] <;> (split <;> rfl)) (by simp only [resV, go_sem, seval, asO, strR_len, strR_pure, strR_drop, strR_take, wSay, hsw, sC_pure2, eC_eq] <;> ((have e : rdS2 w = (⟨2, [], [], ex (w.drop 1), E0⟩, exOk (w.drop 1)) := (by have := lpos h15; unfold rdS2; rw [if_neg (by omega), if_neg (fun h => absurd ((l5let h20).2 h) (by decide)), if_pos (by simpa [wSay] using h57)]; rfl)); rw [e, sC_eq]; simp [les, leV, ler, ler_refl, E0_k, E0_n, E0_s, E0_kids, eR_nil, exOk])) (by simp only [go_sem, seval, asO, strR_len, strR_pure, strR_drop, strR_take, wSay, hsw, sC_pure2, eC_eq])
      · refine AWp.seq ?_
        refine AWp.rgn [call0 hss] (by simp only [go_sem, seval, asO, strR_len, strR_pure, strR_drop, strR_take, wSay, hsw, sC_pure2, eC_eq, strR_get (lpos h15)]; rfl) ?_ ?_
        · have := lpos h15; omega
        refine AWp.condB (by simp only [go_sem, seval, asO, strR_len, strR_pure, strR_drop, strR_take, wSay, hsw, sC_pure2, eC_eq]; rfl) (by simp only [go_sem, seval, asO, strR_len, strR_pure, strR_drop, strR_take, wSay, hsw, sC_pure2, eC_eq]) (fun h71 => ?_) (fun h71 => ?_)
        · refine AWp.seq ?_
          refine AWp.rgn [call0 hss] (by simp only [go_sem, seval, asO, strR_len, strR_pure, strR_drop, strR_take, wSay, hsw, sC_pure2, eC_eq]; rfl) ?_ ?_
          · (first | trivial | (simp; done) | (simp [strR_rows]; done) | (simp [strR_rows]; omega))
          refine AWp.seq ?_
          refine AWp.rgn [call0 (sExprRead_a ((w.take (sidx w wSay).toNat).drop 1) (smW_drop (smW_take hw _) 1) (by simp; omega))] (by simp only [go_sem, seval, asO, strR_len, strR_pure, strR_drop, strR_take, wSay, hsw, sC_pure2, eC_eq]; rfl) ?_ ?_
          · have h5 := ((l5when h71).1 rfl).2; simp only [wSay] at h5; exact ⟨⟨by omega, by omega, by omega, fun h => absurd rfl h⟩, .inr (of_eq_true (strR_rows w))⟩
          refine AWp.seq ?_
          refine AWp.rgn [call0 (sExprRead_a (w.drop ((sidx w wSay).toNat + 1)) (smW_drop hw _) (by simp; omega))] (by simp only [go_sem, seval, asO, strR_len, strR_pure, strR_drop, strR_take, wSay, hsw, sC_pure2, eC_eq]; rfl) ?_ ?_
          · have h5 := ((l5when h71).1 rfl).2; simp only [wSay] at h5; refine ⟨⟨by omega, .inr (of_eq_true (strR_rows w))⟩, ?_⟩; rw [List.take_length, ht h5]; exact ler_refl _
          refine AWp.seq ?_
          refine AWp.rgn [] (by simp only [go_sem, seval, asO, strR_len, strR_pure, strR_drop, strR_take, wSay, hsw, sC_pure2, eC_eq]; rfl) ?_ ?_
          · (first | trivial | (simp; done) | (simp [strR_rows]; done) | (simp [strR_rows]; omega))
          refine AWp.ret (And.intro (.inr rfl) ?_)
          exact Out.plainL (by simp only [Tryz.results174]; rfl) (by simp only [resCs, resC, go_sem, seval, asO, strR_len, strR_pure, strR_drop, strR_take, wSay, hsw, sC_pure2, eC_eq] <;> (split <;> rfl)) (by simp only [resV, go_sem, seval, asO, strR_len, strR_pure, strR_drop, strR_take, wSay, hsw, sC_pure2, eC_eq] <;> ((have e : rdS2 w = (⟨3, [], [], ex ((w.take (sidx w wSay).toNat).drop 1), ex (w.drop ((sidx w wSay).toNat + 1))⟩, exOk ((w.take (sidx w wSay).toNat).drop 1) && exOk (w.drop ((sidx w wSay).toNat + 1))) := (by have := lpos h15; unfold rdS2; rw [if_neg (by omega), if_neg (fun h => absurd ((l5let h20).2 h) (by decide)), if_neg (by simpa [wSay] using h57), if_pos ((l5when h71).1 rfl)]; rfl)); rw [e, sC_eq]; simp [wSay, les, leV, ler, ler_refl, E0_k, E0_n, E0_s, E0_kids, eR_nil, exOk])) (by simp only [go_sem, seval, asO, strR_len, strR_pure, strR_drop, strR_take, wSay, hsw, sC_pure2, eC_eq])
        · refine AWp.skip ?_
          refine AWp.seq ?_
          refine AWp.rgn [] (by simp only [go_sem, seval, asO, strR_len, strR_pure, strR_drop, strR_take, wSay, hsw, sC_pure2, eC_eq]; rfl) ?_ ?_
          · (first | trivial | (simp; done) | (simp [strR_rows]; done) | (simp [strR_rows]; omega))
          refine AWp.ret (And.intro (.inr rfl) ?_)
          exact Out.plainL (by simp only [Tryz.results174]; rfl) (by simp only [resCs, resC, go_sem, seval, asO, strR_len, strR_pure, strR_drop, strR_take, wSay, hsw, sC_pure2, eC_eq] <;> (split <;> rfl)) (by simp only [resV, go_sem, seval, asO, strR_len, strR_pure, strR_drop, strR_take, wSay, hsw, sC_pure2, eC_eq] <;> ((have e : rdS2 w = (S0, false) := (by have := lpos h15; unfold rdS2; rw [if_neg (by omega), if_neg (fun h => absurd ((l5let h20).2 h) (by decide)), if_neg (by simpa [wSay] using h57), if_neg (fun h => absurd ((l5when h71).2 h) (by decide))])); rw [e, sC_eq]; simp [les, leV, ler, ler_refl, E0_k, E0_n, E0_s, E0_kids, eR_nil, S0])) (by simp only [go_sem, seval, asO, strR_len, strR_pure, strR_drop, strR_take, wSay, hsw, sC_pure2, eC_eq])
theorem stmtR2_none {line : Str} (h : ¬ ((tokLine line).isSome = true ∧ (rdS2 (wdsOf line)).2 = true ∧ sok (rdS2 (wdsOf line)).1 = true ∧ tokText (sw' (rdS2 (wdsOf line)).1) = line)) : stmtR2 line = none := by
  unfold stmtR2 wdsOf at *
  cases ht : tokLine line with
  | none => rfl
  | some ts =>
    rw [ht] at h
    simp only [Option.getD_some] at h
    dsimp only
    rw [if_neg]
    exact fun q => h ⟨rfl, q⟩
theorem stmtR2_some {line : Str} (h : (tokLine line).isSome = true) (h0 : (rdS2 (wdsOf line)).2 = true) (h1 : sok (rdS2 (wdsOf line)).1 = true) (h2 : tokText (sw' (rdS2 (wdsOf line)).1) = line) : stmtR2 line = some (rdS2 (wdsOf line)).1 := by
  unfold stmtR2 wdsOf at *
  cases ht : tokLine line with
  | none => rw [ht] at h; cases h
  | some ts =>
    rw [ht] at h0 h1 h2
    simp only [Option.getD_some] at h0 h1 h2 ⊢
    rw [if_pos ⟨h0, h1, h2⟩]
theorem rdS2_sm {w : List Str} (h : smW w) : sms' (rdS2 w).1 = true := by
  have g := smW_get h
  have e := fun k => sm_ex (smW_drop h k)
  have e0 : sm E0 = true := by decide
  unfold rdS2
  split
  · decide
  · split
    · simp only [sms', e, e0, Bool.and_true, Bool.and_eq_true, decide_eq_true_eq]; have := g 1; have := g 3; omega
    · split
      · simp only [sms', e, e0, Bool.and_true]; rfl
      · split
        · simp only [sms', e, sm_ex (smW_drop (smW_take h _) 1), Bool.and_true]; rfl
        · decide
theorem sStmtRead_a (line : Str) (hl : line.length ≤ 281474976710656) : ACall En 122 [.s line] [] [.ag (sC ((stmtR line).getD S0)), .b (stmtR line).isSome] [] := by
  obtain ⟨w1, w2⟩ := smW_wds line
  have hs := rdS2_sm w1
  rw [stmtR_eq]
  refine acall_of_body (fn := Tryz.f122) [] Tryz.func122 rfl rfl (by simp) fun C => ?_
  rw [entry_eq]
  simp only [Tryz.ntmps122, List.length_cons, List.length_nil, Nat.reduceAdd, Nat.reduceSub, List.replicate_succ, List.replicate_zero, List.cons_append, List.nil_append, numL]
  refine AWp.seq ?_
  refine AWp.rgn [] (by simp only [go_sem, seval, strR_pure, sC_pure2, sC_eq]; rfl) ?_ ?_
  · (first | trivial | (simp; done))
  refine AWp.seq ?_
  refine AWp.rgn [call0 (l5List_a line hl)] (by simp only [go_sem, seval, strR_pure, sC_pure2, sC_eq]; rfl) ?_ ?_
  · (first | trivial | (simp; done))
  refine AWp.seq ?_
  refine AWp.seq ?_
  refine AWp.rgn [] (by simp only [go_sem, seval, strR_pure, sC_pure2, sC_eq]; rfl) ?_ ?_
  · (first | trivial | (simp; done))
  refine AWp.condB (by simp only [go_sem, seval, strR_pure, sC_pure2, sC_eq]; rfl) (by simp only [go_sem, seval, strR_pure, sC_pure2, sC_eq]) (fun h14 => ?_) (fun h14 => ?_)
  · refine AWp.seq ?_
    refine AWp.rgn [] (by simp only [go_sem, seval, strR_pure, sC_pure2, sC_eq]; rfl) ?_ ?_
    · (first | trivial | (simp; done))
    refine AWp.ret (And.intro (.inr rfl) ?_)
    exact Out.plainL (by simp only [Tryz.results122]; rfl) (by simp only [resCs, resC, go_sem, seval, strR_pure, sC_pure2, sC_eq] <;> (split <;> rfl)) (by simp only [resV, go_sem, seval, strR_pure, sC_pure2, sC_eq] <;> (rw [stmtR2_none (fun q => by rw [q.1] at h14; simp at h14)]; simp [S0, les, leV, ler, ler_refl, E0_k, E0_n, E0_s, E0_kids, eR_nil])) (by simp only [go_sem, seval, strR_pure, sC_pure2, sC_eq])
  · refine AWp.skip ?_
    refine AWp.seq ?_
    refine AWp.rgn [call0 (l5Read_a (wdsOf line) w1 (by omega))] (by simp only [go_sem, seval, strR_pure, sC_pure2, sC_eq]; rfl) ?_ ?_
    · (first | trivial | (simp; done))
    refine AWp.seq ?_
    refine AWp.seq ?_
    refine AWp.rgn [call0 (sStmtOk_a (rdS2 (wdsOf line)).1 hs), callI (sok (rdS2 (wdsOf line)).1 = true) (fun h => l5Words_a (rdS2 (wdsOf line)).1 (sok_0 h) hs), callI (sok (rdS2 (wdsOf line)).1 = true) (fun h => sTokText_a (sw' (rdS2 (wdsOf line)).1) (by have := (sw_le (sok_0 h)).1; omega) (by have := sw_text (sok_0 h); omega))] (by simp only [go_sem, seval, strR_pure, sC_pure2, sC_eq]; rfl) ?_ ?_
    · (first | trivial | (simp; done))
    refine AWp.condB (by simp only [go_sem, seval, strR_pure, sC_pure2, sC_eq]; rfl) (by simp only [go_sem, seval, strR_pure, sC_pure2, sC_eq]) (fun h34 => ?_) (fun h34 => ?_)
    · refine AWp.seq ?_
      refine AWp.rgn [] (by simp only [go_sem, seval, strR_pure, sC_pure2, sC_eq]; rfl) ?_ ?_
      · (first | trivial | (simp; done))
      refine AWp.ret (And.intro (.inr rfl) ?_)
      exact Out.plainL (by simp only [Tryz.results122]; rfl) (by simp only [resCs, resC, go_sem, seval, strR_pure, sC_pure2, sC_eq] <;> (split <;> rfl)) (by simp only [resV, go_sem, seval, strR_pure, sC_pure2, sC_eq] <;> (rw [stmtR2_none (by intro q; simp [q.1, q.2.1, q.2.2] at h34)]; simp [S0, les, leV, ler, ler_refl, E0_k, E0_n, E0_s, E0_kids, eR_nil])) (by simp only [go_sem, seval, strR_pure, sC_pure2, sC_eq])
    · refine AWp.skip ?_
      refine AWp.seq ?_
      refine AWp.rgn [] (by simp only [go_sem, seval, strR_pure, sC_pure2, sC_eq]; rfl) ?_ ?_
      · (first | trivial | (simp; done))
      refine AWp.ret (And.intro (.inr rfl) ?_)
      exact Out.plainL (by simp only [Tryz.results122]; rfl) (by simp only [resCs, resC, go_sem, seval, strR_pure, sC_pure2, sC_eq] <;> (split <;> rfl)) (by simp only [resV, go_sem, seval, strR_pure, sC_pure2, sC_eq] <;> (rw [stmtR2_some (by simp at h14; exact h14) (by simp at h34; exact h34.1.1) (by simp at h34; exact h34.1.2) (by simp at h34; exact h34.2)]; simp [les, leV, ler, ler_refl])) (by simp only [go_sem, seval, strR_pure, sC_pure2, sC_eq])
end

section
set_option maxRecDepth 100000
set_option maxHeartbeats 8000000
end
end Go.Proofs.YteihfmnmpdbkiaaGreatDoor
