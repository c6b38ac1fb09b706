/- Parts of the proof, one after another: Lines are read: the program's. | Lines are read: the program's, 2. Conditions: none. -/
import Derived.Test.YteihfmnmpdbkiaaGreatDoorKt
import Derived.Test.YteihfmnmpdbkiaaGreatDoorKn
import Derived.Test.YteihfmnmpdbkiaaGreatDoorKl
set_option linter.unusedVariables false
set_option linter.unusedSimpArgs false
namespace Go.Proofs.YteihfmnmpdbkiaaGreatDoor
section
set_option maxRecDepth 100000
set_option maxHeartbeats 8000000

theorem strR_drop (l : List Str) (k : Nat) : (strR l).drop k = strR (l.drop k) := by simp [strR, List.map_drop]
theorem strR_take (l : List Str) (k : Nat) : (strR l).take k = strR (l.take k) := by simp [strR, List.map_take]
theorem smW_drop {l : List Str} (h : smW l) (k : Nat) : smW (l.drop k) := fun w hw => h w (List.mem_of_mem_drop hw)
theorem smW_take {l : List Str} (h : smW l) (k : Nat) : smW (l.take k) := fun w hw => h w (List.mem_of_mem_take hw)
def wdsOf (s : Str) : List Str := ((tokLine s).getD []).map (·.s)
theorem toksL_len : ∀ (n : Nat) (l : Str) (c : Int) (t : List Tk), toks n l c = some t → t.length ≤ l.length
  | 0, l, c, t, h => by simp [toks] at h; subst h; simp
  | n + 1, [], c, t, h => by simp [toks] at h; subst h; simp
  | n + 1, x :: l, c, t, h => by
    simp only [toks] at h
    split at h
    · have := toksL_len n l _ t h; simp only [List.length_cons]; omega
    · split at h
      · cases h
      · obtain ⟨u, hu, rfl⟩ := Option.map_eq_some_iff.1 h
        have h1 := toksL_len n _ _ u hu
        have h2 := wlen_pos (x :: l)
        rw [List.length_drop] at h1
        simp only [List.length_cons] at h1 ⊢; omega
theorem tokL_len (s : Str) : ((tokLine s).getD []).length ≤ 120 := by
  cases h : tokLine s with
  | none => simp
  | some t =>
    unfold tokLine at h
    split at h
    · cases h
    · have := toksL_len _ _ _ _ h; simp only [Option.getD_some]; omega
theorem bC_pure2 (b : Bl) : pures (bC b) = true := by rw [bC_eq]; simp only [pures, V.pure, eR_pure, Bool.and_self]
theorem sidx_bd (l : List Str) (s : Str) : -1 ≤ sidx l s ∧ sidx l s < l.length := by
  unfold sidx
  split
  · rename_i h
    have := List.idxOf_lt_length_iff.2 h
    omega
  · omega
theorem wordsOf_a (s : Str) (hs : s.length ≤ 281474976710656) : ACall En 109 [.s s] [] [.sl false (strR (wdsOf s)), .b (tokLine s).isSome] [] := by
  have T := TokLine_a s hs
  have hb := tokL_len s
  unfold wdsOf
  generalize (tokLine s).getD [] = ts at *
  have hp : ∀ k, purer (filR (strR (ts.map (·.s))) [.s []] k) = true := fun k => filR_pure (strR_pure _) rfl
  have hll : (strR (ts.map (·.s))).length = ts.length := by simp [strR]
  refine acall_of_body (fn := Tryz.f109) [] Tryz.func109 rfl rfl (by simp) fun C => ?_
  rw [entry_eq]
  simp only [Tryz.ntmps109, List.length_cons, List.length_nil, Nat.reduceAdd, Nat.reduceSub, List.replicate_succ, List.replicate_zero, List.cons_append, List.nil_append, numL]
  refine AWp.seq ?_
  refine AWp.rgn [] (by simp only [go_sem, seval, tkR_len, tkR_pure, hp, filR_str_drop, filR_len, hll]; rfl) ?_ ?_
  · (first | trivial | (simp; done))
  refine AWp.seq ?_
  refine AWp.rgn [call0 T] (by simp only [go_sem, seval, tkR_len, tkR_pure, hp, filR_str_drop, filR_len, hll]; rfl) ?_ ?_
  · (first | trivial | (simp; done))
  refine AWp.seq ?_
  refine AWp.rgn [] (by simp only [go_sem, seval, tkR_len, tkR_pure, hp, filR_str_drop, filR_len, hll]; rfl) ?_ ?_
  · simp; omega
  refine AWp.seq ?_
  refine AWp.seq ?_
  refine AWp.rgn [] (by simp only [go_sem, seval, tkR_len, tkR_pure, hp, filR_str_drop, filR_len, hll]; rfl) ?_ ?_
  · (first | trivial | (simp; done))
  refine AWp.block ?_
  refine AWp.loopK (fun k : Nat => ⟨[.no, .no, .no, .no, .no, .b (tokLine s).isSome, .ow 26 1 0 ts.length, .no, .no, .no, .no, .no, .no, .no, .no, .no, .no, .sl false (tkR ts), .i .i64 ts.length, .i .i64 k, .no, .no, .no, .no, .no, .no, .no, .no, .no, .no, .no, .no], memOf [(26, ⟨9, 1, filR (strR (ts.map (·.s))) [.s []] k⟩)], us [26]⟩) (fun k : Nat => k ≤ ts.length) (fun k : Nat => ts.length - k) (0) ?_ ?_ (fun k hI => ?_)
  · simp
  · exact Can.weak (Weak.lit (by simp only [go_sem, seval, tkR_len, tkR_pure, hp, filR_str_drop, filR_len, hll, subM, leV, inns, innr, V.inn, us, true_or, or_true] <;> (simp)) (by simp only [go_sem, seval, tkR_len, tkR_pure, hp, filR_str_drop, filR_len, hll, subM, leV, inns, innr, V.inn, us, true_or, or_true]) (by simp only [go_sem, seval, tkR_len, tkR_pure, hp, filR_str_drop, filR_len, hll, subM, leV, inns, innr, V.inn, us, true_or, or_true] <;> (simp [filR_zero, hll])))
  refine AWp.seq ?_
  refine AWp.rgn [] (by simp only [go_sem, seval, tkR_len, tkR_pure, hp, filR_str_drop, filR_len, hll]; rfl) ?_ ?_
  · (first | trivial | (simp; done))
  refine AWp.seq ?_
  refine AWp.condB (by simp only [go_sem, seval, tkR_len, tkR_pure, hp, filR_str_drop, filR_len, hll]; rfl) (by simp only [go_sem, seval, tkR_len, tkR_pure, hp, filR_str_drop, filR_len, hll]) (fun h20 => ?_) (fun h20 => ?_)
  · refine AWp.skip ?_
    refine AWp.seq ?_
    refine AWp.block ?_
    refine AWp.seq ?_
    refine AWp.rgn [] (by simp only [go_sem, seval, tkR_len, tkR_pure, hp, filR_str_drop, filR_len, hll, tkR_get (show k < ts.length by simpa using h20)]; rfl) ?_ ?_
    · simp at h20; simp; omega
    refine AWp.rgn [] (by simp only [go_sem, seval, tkR_len, tkR_pure, hp, filR_str_drop, filR_len, hll]; rfl) ?_ ?_
    · simp at h20; simp; omega
    refine AWp.rgn [] (by simp only [go_sem, seval, tkR_len, tkR_pure, hp, filR_str_drop, filR_len, hll]; rfl) ?_ ?_
    · (first | trivial | (simp; done))
    refine Exists.intro (k + 1) ⟨?_, ?_, ?_⟩
    · simp at h20; omega
    · simp at h20; omega
    exact Can.weak (Weak.lit (by simp only [go_sem, seval, tkR_len, tkR_pure, hp, filR_str_drop, filR_len, hll, subM, leV, inns, innr, V.inn, us, true_or, or_true] <;> (rw [wrap64 (by simp at h20; omega) (by simp at h20; omega)]; simp)) (by simp only [go_sem, seval, tkR_len, tkR_pure, hp, filR_str_drop, filR_len, hll, subM, leV, inns, innr, V.inn, us, true_or, or_true]) (by simp only [go_sem, seval, tkR_len, tkR_pure, hp, filR_str_drop, filR_len, hll, subM, leV, inns, innr, V.inn, us, true_or, or_true] <;> ((rw [← filR_set (by rw [hll]; simpa using h20), strR_get (by simpa using h20)]; simp [List.getD_eq_getElem?_getD, List.getElem?_eq_getElem (show k < ts.length by simpa using h20)]))))
  · refine AWp.exit ?_
    refine AWp.seq ?_
    refine AWp.rgn [] (by simp only [go_sem, seval, tkR_len, tkR_pure, hp, filR_str_drop, filR_len, hll]; rfl) ?_ ?_
    · (first | trivial | (simp; done))
    refine AWp.frz 26 (by simp only [go_sem, seval, tkR_len, tkR_pure, hp, filR_str_drop, filR_len, hll]; rfl) (by simp only [go_sem, seval, tkR_len, tkR_pure, hp, filR_str_drop, filR_len, hll]) (by simp only [go_sem, seval, tkR_len, tkR_pure, hp, filR_str_drop, filR_len, hll]; rfl) (by simp only [go_sem, seval, tkR_len, tkR_pure, hp, filR_str_drop, filR_len, hll]; rfl) ?_
    refine AWp.ret (And.intro (.inr rfl) ?_)
    exact Out.plain (by simp only [Tryz.results109]; rfl) (by simp only [resCs, resC, go_sem, seval, tkR_len, tkR_pure, hp, filR_str_drop, filR_len, hll] <;> (split <;> rfl)) (by simp only [resV, go_sem, seval, tkR_len, tkR_pure, hp, filR_str_drop, filR_len, hll] <;> (simp at h20; rw [filR_end (by omega)]; simp [← hll, List.take_of_length_le, peel])) (by simp only [go_sem, seval, tkR_len, tkR_pure, hp, filR_str_drop, filR_len, hll])
theorem hd_ob (w : List Str) : (decide ((w.length : Int) > 0) = true → decide ((w.length : Int) > 0) = true ∧ (0 : Int) < w.length ∧ ((strR w).getD 0 []).length = 1) ∧ (decide ((w.length : Int) > 0) = true → (decide ((w.length : Int) > 0) = true ∧ 1 ≤ ((strR w).getD 0 []).length) ∧ ({ v := ((strR w).getD 0 []).getD 0 .no } : Eff) = { v := .s (w.getD 0 []) }) := by
  cases w with
  | nil => simp
  | cons x r => simp [strR]
theorem readBare_a (w : List Str) (hw : smW w) (hl : w.length ≤ 100000) : ACall En 110 [.sl false (strR w)] [] [.ag (bC (prdB w))] [] := by
  have hs := sidx_bd w wCol
  simp only [wCol] at hs
  have hsw : IntKind.i64.wrap (sidx w [58] + 2) = sidx w [58] + 2 := wrap64 (by omega) (by omega)
  have ht : 0 < sidx w [58] → (sidx w [58] + 2).toNat = (sidx w [58]).toNat + 2 := fun h => by omega
  refine acall_of_body (fn := Tryz.f110) [] Tryz.func110 rfl rfl (by simp) fun C => ?_
  rw [entry_eq]
  simp only [Tryz.ntmps110, List.length_cons, List.length_nil, Nat.reduceAdd, Nat.reduceSub, List.replicate_succ, List.replicate_zero, List.cons_append, List.nil_append, numL]
  refine AWp.seq ?_
  refine AWp.rgn [] (by simp only [go_sem, seval, asO, strR_len, strR_pure, strR_drop, strR_take, wCol, hsw, bC_pure2]; rfl) ?_ ?_
  · (first | trivial | (simp; done) | (simp [strR_rows]; done) | (simp [strR_rows]; omega))
  refine AWp.seq ?_
  refine AWp.rgn [] (by simp only [go_sem, seval, asO, strR_len, strR_pure, strR_drop, strR_take, wCol, hsw, bC_pure2]; rfl) ?_ ?_
  · (first | trivial | (simp; done) | (simp [strR_rows]; done) | (simp [strR_rows]; omega))
  refine AWp.seq ?_
  refine AWp.block ?_
  refine AWp.seq ?_
  refine AWp.rgnS [12] [asO En { v := .s (w.getD 0 []) }] (by simp only [go_sem, seval, asO, strR_len, strR_pure, strR_drop, strR_take, wCol, hsw, bC_pure2]; rfl) ?_ ?_
  · exact hd_ob w
  refine AWp.condB (by simp only [go_sem, seval, asO, strR_len, strR_pure, strR_drop, strR_take, wCol, hsw, bC_pure2]; rfl) (by simp only [go_sem, seval, asO, strR_len, strR_pure, strR_drop, strR_take, wCol, hsw, bC_pure2]) (fun h5 => ?_) (fun h5 => ?_)
  · refine AWp.seq ?_
    refine AWp.rgn [] (by simp only [go_sem, seval, asO, strR_len, strR_pure, strR_drop, strR_take, wCol, hsw, bC_pure2]; rfl) ?_ ?_
    · (first | trivial | (simp; done) | (simp [strR_rows]; done) | (simp [strR_rows]; omega))
    refine AWp.rgn [call0 (iExprRead_a (w.drop 1) (smW_drop hw 1) (by simp; omega))] (by simp only [go_sem, seval, asO, strR_len, strR_pure, strR_drop, strR_take, wCol, hsw, bC_pure2]; rfl) ?_ ?_
    · simp only [Bool.and_eq_true, decide_eq_true_eq] at h5; simp [strR_rows, ler_refl]; omega
    refine AWp.seq ?_
    refine AWp.rgn [] (by simp only [go_sem, seval, asO, strR_len, strR_pure, strR_drop, strR_take, wCol, hsw, bC_pure2]; rfl) ?_ ?_
    · (first | trivial | (simp; done) | (simp [strR_rows]; done) | (simp [strR_rows]; omega))
    refine AWp.ret (And.intro (.inr rfl) ?_)
    exact Out.plainL (by simp only [Tryz.results110]; rfl) (by simp only [resCs, resC, go_sem, seval, asO, strR_len, strR_pure, strR_drop, strR_take, wCol, hsw, bC_pure2] <;> (split <;> rfl)) (by simp only [resV, go_sem, seval, asO, strR_len, strR_pure, strR_drop, strR_take, wCol, hsw, bC_pure2] <;> ((have e : prdB w = ⟨2, [], ex (w.drop 1), E0⟩ := (by unfold prdB; rw [if_pos (by simpa [wPrint] using h5)])); rw [e, bC_eq]; simp [les, leV, ler, ler_refl, E0_k, E0_n, E0_s, E0_kids, eR_nil])) (by simp only [go_sem, seval, asO, strR_len, strR_pure, strR_drop, strR_take, wCol, hsw, bC_pure2])
  · refine AWp.seq ?_
    refine AWp.rgnS [30] [asO En { v := .s (w.getD 0 []) }] (by simp only [go_sem, seval, asO, strR_len, strR_pure, strR_drop, strR_take, wCol, hsw, bC_pure2]; rfl) ?_ ?_
    · exact hd_ob w
    refine AWp.condB (by simp only [go_sem, seval, asO, strR_len, strR_pure, strR_drop, strR_take, wCol, hsw, bC_pure2]; rfl) (by simp only [go_sem, seval, asO, strR_len, strR_pure, strR_drop, strR_take, wCol, hsw, bC_pure2]) (fun h23 => ?_) (fun h23 => ?_)
    · refine AWp.seq ?_
      refine AWp.rgn [] (by simp only [go_sem, seval, asO, strR_len, strR_pure, strR_drop, strR_take, wCol, hsw, bC_pure2]; rfl) ?_ ?_
      · (first | trivial | (simp; done) | (simp [strR_rows]; done) | (simp [strR_rows]; omega))
      refine AWp.seq ?_
      refine AWp.rgn [call0 (Index_a w wCol (by omega))] (by simp only [go_sem, seval, asO, strR_len, strR_pure, strR_drop, strR_take, wCol, hsw, bC_pure2]; rfl) ?_ ?_
      · (first | trivial | (simp; done) | (simp [strR_rows]; done) | (simp [strR_rows]; omega))
      refine AWp.seq ?_
      refine AWp.rgn [] (by simp only [go_sem, seval, asO, strR_len, strR_pure, strR_drop, strR_take, wCol, hsw, bC_pure2]; rfl) ?_ ?_
      · (first | trivial | (simp; done) | (simp [strR_rows]; done) | (simp [strR_rows]; omega))
      refine AWp.condB (by simp only [go_sem, seval, asO, strR_len, strR_pure, strR_drop, strR_take, wCol, hsw, bC_pure2]; rfl) (by simp only [go_sem, seval, asO, strR_len, strR_pure, strR_drop, strR_take, wCol, hsw, bC_pure2]) (fun h44 => ?_) (fun h44 => ?_)
      · refine AWp.seq ?_
        refine AWp.rgn [call0 (iExprRead_a ((w.take (sidx w wCol).toNat).drop 1) (smW_drop (smW_take hw _) 1) (by simp; omega))] (by simp only [go_sem, seval, asO, strR_len, strR_pure, strR_drop, strR_take, wCol, hsw, bC_pure2]; rfl) ?_ ?_
        · simp only [Bool.and_eq_true, decide_eq_true_eq] at h44; simp [strR_rows]; omega
        refine AWp.rgn [call0 (iExprRead_a (w.drop ((sidx w wCol).toNat + 2)) (smW_drop hw _) (by simp; omega))] (by simp only [go_sem, seval, asO, strR_len, strR_pure, strR_drop, strR_take, wCol, hsw, bC_pure2, ht (by simp at h44; exact h44.1)]; rfl) ?_ ?_
        · simp only [Bool.and_eq_true, decide_eq_true_eq] at h44; simp [strR_rows, ler_refl]; omega
        refine AWp.seq ?_
        refine AWp.rgn [] (by simp only [go_sem, seval, asO, strR_len, strR_pure, strR_drop, strR_take, wCol, hsw, bC_pure2]; rfl) ?_ ?_
        · (first | trivial | (simp; done) | (simp [strR_rows]; done) | (simp [strR_rows]; omega))
        refine AWp.ret (And.intro (.inr rfl) ?_)
        exact Out.plainL (by simp only [Tryz.results110]; rfl) (by simp only [resCs, resC, go_sem, seval, asO, strR_len, strR_pure, strR_drop, strR_take, wCol, hsw, bC_pure2] <;> (split <;> rfl)) (by simp only [resV, go_sem, seval, asO, strR_len, strR_pure, strR_drop, strR_take, wCol, hsw, bC_pure2] <;> ((have e : prdB w = ⟨3, [], ex ((w.take (sidx w wCol).toNat).drop 1), ex (w.drop ((sidx w wCol).toNat + 2))⟩ := (by unfold prdB; rw [if_neg (by simpa [wPrint] using h5), if_pos (by simpa [wIf] using h23), if_pos (by simpa [wCol] using h44)])); rw [e, bC_eq]; simp [wCol, les, leV, ler, ler_refl])) (by simp only [go_sem, seval, asO, strR_len, strR_pure, strR_drop, strR_take, wCol, hsw, bC_pure2])
      · refine AWp.skip ?_
        refine AWp.seq ?_
        refine AWp.rgn [] (by simp only [go_sem, seval, asO, strR_len, strR_pure, strR_drop, strR_take, wCol, hsw, bC_pure2]; rfl) ?_ ?_
        · (first | trivial | (simp; done) | (simp [strR_rows]; done) | (simp [strR_rows]; omega))
        refine AWp.ret (And.intro (.inr rfl) ?_)
        exact Out.plainL (by simp only [Tryz.results110]; rfl) (by simp only [resCs, resC, go_sem, seval, asO, strR_len, strR_pure, strR_drop, strR_take, wCol, hsw, bC_pure2] <;> (split <;> rfl)) (by simp only [resV, go_sem, seval, asO, strR_len, strR_pure, strR_drop, strR_take, wCol, hsw, bC_pure2] <;> ((have e : prdB w = ⟨3, [], E0, E0⟩ := (by unfold prdB; rw [if_neg (by simpa [wPrint] using h5), if_pos (by simpa [wIf] using h23), if_neg (by simpa [wCol] using h44)])); rw [e, bC_eq]; simp [les, leV, ler, ler_refl, E0_k, E0_n, E0_s, E0_kids, eR_nil])) (by simp only [go_sem, seval, asO, strR_len, strR_pure, strR_drop, strR_take, wCol, hsw, bC_pure2])
    · refine AWp.seq ?_
      refine AWp.rgn [] (by simp only [go_sem, seval, asO, strR_len, strR_pure, strR_drop, strR_take, wCol, hsw, bC_pure2]; rfl) ?_ ?_
      · (first | trivial | (simp; done) | (simp [strR_rows]; done) | (simp [strR_rows]; omega))
      refine AWp.condB (by simp only [go_sem, seval, asO, strR_len, strR_pure, strR_drop, strR_take, wCol, hsw, bC_pure2]; rfl) (by simp only [go_sem, seval, asO, strR_len, strR_pure, strR_drop, strR_take, wCol, hsw, bC_pure2]) (fun h62 => ?_) (fun h62 => ?_)
      · refine AWp.seq ?_
        refine AWp.rgnD [] enM (by simp only [go_sem, seval, asO, strR_len, strR_pure, strR_drop, strR_take, wCol, hsw, bC_pure2, strR_get (show 0 < w.length by simp at h62; omega)]; rfl) (by rfl) ?_ ?_
        · simp only [decide_eq_true_eq] at h62; omega
        refine AWp.rgn [call0 (iExprRead_a (w.drop 2) (smW_drop hw 2) (by simp; omega))] (by simp only [go_sem, seval, asO, strR_len, strR_pure, strR_drop, strR_take, wCol, hsw, bC_pure2]; rfl) ?_ ?_
        · simp only [decide_eq_true_eq] at h62; simp [strR_rows, ler_refl]; omega
        refine AWp.seq ?_
        refine AWp.rgn [] (by simp only [go_sem, seval, asO, strR_len, strR_pure, strR_drop, strR_take, wCol, hsw, bC_pure2]; rfl) ?_ ?_
        · (first | trivial | (simp; done) | (simp [strR_rows]; done) | (simp [strR_rows]; omega))
        refine AWp.ret (And.intro (.inr rfl) ?_)
        exact Out.plainL (by simp only [Tryz.results110]; rfl) (by simp only [resCs, resC, go_sem, seval, asO, strR_len, strR_pure, strR_drop, strR_take, wCol, hsw, bC_pure2] <;> (split <;> rfl)) (by simp only [resV, go_sem, seval, asO, strR_len, strR_pure, strR_drop, strR_take, wCol, hsw, bC_pure2] <;> ((have e : prdB w = ⟨1, w.getD 0 [], ex (w.drop 2), E0⟩ := (by unfold prdB; rw [if_neg (by simpa [wPrint] using h5), if_neg (by simpa [wIf] using h23), if_pos (by simp at h62; omega)])); rw [e, bC_eq]; simp [les, leV, ler, ler_refl, E0_k, E0_n, E0_s, E0_kids, eR_nil])) (by simp only [go_sem, seval, asO, strR_len, strR_pure, strR_drop, strR_take, wCol, hsw, bC_pure2])
      · refine AWp.skip ?_
        refine AWp.seq ?_
        refine AWp.rgn [] (by simp only [go_sem, seval, asO, strR_len, strR_pure, strR_drop, strR_take, wCol, hsw, bC_pure2]; rfl) ?_ ?_
        · (first | trivial | (simp; done) | (simp [strR_rows]; done) | (simp [strR_rows]; omega))
        refine AWp.ret (And.intro (.inr rfl) ?_)
        exact Out.plainL (by simp only [Tryz.results110]; rfl) (by simp only [resCs, resC, go_sem, seval, asO, strR_len, strR_pure, strR_drop, strR_take, wCol, hsw, bC_pure2] <;> (split <;> rfl)) (by simp only [resV, go_sem, seval, asO, strR_len, strR_pure, strR_drop, strR_take, wCol, hsw, bC_pure2] <;> ((have e : prdB w = B0 := (by unfold prdB; rw [if_neg (by simpa [wPrint] using h5), if_neg (by simpa [wIf] using h23), if_neg (by simp at h62; omega)])); rw [e, bC_eq]; simp [B0, les, leV, ler, ler_refl, E0_k, E0_n, E0_s, E0_kids, eR_nil])) (by simp only [go_sem, seval, asO, strR_len, strR_pure, strR_drop, strR_take, wCol, hsw, bC_pure2])
end

section
set_option maxRecDepth 100000
set_option maxHeartbeats 8000000

theorem sm_ex {w : List Str} (h : smW w) : sm (ex w) = true := by
  have hS := ((i_sm 500).1 1 ⟨w, false, 0⟩ h).1
  unfold ex exprR
  split
  · split
    · exact (show sm E0 = true by decide)
    · exact hS
  · exact (show sm E0 = true by decide)
theorem toksL_word : ∀ (n : Nat) (l : Str) (c : Int) (t : List Tk), toks n l c = some t → ∀ x ∈ t, x.s.length ≤ l.length
  | 0, l, c, t, h => by simp [toks] at h; subst h; intro x hx; cases hx
  | n + 1, [], c, t, h => by simp [toks] at h; subst h; intro x hx; cases hx
  | n + 1, y :: l, c, t, h => by
    simp only [toks] at h
    split at h
    · intro x hx; have := toksL_word n l _ t h x hx; simp only [List.length_cons]; omega
    · split at h
      · cases h
      · obtain ⟨u, hu, rfl⟩ := Option.map_eq_some_iff.1 h
        intro x hx
        rcases List.mem_cons.1 hx with rfl | hx
        · simp only [List.length_take]; omega
        · have h1 := toksL_word n _ _ u hu x hx
          rw [List.length_drop] at h1; omega
theorem smW_wds (s : Str) : smW (wdsOf s) ∧ (wdsOf s).length ≤ 120 := by
  refine ⟨?_, by unfold wdsOf; rw [List.length_map]; exact tokL_len s⟩
  unfold wdsOf
  cases h : tokLine s with
  | none => intro w hw; simp at hw
  | some t =>
    unfold tokLine at h
    split at h
    · cases h
    · intro w hw
      simp only [Option.getD_some] at hw
      obtain ⟨x, hx, rfl⟩ := List.mem_map.1 hw
      have := toksL_word _ _ _ _ h x hx
      omega
theorem smW_get {w : List Str} (h : smW w) (k : Nat) : (w.getD k []).length ≤ 281474976710656 := by
  rw [List.getD_eq_getElem?_getD]
  cases hk : w[k]? with
  | none => simp
  | some x => exact h x (List.mem_of_getElem? hk)
theorem prdB_sm {w : List Str} (h : smW w) : smb (prdB w) = true := by
  have g := smW_get h
  have e := fun k => sm_ex (smW_drop h k)
  have e0 : sm E0 = true := by decide
  unfold prdB
  split
  · simp only [smb, e, e0, Bool.and_true]; rfl
  · split
    · split
      · simp only [smb, e, sm_ex (smW_drop (smW_take h _) 1), Bool.and_true]; rfl
      · simp only [smb, e0, Bool.and_true]; rfl
    · split
      · simp only [smb, e, e0, Bool.and_true, decide_eq_true_eq]; have := g 0; omega
      · decide
theorem bareR_none {line : Str} (h : ¬ ((tokLine line).isSome = true ∧ bok (prdB (wdsOf line)) = true ∧ btxt (prdB (wdsOf line)) = line)) : bareR line = none := by
  unfold bareR wdsOf at *
  cases ht : tokLine line with
  | none => rfl
  | some ts =>
    rw [ht] at h
    simp only [Option.getD_some] at h
    dsimp only
    rw [if_neg]
    rintro ⟨h1, h2⟩
    exact h ⟨rfl, h1, by unfold btxt; rw [if_pos h1]; exact h2⟩
theorem bareR_some {line : Str} (h : (tokLine line).isSome = true) (h1 : bok (prdB (wdsOf line)) = true) (h2 : btxt (prdB (wdsOf line)) = line) : bareR line = some (prdB (wdsOf line)) := by
  unfold bareR wdsOf at *
  cases ht : tokLine line with
  | none => rw [ht] at h; cases h
  | some ts =>
    rw [ht] at h1 h2
    simp only [Option.getD_some] at h1 h2 ⊢
    rw [if_pos ⟨h1, by unfold btxt at h2; rw [if_pos h1] at h2; exact h2⟩]
theorem iBareRead_a (line : Str) (hl : line.length ≤ 281474976710656) : ACall En 42 [.s line] [] [.ag (bC ((bareR line).getD B0)), .b (bareR line).isSome] [] := by
  obtain ⟨w1, w2⟩ := smW_wds line
  have hs := prdB_sm w1
  refine acall_of_body (fn := Tryz.f42) [] Tryz.func42 rfl rfl (by simp) fun C => ?_
  rw [entry_eq]
  simp only [Tryz.ntmps42, List.length_cons, List.length_nil, Nat.reduceAdd, Nat.reduceSub, List.replicate_succ, List.replicate_zero, List.cons_append, List.nil_append, numL]
  refine AWp.seq ?_
  refine AWp.rgn [] (by simp only [go_sem, seval, strR_pure, bC_pure2, bC_eq]; rfl) ?_ ?_
  · (first | trivial | (simp; done))
  refine AWp.seq ?_
  refine AWp.rgn [call0 (wordsOf_a line hl)] (by simp only [go_sem, seval, strR_pure, bC_pure2, bC_eq]; rfl) ?_ ?_
  · (first | trivial | (simp; done))
  refine AWp.seq ?_
  refine AWp.rgn [call0 (readBare_a (wdsOf line) w1 (by omega))] (by simp only [go_sem, seval, strR_pure, bC_pure2, bC_eq]; rfl) ?_ ?_
  · (first | trivial | (simp; done))
  refine AWp.seq ?_
  refine AWp.seq ?_
  refine AWp.rgn [call0 (iBareOk_a (prdB (wdsOf line)) hs), call0 (iBareText_a (prdB (wdsOf line)) hs)] (by simp only [go_sem, seval, strR_pure, bC_pure2, bC_eq]; rfl) ?_ ?_
  · (first | trivial | (simp; done))
  refine AWp.condB (by simp only [go_sem, seval, strR_pure, bC_pure2, bC_eq]; rfl) (by simp only [go_sem, seval, strR_pure, bC_pure2, bC_eq]) (fun h26 => ?_) (fun h26 => ?_)
  · refine AWp.seq ?_
    refine AWp.rgn [] (by simp only [go_sem, seval, strR_pure, bC_pure2, bC_eq]; rfl) ?_ ?_
    · (first | trivial | (simp; done))
    refine AWp.ret (And.intro (.inr rfl) ?_)
    exact Out.plainL (by simp only [Tryz.results42]; rfl) (by simp only [resCs, resC, go_sem, seval, strR_pure, bC_pure2, bC_eq] <;> (split <;> rfl)) (by simp only [resV, go_sem, seval, strR_pure, bC_pure2, bC_eq] <;> (rw [bareR_none (by intro q; simp [q.1, q.2.1, q.2.2] at h26)]; simp [B0, les, leV, ler, ler_refl, E0_k, E0_n, E0_s, E0_kids, eR_nil])) (by simp only [go_sem, seval, strR_pure, bC_pure2, bC_eq])
  · refine AWp.skip ?_
    refine AWp.seq ?_
    refine AWp.rgn [] (by simp only [go_sem, seval, strR_pure, bC_pure2, bC_eq]; rfl) ?_ ?_
    · (first | trivial | (simp; done))
    refine AWp.ret (And.intro (.inr rfl) ?_)
    exact Out.plainL (by simp only [Tryz.results42]; rfl) (by simp only [resCs, resC, go_sem, seval, strR_pure, bC_pure2, bC_eq] <;> (split <;> rfl)) (by simp only [resV, go_sem, seval, strR_pure, bC_pure2, bC_eq] <;> (rw [bareR_some (by simp at h26; exact h26.1.1) (by simp at h26; exact h26.1.2) (by simp at h26; exact h26.2)]; simp [les, leV, ler, ler_refl])) (by simp only [go_sem, seval, strR_pure, bC_pure2, bC_eq])
end
end Go.Proofs.YteihfmnmpdbkiaaGreatDoor
