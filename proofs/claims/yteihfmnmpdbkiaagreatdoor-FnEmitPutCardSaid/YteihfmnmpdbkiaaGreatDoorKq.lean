/- Parts of the proof, one after another: Programs: lists of lines; whether they are ok; what they are turned into. Conditions: none. -/
import Derived.Test.YteihfmnmpdbkiaaGreatDoorKo
import Derived.Test.YteihfmnmpdbkiaaGreatDoorKx
set_option linter.unusedVariables false
set_option linter.unusedSimpArgs false
namespace Go.Proofs.YteihfmnmpdbkiaaGreatDoor
section
set_option maxRecDepth 100000
set_option maxHeartbeats 4000000

theorem progOk1_a (s : Sl) (hs : sms' s = true) : ACall En 134 [.ag (sC s)] [] [.b (!sok s)] [] := by
  refine acall_of_body (fn := Tryz.f134) [] Tryz.func134 rfl rfl (by simp) fun C => ?_
  rw [entry_eq]
  simp only [Tryz.ntmps134, List.length_cons, List.length_nil, Nat.reduceAdd, Nat.reduceSub, List.replicate_succ, List.replicate_zero, List.cons_append, List.nil_append, numL]
  refine AWp.seq ?_
  refine AWp.rgn [] (by simp only [go_sem, seval, sC_eq]; rfl) ?_ ?_
  · (first | trivial | (simp; done))
  refine AWp.seq ?_
  refine AWp.rgn [call0 (iStmtOk_a s hs)] (by simp only [go_sem, seval, sC_eq]; rfl) ?_ ?_
  · (first | trivial | (simp; done))
  refine AWp.ret (And.intro (.inr rfl) ?_)
  exact Out.plain (by simp only [Tryz.results134]; rfl) (by simp only [resCs, resC, go_sem, seval, sC_eq] <;> (split <;> rfl)) (by simp only [resV, go_sem, seval, sC_eq] <;> (rfl)) (by simp only [go_sem, seval, sC_eq])
theorem idxS_a (l : List Sl) (hs : allS l = true) (hl : l.length < 4611686018427387904) : ACall En 180 [.sl false (sR l), .fn (.func 134) [] []] [] [.i .i64 (idxP (fun s => !sok s) l)] [] := by
  refine acall_of_body (fn := Tryz.f180) [] Tryz.func180 rfl rfl (by simp) fun C => ?_
  rw [entry_eq]
  simp only [Tryz.ntmps180, List.length_cons, List.length_nil, Nat.reduceAdd, Nat.reduceSub, List.replicate_succ, List.replicate_zero, List.cons_append, List.nil_append, numL]
  refine AWp.seq ?_
  refine AWp.rgn [] (by simp only [go_sem, seval, sR_len, sR_pure, sC_eq]; rfl) ?_ ?_
  · (first | trivial | (simp; done))
  refine AWp.seq ?_
  refine AWp.seq ?_
  refine AWp.rgn [] (by simp only [go_sem, seval, sR_len, sR_pure, sC_eq]; rfl) ?_ ?_
  · (first | trivial | (simp; done))
  refine AWp.block ?_
  refine AWp.loopK (fun k : Nat => ⟨[.sl false (sR l), .fn (.func 134) [] [], .no, .no, .no, .no, .no, .i .i64 l.length, .i .i64 k, .no, .no, .no, .no, .no, .no, .no, .no, .no, .no], memOf [], us []⟩) (fun k : Nat => k ≤ l.length ∧ (l.take k).any (fun s => !sok s) = false) (fun k : Nat => l.length - k) (0) ?_ ?_ (fun k hI => ?_)
  · simp
  · exact Can.weak (Weak.lit (by simp only [go_sem, seval, sR_len, sR_pure, sC_eq, subM, leV, inns, innr, V.inn, us, true_or, or_true] <;> (simp)) (by simp only [go_sem, seval, sR_len, sR_pure, sC_eq, subM, leV, inns, innr, V.inn, us, true_or, or_true]) (by simp only [go_sem, seval, sR_len, sR_pure, sC_eq, subM, leV, inns, innr, V.inn, us, true_or, or_true]))
  refine AWp.seq ?_
  refine AWp.rgn [] (by simp only [go_sem, seval, sR_len, sR_pure, sC_eq]; rfl) ?_ ?_
  · (first | trivial | (simp; done))
  refine AWp.seq ?_
  refine AWp.condB (by simp only [go_sem, seval, sR_len, sR_pure, sC_eq]; rfl) (by simp only [go_sem, seval, sR_len, sR_pure, sC_eq]) (fun h9 => ?_) (fun h9 => ?_)
  · refine AWp.skip ?_
    refine AWp.seq ?_
    refine AWp.block ?_
    refine AWp.seq ?_
    refine AWp.rgn [] (by simp only [go_sem, seval, sR_len, sR_pure, sC_eq]; rfl) ?_ ?_
    · (first | trivial | (simp; done))
    refine AWp.seq ?_
    refine AWp.rgn [callI (k < l.length) (fun h => progOk1_a (l.getD k S0) (allS_at hs h))] (by simp only [go_sem, seval, sR_len, sR_pure, sC_eq, sR_get (show k < l.length by simpa using h9)]; rfl) ?_ ?_
    · simp only [decide_eq_true_eq] at h9; simp; omega
    refine AWp.condB (by simp only [go_sem, seval, sR_len, sR_pure, sC_eq]; rfl) (by simp only [go_sem, seval, sR_len, sR_pure, sC_eq]) (fun h16 => ?_) (fun h16 => ?_)
    · refine AWp.seq ?_
      refine AWp.rgn [] (by simp only [go_sem, seval, sR_len, sR_pure, sC_eq]; rfl) ?_ ?_
      · (first | trivial | (simp; done))
      refine AWp.ret (And.intro (.inr rfl) ?_)
      exact Out.plain (by simp only [Tryz.results180]; rfl) (by simp only [resCs, resC, go_sem, seval, sR_len, sR_pure, sC_eq] <;> (split <;> rfl)) (by simp only [resV, go_sem, seval, sR_len, sR_pure, sC_eq] <;> (simp at h9; rw [idxP_at (d := S0) h9 hI.2 h16])) (by simp only [go_sem, seval, sR_len, sR_pure, sC_eq])
    · refine AWp.skip ?_
      refine AWp.rgn [] (by simp only [go_sem, seval, sR_len, sR_pure, sC_eq]; rfl) ?_ ?_
      · (first | trivial | (simp; done))
      refine Exists.intro (k + 1) ⟨?_, ?_, ?_⟩
      · simp at h9; refine ⟨by omega, ?_⟩; rw [any_take (d := S0) h9, hI.2, h16]; rfl
      · simp at h9; omega
      exact Can.weak (Weak.lit (by simp only [go_sem, seval, sR_len, sR_pure, sC_eq, subM, leV, inns, innr, V.inn, us, true_or, or_true] <;> (rw [wrap64 (by omega) (by omega)]; simp)) (by simp only [go_sem, seval, sR_len, sR_pure, sC_eq, subM, leV, inns, innr, V.inn, us, true_or, or_true]) (by simp only [go_sem, seval, sR_len, sR_pure, sC_eq, subM, leV, inns, innr, V.inn, us, true_or, or_true]))
  · refine AWp.exit ?_
    refine AWp.seq ?_
    refine AWp.rgn [] (by simp only [go_sem, seval, sR_len, sR_pure, sC_eq]; rfl) ?_ ?_
    · (first | trivial | (simp; done))
    refine AWp.ret (And.intro (.inr rfl) ?_)
    exact Out.plain (by simp only [Tryz.results180]; rfl) (by simp only [resCs, resC, go_sem, seval, sR_len, sR_pure, sC_eq] <;> (split <;> rfl)) (by simp only [resV, go_sem, seval, sR_len, sR_pure, sC_eq] <;> (simp at h9; have h0 := hI.2; rw [List.take_of_length_le h9] at h0; rw [idxP_none h0])) (by simp only [go_sem, seval, sR_len, sR_pure, sC_eq])
theorem containsS_a (l : List Sl) (hs : allS l = true) (hl : l.length < 4611686018427387904) : ACall En 133 [.sl false (sR l), .fn (.func 134) [] []] [] [.b (l.any fun s => !sok s)] [] := by
  refine acall_of_body (fn := Tryz.f133) [] Tryz.func133 rfl rfl (by simp) fun C => ?_
  rw [entry_eq]
  simp only [Tryz.ntmps133, List.length_cons, List.length_nil, Nat.reduceAdd, Nat.reduceSub, List.replicate_succ, List.replicate_zero, List.cons_append, List.nil_append, numL]
  refine AWp.seq ?_
  refine AWp.rgn [] (by simp only [go_sem, seval, sR_pure]; rfl) ?_ ?_
  · (first | trivial | (simp; done))
  refine AWp.seq ?_
  refine AWp.rgn [call0 (idxS_a l hs hl)] (by simp only [go_sem, seval, sR_pure]; rfl) ?_ ?_
  · (first | trivial | (simp; done))
  refine AWp.ret (And.intro (.inr rfl) ?_)
  exact Out.plain (by simp only [Tryz.results133]; rfl) (by simp only [resCs, resC, go_sem, seval, sR_pure] <;> (split <;> rfl)) (by simp only [resV, go_sem, seval, sR_pure] <;> (rw [idxP_ge])) (by simp only [go_sem, seval, sR_pure])
def pok (l : List Sl) : Bool := decide (1 ≤ l.length) && decide (l.length ≤ 16) && l.all sok
theorem pok_any (l : List Sl) : (l.any fun s => !sok s) = !l.all sok := by rw [List.any_eq_not_all_not]; simp
theorem pok_open {l : List Sl} (h : pok l = true) : 1 ≤ l.length ∧ l.length ≤ 16 ∧ ∀ k, k < l.length → sok (l.getD k S0) = true := by
  simp only [pok, Bool.and_eq_true, decide_eq_true_eq, List.all_eq_true] at h
  exact ⟨h.1.1, h.1.2, fun k hk => h.2 _ (getD_mem hk)⟩
theorem iProgOk_a (l : List Sl) (hs : allS l = true) (hl : l.length < 4611686018427387904) : ACall En 65 [.sl false (sR l)] [] [.b (pok l)] [] := by
  refine acall_of_body (fn := Tryz.f65) [] Tryz.func65 rfl rfl (by simp) fun C => ?_
  rw [entry_eq]
  simp only [Tryz.ntmps65, List.length_cons, List.length_nil, Nat.reduceAdd, Nat.reduceSub, List.replicate_succ, List.replicate_zero, List.cons_append, List.nil_append, numL]
  refine AWp.seq ?_
  refine AWp.rgn [] (by simp only [go_sem, seval, sR_len, sR_pure]; rfl) ?_ ?_
  · (first | trivial | (simp; done))
  refine AWp.seq ?_
  refine AWp.rgn [call0 (in_a l.length 1 16), call0 (containsS_a l hs hl)] (by simp only [go_sem, seval, sR_len, sR_pure]; rfl) ?_ ?_
  · (first | trivial | (simp; done))
  refine AWp.ret (And.intro (.inr rfl) ?_)
  exact Out.plain (by simp only [Tryz.results65]; rfl) (by simp only [resCs, resC, go_sem, seval, sR_len, sR_pure] <;> (split <;> rfl)) (by simp only [resV, go_sem, seval, sR_len, sR_pure] <;> (rw [pok_any]; simp only [pok, Bool.not_not, dec_cast]; rfl)) (by simp only [go_sem, seval, sR_len, sR_pure])
theorem sProgOk_a (l : List Sl) (hs : allS l = true) (hl : l.length < 4611686018427387904) : ACall En 25 [.sl false (sR l)] [] [.b (pok l)] [] := by
  refine acall_of_body (fn := Tryz.f25) [] Tryz.func25 rfl rfl (by simp) fun C => ?_
  rw [entry_eq]
  simp only [Tryz.ntmps25, List.length_cons, List.length_nil, Nat.reduceAdd, Nat.reduceSub, List.replicate_succ, List.replicate_zero, List.cons_append, List.nil_append, numL]
  refine AWp.seq ?_
  refine AWp.rgn [] (by simp only [go_sem, seval, sR_len, sR_pure, sC_eq]; rfl) ?_ ?_
  · (first | trivial | (simp; done))
  refine AWp.seq ?_
  refine AWp.seq ?_
  refine AWp.rgn [] (by simp only [go_sem, seval, sR_len, sR_pure, sC_eq]; rfl) ?_ ?_
  · (first | trivial | (simp; done))
  refine AWp.block ?_
  refine AWp.loopK (fun k : Nat => ⟨[.sl false (sR l), .no, .no, .i .i64 k, .no, .no, .no, .no, .no, .no, .no, .no, .no, .no, .no, .no, .no, .no, .no, .no, .no, .no, .no, .no], memOf [], us []⟩) (fun k : Nat => k ≤ l.length ∧ (l.take k).any (fun s => !sok s) = false) (fun k : Nat => l.length - k) (0) ?_ ?_ (fun k hI => ?_)
  · simp
  · exact Can.weak (Weak.lit (by simp only [go_sem, seval, sR_len, sR_pure, sC_eq, subM, leV, inns, innr, V.inn, us, true_or, or_true] <;> (simp)) (by simp only [go_sem, seval, sR_len, sR_pure, sC_eq, subM, leV, inns, innr, V.inn, us, true_or, or_true]) (by simp only [go_sem, seval, sR_len, sR_pure, sC_eq, subM, leV, inns, innr, V.inn, us, true_or, or_true]))
  refine AWp.seq ?_
  refine AWp.seq ?_
  refine AWp.rgn [] (by simp only [go_sem, seval, sR_len, sR_pure, sC_eq]; rfl) ?_ ?_
  · (first | trivial | (simp; done))
  refine AWp.condB (by simp only [go_sem, seval, sR_len, sR_pure, sC_eq]; rfl) (by simp only [go_sem, seval, sR_len, sR_pure, sC_eq]) (fun h7 => ?_) (fun h7 => ?_)
  · refine AWp.skip ?_
    refine AWp.seq ?_
    refine AWp.block ?_
    refine AWp.seq ?_
    refine AWp.rgn [callI (k < l.length) (fun h => sStmtOk_a (l.getD k S0) (allS_at hs h))] (by simp only [go_sem, seval, sR_len, sR_pure, sC_eq, sR_get (show k < l.length by simpa using h7)]; rfl) ?_ ?_
    · simp only [decide_eq_true_eq] at h7; simp; omega
    refine AWp.condB (by simp only [go_sem, seval, sR_len, sR_pure, sC_eq]; rfl) (by simp only [go_sem, seval, sR_len, sR_pure, sC_eq]) (fun h15 => ?_) (fun h15 => ?_)
    · refine AWp.seq ?_
      refine AWp.rgn [] (by simp only [go_sem, seval, sR_len, sR_pure, sC_eq]; rfl) ?_ ?_
      · (first | trivial | (simp; done))
      refine AWp.ret (And.intro (.inr rfl) ?_)
      exact Out.plain (by simp only [Tryz.results25]; rfl) (by simp only [resCs, resC, go_sem, seval, sR_len, sR_pure, sC_eq] <;> (split <;> rfl)) (by simp only [resV, go_sem, seval, sR_len, sR_pure, sC_eq] <;> (simp only [decide_eq_true_eq] at h7; have : l.all sok = false := (by rw [List.all_eq_false]; exact ⟨_, getD_mem (d := S0) (show k < l.length by omega), by simpa using h15⟩); simp [pok, this])) (by simp only [go_sem, seval, sR_len, sR_pure, sC_eq])
    · refine AWp.skip ?_
      refine AWp.rgn [] (by simp only [go_sem, seval, sR_len, sR_pure, sC_eq]; rfl) ?_ ?_
      · (first | trivial | (simp; done))
      refine Exists.intro (k + 1) ⟨?_, ?_, ?_⟩
      · simp at h7; refine ⟨by omega, ?_⟩; rw [any_take (d := S0) h7, hI.2, h15]; rfl
      · simp at h7; omega
      exact Can.weak (Weak.lit (by simp only [go_sem, seval, sR_len, sR_pure, sC_eq, subM, leV, inns, innr, V.inn, us, true_or, or_true] <;> (rw [wrap64 (by omega) (by omega)]; simp)) (by simp only [go_sem, seval, sR_len, sR_pure, sC_eq, subM, leV, inns, innr, V.inn, us, true_or, or_true]) (by simp only [go_sem, seval, sR_len, sR_pure, sC_eq, subM, leV, inns, innr, V.inn, us, true_or, or_true]))
  · refine AWp.exit ?_
    refine AWp.seq ?_
    refine AWp.rgn [] (by simp only [go_sem, seval, sR_len, sR_pure, sC_eq]; rfl) ?_ ?_
    · (first | trivial | (simp; done))
    refine AWp.ret (And.intro (.inr rfl) ?_)
    exact Out.plain (by simp only [Tryz.results25]; rfl) (by simp only [resCs, resC, go_sem, seval, sR_len, sR_pure, sC_eq] <;> (split <;> rfl)) (by simp only [resV, go_sem, seval, sR_len, sR_pure, sC_eq] <;> (simp only [decide_eq_false_iff_not] at h7; have h0 := hI.2; rw [List.take_of_length_le (by omega), pok_any] at h0; simp only [Bool.not_eq_false'] at h0; simp only [pok, h0, Bool.and_true, dec_cast, ge_iff_le]; rfl)) (by simp only [go_sem, seval, sR_len, sR_pure, sC_eq])
def lnText (l : List Str) : Str := [(10 : UInt8)].intercalate l
theorem ln_cons (s x : Str) (l : List Str) : lnText (s :: x :: l) = s ++ 10 :: lnText (x :: l) := by simp [lnText, List.intercalate]
theorem ln_one (s : Str) : lnText [s] = s := by simp [lnText, List.intercalate]
theorem ln_nil : lnText [] = [] := rfl
theorem ln_len : ∀ l : List Str, l ≠ [] → (lnText l).length + 1 = (l.map List.length).sum + l.length
  | [], h => absurd rfl h
  | [s], _ => by rw [ln_one]; simp
  | s :: x :: l, _ => by
    have := ln_len (x :: l) (by simp)
    rw [ln_cons]
    simp only [List.length_append, List.length_cons, List.map_cons, List.sum_cons] at this ⊢
    omega
theorem ln_le {l : List Str} {k : Nat} (h : ∀ s ∈ l, s.length ≤ k) : (lnText l).length ≤ l.length * (k + 1) := by
  by_cases hl : l = []
  · subst hl; simp [ln_nil]
  · have h1 := ln_len l hl
    have h2 := sum_le h
    rw [Nat.mul_add]; omega
theorem ln_snoc : ∀ (l : List Str) (s : Str), lnText (l ++ [s]) = (if l = [] then [] else lnText l ++ [10]) ++ s
  | [], s => by simp [ln_one]
  | [x], s => by simp [ln_cons, ln_one]
  | x :: y :: l, s => by
    have := ln_snoc (y :: l) s
    simp only [List.cons_append] at this ⊢
    rw [ln_cons, ln_cons, this]
    simp
theorem ln_take {l : List Str} {k : Nat} (h : k < l.length) : lnText (l.take (k + 1)) = (if 0 < k then lnText (l.take k) ++ [10] else []) ++ l.getD k [] := by
  have e : l.take (k + 1) = l.take k ++ [l.getD k []] := by
    rw [List.take_add_one, List.getElem?_eq_getElem h, List.getD_eq_getElem?_getD, List.getElem?_eq_getElem h]; rfl
  rw [e, ln_snoc]
  congr 1
  cases k with
  | zero => simp
  | succ k =>
    have : l.take (k + 1) ≠ [] := by
      intro e0
      have := congrArg List.length e0
      rw [List.length_take] at this
      simp only [List.length_nil] at this
      omega
    rw [if_neg this, if_pos (by omega)]
theorem ln_sub {l : List Str} (k : Nat) : (lnText (l.take k)).length ≤ (lnText l).length := by
  by_cases h : l.take k = []
  · rw [h]; simp [ln_nil]
  · have h1 := ln_len _ h
    have h2 := ln_len l (fun e => h (by rw [e]; simp))
    have e : (l.map List.length).sum = ((l.take k).map List.length).sum + ((l.drop k).map List.length).sum := by
      conv => lhs; rw [← List.take_append_drop k l]
      rw [List.map_append, List.sum_append]
    have e2 : l.length = (l.take k).length + (l.drop k).length := by rw [← List.length_append, List.take_append_drop]
    omega
theorem iTextJoin_a (l : List Str) (hb : (lnText l).length ≤ 1000000000000) (hn : l.length ≤ 1000000000000) : ACall En 40 [.sl false (strR l)] [] [.s (lnText l)] [] := by
  refine acall_of_body (fn := Tryz.f40) [] Tryz.func40 rfl rfl (by simp) fun C => ?_
  rw [entry_eq]
  simp only [Tryz.ntmps40, List.length_cons, List.length_nil, Nat.reduceAdd, Nat.reduceSub, List.replicate_succ, List.replicate_zero, List.cons_append, List.nil_append, numL]
  refine AWp.seq ?_
  refine AWp.rgn [] (by simp only [go_sem, seval]; rfl) ?_ ?_
  · first | trivial | simp
  refine AWp.seq ?_
  refine AWp.rgn [call0 (join_a l [10] hb hn)] (by simp only [go_sem, seval]; rfl) ?_ ?_
  · first | trivial | simp
  refine AWp.ret (And.intro (.inr rfl) ?_)
  exact Out.plain (by simp only [Tryz.results40]; rfl) (by simp only [resCs, resC, go_sem, seval] <;> (split <;> rfl)) (by simp only [resV, go_sem, seval] <;> (rfl)) (by simp only [go_sem, seval])
theorem sTextJoin_a (l : List Str) (hl : l.length < 1099511627776) (hb : (lnText l).length < 1099511627776) : ACall En 69 [.sl false (strR l)] [] [.s (lnText l)] [] := by
  refine acall_of_body (fn := Tryz.f69) [] Tryz.func69 rfl rfl (by simp) fun C => ?_
  rw [entry_eq]
  simp only [Tryz.ntmps69, List.length_cons, List.length_nil, Nat.reduceAdd, Nat.reduceSub, List.replicate_succ, List.replicate_zero, List.cons_append, List.nil_append, numL]
  refine AWp.seq ?_
  refine AWp.rgn [] (by simp only [go_sem, seval, strR_len, strR_pure]; rfl) ?_ ?_
  · (first | trivial | (simp; done))
  refine AWp.seq ?_
  refine AWp.rgn [] (by simp only [go_sem, seval, strR_len, strR_pure]; rfl) ?_ ?_
  · (first | trivial | (simp; done))
  refine AWp.seq ?_
  refine AWp.seq ?_
  refine AWp.rgn [] (by simp only [go_sem, seval, strR_len, strR_pure]; rfl) ?_ ?_
  · (first | trivial | (simp; done))
  refine AWp.block ?_
  refine AWp.loopK (fun k : Nat => ⟨[.sl false (strR l), .no, .no, .s (lnText (l.take k)), .i .i64 k, .no, .no, .no, .no, .no, .no, .no, .no, .no, .no, .no, .no, .no, .no, .no, .no, .no], memOf [], us []⟩) (fun k : Nat => k ≤ l.length) (fun k : Nat => l.length - k) (0) ?_ ?_ (fun k hI => ?_)
  · simp
  · exact Can.weak (Weak.lit (by simp only [go_sem, seval, strR_len, strR_pure, subM, leV, inns, innr, V.inn, us, true_or, or_true] <;> (simp [ln_nil])) (by simp only [go_sem, seval, strR_len, strR_pure, subM, leV, inns, innr, V.inn, us, true_or, or_true]) (by simp only [go_sem, seval, strR_len, strR_pure, subM, leV, inns, innr, V.inn, us, true_or, or_true]))
  refine AWp.seq ?_
  refine AWp.seq ?_
  refine AWp.rgn [] (by simp only [go_sem, seval, strR_len, strR_pure]; rfl) ?_ ?_
  · (first | trivial | (simp; done))
  refine AWp.condB (by simp only [go_sem, seval, strR_len, strR_pure]; rfl) (by simp only [go_sem, seval, strR_len, strR_pure]) (fun h8 => ?_) (fun h8 => ?_)
  · refine AWp.skip ?_
    refine AWp.seq ?_
    refine AWp.block ?_
    refine AWp.seqJ (fun q : Str => ⟨[.sl false (strR l), .no, .no, .s q, .i .i64 k, .no, .no, .no, .no, .no, .no, .no, .no, .no, .no, .no, .no, .no, .no, .no, .no, .no], memOf [], us []⟩) (fun q : Str => q = if 0 < k then lnText (l.take k) ++ [10] else []) ?_ (fun q hJ => ?_)
    · refine AWp.seq ?_
      refine AWp.rgn [] (by simp only [go_sem, seval, strR_len, strR_pure]; rfl) ?_ ?_
      · (first | trivial | (simp; done))
      refine AWp.condB (by simp only [go_sem, seval, strR_len, strR_pure]; rfl) (by simp only [go_sem, seval, strR_len, strR_pure]) (fun h12 => ?_) (fun h12 => ?_)
      · refine AWp.rgn [] (by simp only [go_sem, seval, strR_len, strR_pure]; rfl) ?_ ?_
        · have q := ln_sub (l := l) k; simp; omega
        refine Exists.intro (lnText (l.take k) ++ [10]) ⟨?_, ?_⟩
        · simp at h12; simp [h12]
        exact Can.weak (Weak.lit (by simp only [go_sem, seval, strR_len, strR_pure, subM, leV, inns, innr, V.inn, us, true_or, or_true] <;> ((simp at h12; subst h12; simp [ln_nil]))) (by simp only [go_sem, seval, strR_len, strR_pure, subM, leV, inns, innr, V.inn, us, true_or, or_true]) (by simp only [go_sem, seval, strR_len, strR_pure, subM, leV, inns, innr, V.inn, us, true_or, or_true]))
      · refine AWp.skip ?_
        refine Exists.intro ([]) ⟨?_, ?_⟩
        · simp at h12; simp [h12]
        exact Can.weak (Weak.lit (by simp only [go_sem, seval, strR_len, strR_pure, subM, leV, inns, innr, V.inn, us, true_or, or_true] <;> ((simp at h12; subst h12; simp [ln_nil]))) (by simp only [go_sem, seval, strR_len, strR_pure, subM, leV, inns, innr, V.inn, us, true_or, or_true]) (by simp only [go_sem, seval, strR_len, strR_pure, subM, leV, inns, innr, V.inn, us, true_or, or_true]))
    refine AWp.rgn [] (by simp only [go_sem, seval, strR_len, strR_pure, strR_get (show k < l.length by simpa using h8)]; rfl) ?_ ?_
    · have q1 := ln_sub (l := l) (k + 1); rw [ln_take (by simpa using h8), ← hJ, List.length_append] at q1; refine ⟨⟨by omega, by simpa using h8⟩, by omega⟩
    refine AWp.rgn [] (by simp only [go_sem, seval, strR_len, strR_pure]; rfl) ?_ ?_
    · (first | trivial | (simp; done))
    refine Exists.intro (k + 1) ⟨?_, ?_, ?_⟩
    · simp at h8; omega
    · simp at h8; omega
    exact Can.weak (Weak.lit (by simp only [go_sem, seval, strR_len, strR_pure, subM, leV, inns, innr, V.inn, us, true_or, or_true] <;> (rw [wrap64 (by simp at h8; omega) (by simp at h8; omega)]; refine ⟨?_, by simp⟩; first | (rw [hJ, ln_take (by simpa using h8)]; done))) (by simp only [go_sem, seval, strR_len, strR_pure, subM, leV, inns, innr, V.inn, us, true_or, or_true]) (by simp only [go_sem, seval, strR_len, strR_pure, subM, leV, inns, innr, V.inn, us, true_or, or_true]))
  · refine AWp.exit ?_
    refine AWp.seq ?_
    refine AWp.rgn [] (by simp only [go_sem, seval, strR_len, strR_pure]; rfl) ?_ ?_
    · (first | trivial | (simp; done))
    refine AWp.ret (And.intro (.inr rfl) ?_)
    exact Out.plain (by simp only [Tryz.results69]; rfl) (by simp only [resCs, resC, go_sem, seval, strR_len, strR_pure] <;> (split <;> rfl)) (by simp only [resV, go_sem, seval, strR_len, strR_pure] <;> (simp at h8; rw [List.take_of_length_le h8])) (by simp only [go_sem, seval, strR_len, strR_pure])
def emText (l : List Sl) : Str := if pok l then lnText (l.map emT) else []
theorem emT_le {s : Sl} (h : sok s = true) : (emT s).length ≤ 120 := by
  unfold emT; rw [if_pos h]; exact (bok_open (bok_bof h)).1
theorem emTs_le {l : List Sl} (h : pok l = true) : (lnText (l.map emT)).length ≤ 2000 ∧ (l.map emT).length ≤ 16 := by
  obtain ⟨h1, h2, h3⟩ := pok_open h
  have := ln_le (l := l.map emT) (k := 120) fun s hs => by
    obtain ⟨x, hx, rfl⟩ := List.mem_map.1 hs
    obtain ⟨k, hk⟩ := List.mem_iff_getElem?.1 hx
    have h4 := h3 k (List.getElem?_eq_some_iff.1 hk).1
    rw [List.getD_eq_getElem?_getD, hk] at h4
    exact emT_le h4
  rw [List.length_map] at this ⊢
  omega
theorem sEmitText_a (l : List Sl) (hs : allS l = true) (hl : l.length < 4611686018427387904) : ACall En 18 [.sl false (sR l)] [] [.s (emText l)] [] := by
  refine acall_of_body (fn := Tryz.f18) [] Tryz.func18 rfl rfl (by simp) fun C => ?_
  rw [entry_eq]
  simp only [Tryz.ntmps18, List.length_cons, List.length_nil, Nat.reduceAdd, Nat.reduceSub, List.replicate_succ, List.replicate_zero, List.cons_append, List.nil_append, numL]
  refine AWp.seq ?_
  refine AWp.rgn [] (by simp only [go_sem, seval, sR_len, sR_pure, sC_eq, strR_len, strR_pure, inR_pure]; rfl) ?_ ?_
  · (first | trivial | (simp; done))
  refine AWp.seq ?_
  refine AWp.seq ?_
  refine AWp.rgn [call0 (sProgOk_a l hs hl)] (by simp only [go_sem, seval, sR_len, sR_pure, sC_eq, strR_len, strR_pure, inR_pure]; rfl) ?_ ?_
  · (first | trivial | (simp; done))
  refine AWp.condB (by simp only [go_sem, seval, sR_len, sR_pure, sC_eq, strR_len, strR_pure, inR_pure]; rfl) (by simp only [go_sem, seval, sR_len, sR_pure, sC_eq, strR_len, strR_pure, inR_pure]) (fun h9 => ?_) (fun h9 => ?_)
  · refine AWp.seq ?_
    refine AWp.rgn [] (by simp only [go_sem, seval, sR_len, sR_pure, sC_eq, strR_len, strR_pure, inR_pure]; rfl) ?_ ?_
    · (first | trivial | (simp; done))
    refine AWp.ret (And.intro (.inr rfl) ?_)
    exact Out.plain (by simp only [Tryz.results18]; rfl) (by simp only [resCs, resC, go_sem, seval, sR_len, sR_pure, sC_eq, strR_len, strR_pure, inR_pure] <;> (split <;> rfl)) (by simp only [resV, go_sem, seval, sR_len, sR_pure, sC_eq, strR_len, strR_pure, inR_pure] <;> (simp at h9; simp [emText, h9])) (by simp only [go_sem, seval, sR_len, sR_pure, sC_eq, strR_len, strR_pure, inR_pure])
  · refine AWp.skip ?_
    refine AWp.seq ?_
    refine AWp.rgn [] (by simp only [go_sem, seval, sR_len, sR_pure, sC_eq, strR_len, strR_pure, inR_pure]; rfl) ?_ ?_
    · (first | trivial | (simp; done))
    refine AWp.seq ?_
    refine AWp.seq ?_
    refine AWp.rgn [] (by simp only [go_sem, seval, sR_len, sR_pure, sC_eq, strR_len, strR_pure, inR_pure]; rfl) ?_ ?_
    · (first | trivial | (simp; done))
    refine AWp.block ?_
    refine AWp.loopK (fun k : Nat => ⟨[.sl false (sR l), .no, .no, .ow 60 1 0 k, .i .i64 k, .no, .no, .no, .no, .no, .no, .no, .no, .no, .no, .no, .no, .no, .no, .no, .no, .no, .no, .no, .no, .no, .no, .no, .no, .no, .no], memOf [(60, ⟨9, 1, strR ((l.map emT).take k)⟩)], us [60]⟩) (fun k : Nat => k ≤ l.length ∧ pok l = true) (fun k : Nat => l.length - k) (0) ?_ ?_ (fun k hI => ?_)
    · exact ⟨by simp, by simpa using h9⟩
    · refine Can.trans (Can.ownSlot 3 60 9 1 (by simp only [go_sem, seval, sR_len, sR_pure, sC_eq, strR_len, strR_pure, inR_pure] <;> rfl) (by simp only [go_sem, seval, sR_len, sR_pure, sC_eq, strR_len, strR_pure, inR_pure]) (by simp only [go_sem, seval, sR_len, sR_pure, sC_eq, strR_len, strR_pure, inR_pure] <;> rfl)) ?_
      exact Can.weak (Weak.lit (by simp only [go_sem, seval, sR_len, sR_pure, sC_eq, strR_len, strR_pure, inR_pure, subM, leV, inns, innr, V.inn, us, true_or, or_true] <;> (simp)) (by simp only [go_sem, seval, sR_len, sR_pure, sC_eq, strR_len, strR_pure, inR_pure, subM, leV, inns, innr, V.inn, us, true_or, or_true]) (by simp only [go_sem, seval, sR_len, sR_pure, sC_eq, strR_len, strR_pure, inR_pure, subM, leV, inns, innr, V.inn, us, true_or, or_true] <;> (simp [strR])))
    refine AWp.seq ?_
    refine AWp.seq ?_
    refine AWp.rgn [] (by simp only [go_sem, seval, sR_len, sR_pure, sC_eq, strR_len, strR_pure, inR_pure]; rfl) ?_ ?_
    · (first | trivial | (simp; done))
    refine AWp.condB (by simp only [go_sem, seval, sR_len, sR_pure, sC_eq, strR_len, strR_pure, inR_pure]; rfl) (by simp only [go_sem, seval, sR_len, sR_pure, sC_eq, strR_len, strR_pure, inR_pure]) (fun h14 => ?_) (fun h14 => ?_)
    · refine AWp.skip ?_
      refine AWp.seq ?_
      refine AWp.block ?_
      refine AWp.seq ?_
      refine AWp.rgn [callI (k < l.length) (fun h => sEmitLine_a (l.getD k S0) (allS_at hs h))] (by simp only [go_sem, seval, sR_len, sR_pure, sC_eq, strR_len, strR_pure, inR_pure, sR_get (show k < l.length by simpa using h14)]; rfl) ?_ ?_
      · simp only [decide_eq_true_eq] at h14; simp; omega
      refine AWp.rgn [] (by simp only [go_sem, seval, sR_len, sR_pure, sC_eq, strR_len, strR_pure, inR_pure]; rfl) ?_ ?_
      · simp only [decide_eq_true_eq] at h14; have := (pok_open hI.2).2.1; simp; omega
      refine AWp.rgn [] (by simp only [go_sem, seval, sR_len, sR_pure, sC_eq, strR_len, strR_pure, inR_pure]; rfl) ?_ ?_
      · (first | trivial | (simp; done))
      refine Exists.intro (k + 1) ⟨?_, ?_, ?_⟩
      · simp at h14; exact ⟨by omega, hI.2⟩
      · simp at h14; omega
      refine Can.trans (Can.swap 38 60 (by decide) (by decide) (by decide) (by decide) (by simp only [go_sem, seval, sR_len, sR_pure, sC_eq, strR_len, strR_pure, inR_pure, V.cl]) (by simp only [go_sem, seval, sR_len, sR_pure, sC_eq, strR_len, strR_pure, inR_pure, V.cl]) (by simp only [go_sem, seval, sR_len, sR_pure, sC_eq, strR_len, strR_pure, inR_pure, swL_get, sw, swM, rnB] <;> rfl) (by simp only [go_sem, seval, sR_len, sR_pure, sC_eq, strR_len, strR_pure, inR_pure, swL_get, sw, swM, rnB] <;> rfl) (by simp only [go_sem, seval, sR_len, sR_pure, sC_eq, strR_len, strR_pure, inR_pure, swL_get, sw, swM, rnB] <;> rfl)) ?_
      exact Can.weak (Weak.lit (by simp only [go_sem, seval, sR_len, sR_pure, sC_eq, strR_len, strR_pure, inR_pure, subM, leV, inns, innr, V.inn, us, true_or, or_true] <;> (rw [wrap64 (by omega) (by omega)]; simp)) (by simp only [go_sem, seval, sR_len, sR_pure, sC_eq, strR_len, strR_pure, inR_pure, subM, leV, inns, innr, V.inn, us, true_or, or_true]) (by simp only [go_sem, seval, sR_len, sR_pure, sC_eq, strR_len, strR_pure, inR_pure, subM, leV, inns, innr, V.inn, us, true_or, or_true] <;> (simp only [decide_eq_true_eq] at h14; rw [strR_snoc (show k < (l.map emT).length by rw [List.length_map]; omega)]; simp [List.getD_eq_getElem?_getD, List.getElem?_eq_getElem (show k < l.length by omega)])))
    · refine AWp.exit ?_
      refine AWp.seq ?_
      refine AWp.rgn [callBI (pok l = true) (fun h => sTextJoin_a (l.map emT) (by have := (emTs_le h).2; omega) (by have := (emTs_le h).1; omega))] (by simp only [go_sem, seval, sR_len, sR_pure, sC_eq, strR_len, strR_pure, inR_pure]; rfl) ?_ ?_
      · simp only [decide_eq_false_iff_not] at h14; obtain rfl : k = l.length := (by omega); refine ⟨?_, hI.2⟩; rw [List.take_of_length_le (by rw [List.length_map]; exact Nat.le_refl _), List.take_of_length_le (by rw [strR_len, List.length_map]; exact Nat.le_refl _)]; simp [ler_refl, leV_refl]
      refine AWp.ret (And.intro (.inr rfl) ?_)
      exact Out.plain (by simp only [Tryz.results18]; rfl) (by simp only [resCs, resC, go_sem, seval, sR_len, sR_pure, sC_eq, strR_len, strR_pure, inR_pure] <;> (split <;> rfl)) (by simp only [resV, go_sem, seval, sR_len, sR_pure, sC_eq, strR_len, strR_pure, inR_pure] <;> (simp at h9; simp [emText, h9])) (by simp only [go_sem, seval, sR_len, sR_pure, sC_eq, strR_len, strR_pure, inR_pure])
theorem emit_f (s : Sl) (h : sok s = true) (hs : sms' s = true) : ACall En 66 [.ag (sC s)] [] [.s (emT s), .sl false (inR (emF s))] [] := by
  have := (emit_a s (sok_0 h) hs).frz1 (rs' := [.s (emT s), .sl false (inR (emF s))]) (by simp [frzs, frz, inR_len, List.take_of_length_le, emT, emF, h])
  exact this
theorem iEmitText_a (l : List Sl) (hs : allS l = true) (hl : l.length < 4611686018427387904) : ACall En 15 [.sl false (sR l)] [] [.s (emText l)] [] := by
  have hp : ∀ k, purer (filR (strR (l.map emT)) [.s []] k) = true := fun k => filR_pure (strR_pure _) rfl
  have hll : (strR (l.map emT)).length = l.length := by simp [strR]
  refine acall_of_body (fn := Tryz.f15) [] Tryz.func15 rfl rfl (by simp) fun C => ?_
  rw [entry_eq]
  simp only [Tryz.ntmps15, List.length_cons, List.length_nil, Nat.reduceAdd, Nat.reduceSub, List.replicate_succ, List.replicate_zero, List.cons_append, List.nil_append, numL]
  refine AWp.seq ?_
  refine AWp.rgn [] (by simp only [go_sem, seval, sR_len, sR_pure, sC_eq, strR_pure, inR_pure, hp, hll, filR_len, filR_str_drop]; rfl) ?_ ?_
  · (first | trivial | (simp; done))
  refine AWp.seq ?_
  refine AWp.seq ?_
  refine AWp.rgn [call0 (iProgOk_a l hs hl)] (by simp only [go_sem, seval, sR_len, sR_pure, sC_eq, strR_pure, inR_pure, hp, hll, filR_len, filR_str_drop]; rfl) ?_ ?_
  · (first | trivial | (simp; done))
  refine AWp.condB (by simp only [go_sem, seval, sR_len, sR_pure, sC_eq, strR_pure, inR_pure, hp, hll, filR_len, filR_str_drop]; rfl) (by simp only [go_sem, seval, sR_len, sR_pure, sC_eq, strR_pure, inR_pure, hp, hll, filR_len, filR_str_drop]) (fun h8 => ?_) (fun h8 => ?_)
  · refine AWp.seq ?_
    refine AWp.rgn [] (by simp only [go_sem, seval, sR_len, sR_pure, sC_eq, strR_pure, inR_pure, hp, hll, filR_len, filR_str_drop]; rfl) ?_ ?_
    · (first | trivial | (simp; done))
    refine AWp.ret (And.intro (.inr rfl) ?_)
    exact Out.plain (by simp only [Tryz.results15]; rfl) (by simp only [resCs, resC, go_sem, seval, sR_len, sR_pure, sC_eq, strR_pure, inR_pure, hp, hll, filR_len, filR_str_drop] <;> (split <;> rfl)) (by simp only [resV, go_sem, seval, sR_len, sR_pure, sC_eq, strR_pure, inR_pure, hp, hll, filR_len, filR_str_drop] <;> (simp at h8; simp [emText, h8])) (by simp only [go_sem, seval, sR_len, sR_pure, sC_eq, strR_pure, inR_pure, hp, hll, filR_len, filR_str_drop])
  · refine AWp.skip ?_
    refine AWp.seq ?_
    refine AWp.rgn [] (by simp only [go_sem, seval, sR_len, sR_pure, sC_eq, strR_pure, inR_pure, hp, hll, filR_len, filR_str_drop]; rfl) ?_ ?_
    · simp only [Bool.not_eq_false'] at h8; have := (pok_open h8).2.1; omega
    refine AWp.seq ?_
    refine AWp.seq ?_
    refine AWp.rgn [] (by simp only [go_sem, seval, sR_len, sR_pure, sC_eq, strR_pure, inR_pure, hp, hll, filR_len, filR_str_drop]; rfl) ?_ ?_
    · (first | trivial | (simp; done))
    refine AWp.block ?_
    refine AWp.loopK (fun k : Nat => ⟨[.no, .no, .no, .ow 21 1 0 l.length, .no, .no, .no, .no, .no, .no, .no, .no, .sl false (sR l), .i .i64 l.length, .i .i64 k, .no, .no, .no, .no, .no, .no, .no, .no, .no, .no, .no, .no, .no, .no, .no], memOf [(21, ⟨9, 1, filR (strR (l.map emT)) [.s []] k⟩)], us [21]⟩) (fun k : Nat => k ≤ l.length ∧ pok l = true) (fun k : Nat => l.length - k) (0) ?_ ?_ (fun k hI => ?_)
    · exact ⟨by simp, by simpa using h8⟩
    · exact Can.weak (Weak.lit (by simp only [go_sem, seval, sR_len, sR_pure, sC_eq, strR_pure, inR_pure, hp, hll, filR_len, filR_str_drop, subM, leV, inns, innr, V.inn, us, true_or, or_true] <;> (simp)) (by simp only [go_sem, seval, sR_len, sR_pure, sC_eq, strR_pure, inR_pure, hp, hll, filR_len, filR_str_drop, subM, leV, inns, innr, V.inn, us, true_or, or_true]) (by simp only [go_sem, seval, sR_len, sR_pure, sC_eq, strR_pure, inR_pure, hp, hll, filR_len, filR_str_drop, subM, leV, inns, innr, V.inn, us, true_or, or_true] <;> (simp [filR_zero, hll])))
    refine AWp.seq ?_
    refine AWp.rgn [] (by simp only [go_sem, seval, sR_len, sR_pure, sC_eq, strR_pure, inR_pure, hp, hll, filR_len, filR_str_drop]; rfl) ?_ ?_
    · (first | trivial | (simp; done))
    refine AWp.seq ?_
    refine AWp.condB (by simp only [go_sem, seval, sR_len, sR_pure, sC_eq, strR_pure, inR_pure, hp, hll, filR_len, filR_str_drop]; rfl) (by simp only [go_sem, seval, sR_len, sR_pure, sC_eq, strR_pure, inR_pure, hp, hll, filR_len, filR_str_drop]) (fun h15 => ?_) (fun h15 => ?_)
    · refine AWp.skip ?_
      refine AWp.seq ?_
      refine AWp.block ?_
      refine AWp.seq ?_
      refine AWp.rgn [] (by simp only [go_sem, seval, sR_len, sR_pure, sC_eq, strR_pure, inR_pure, hp, hll, filR_len, filR_str_drop, sR_get (show k < l.length by simpa using h15)]; rfl) ?_ ?_
      · simp only [decide_eq_true_eq] at h15; simp; omega
      refine AWp.rgn [callI (k < l.length ∧ sok (l.getD k S0) = true) (fun h => emit_f (l.getD k S0) h.2 (allS_at hs h.1))] (by simp only [go_sem, seval, sR_len, sR_pure, sC_eq, strR_pure, inR_pure, hp, hll, filR_len, filR_str_drop]; rfl) ?_ ?_
      · simp only [decide_eq_true_eq] at h15; have hk : k < l.length := (by omega); exact ⟨⟨⟨hk, (pok_open hI.2).2.2 k hk⟩, by omega⟩, hk⟩
      refine AWp.rgn [] (by simp only [go_sem, seval, sR_len, sR_pure, sC_eq, strR_pure, inR_pure, hp, hll, filR_len, filR_str_drop]; rfl) ?_ ?_
      · (first | trivial | (simp; done))
      refine Exists.intro (k + 1) ⟨?_, ?_, ?_⟩
      · simp at h15; exact ⟨by omega, hI.2⟩
      · simp at h15; omega
      exact Can.weak (Weak.lit (by simp only [go_sem, seval, sR_len, sR_pure, sC_eq, strR_pure, inR_pure, hp, hll, filR_len, filR_str_drop, subM, leV, inns, innr, V.inn, us, true_or, or_true] <;> (rw [wrap64 (by omega) (by omega)]; simp)) (by simp only [go_sem, seval, sR_len, sR_pure, sC_eq, strR_pure, inR_pure, hp, hll, filR_len, filR_str_drop, subM, leV, inns, innr, V.inn, us, true_or, or_true]) (by simp only [go_sem, seval, sR_len, sR_pure, sC_eq, strR_pure, inR_pure, hp, hll, filR_len, filR_str_drop, subM, leV, inns, innr, V.inn, us, true_or, or_true] <;> ((simp only [decide_eq_true_eq] at h15); rw [← filR_set (by rw [hll]; omega), strR_get (by rw [List.length_map]; omega)]; simp [List.getD_eq_getElem?_getD, List.getElem?_eq_getElem (show k < l.length by omega)])))
    · refine AWp.exit ?_
      refine AWp.seq ?_
      refine AWp.rgn [callBI (pok l = true) (fun h => iTextJoin_a (l.map emT) (by have := (emTs_le h).1; omega) (by have := (emTs_le h).2; omega))] (by simp only [go_sem, seval, sR_len, sR_pure, sC_eq, strR_pure, inR_pure, hp, hll, filR_len, filR_str_drop]; rfl) ?_ ?_
      · simp only [decide_eq_false_iff_not] at h15; refine ⟨?_, hI.2⟩; rw [filR_end (by rw [hll]; omega), List.take_of_length_le (by rw [hll]; exact Nat.le_refl _)]; exact ler_refl _
      refine AWp.ret (And.intro (.inr rfl) ?_)
      exact Out.plain (by simp only [Tryz.results15]; rfl) (by simp only [resCs, resC, go_sem, seval, sR_len, sR_pure, sC_eq, strR_pure, inR_pure, hp, hll, filR_len, filR_str_drop] <;> (split <;> rfl)) (by simp only [resV, go_sem, seval, sR_len, sR_pure, sC_eq, strR_pure, inR_pure, hp, hll, filR_len, filR_str_drop] <;> (simp at h8; simp [emText, h8])) (by simp only [go_sem, seval, sR_len, sR_pure, sC_eq, strR_pure, inR_pure, hp, hll, filR_len, filR_str_drop])
end
end Go.Proofs.YteihfmnmpdbkiaaGreatDoor
