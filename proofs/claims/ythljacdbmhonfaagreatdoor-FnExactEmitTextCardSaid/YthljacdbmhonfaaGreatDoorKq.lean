/- Parts of the proof, one after another: Programs: lists of lines; whether they are ok; what they are turned into. | What the exact laws do with lines with types, and lists of them: size, copies, sameness. | Arguments of a law as trees: lines with types, lists of them. Conditions: none. -/
import Derived.Test.YthljacdbmhonfaaGreatDoorKo
import Derived.Test.YthljacdbmhonfaaGreatDoorKx
import Derived.Test.YthljacdbmhonfaaGreatDoorKm
set_option linter.unusedVariables false
set_option linter.unusedSimpArgs false
section
namespace Go.Proofs.YthljacdbmhonfaaGreatDoor
set_option maxRecDepth 100000
set_option maxHeartbeats 4000000

theorem progOk1_a (s : Sl) (hs : sms' s = true) : ACall En 138 [.ag (sC s)] [] [.b (!sok s)] [] := by
  refine acall_of_body (fn := Tryz.f138) [] Tryz.func138 rfl rfl (by simp) fun C => ?_
  rw [entry_eq]
  simp only [Tryz.ntmps138, List.length_cons, List.length_nil, Nat.reduceAdd, Nat.reduceSub, List.replicate_succ, List.replicate_zero, List.cons_append, List.nil_append, numL]
  refine AWp.seq ?_
  refine AWp.rgn [] (by simp only [go_sem, seval, sC_eq]; rfl) ?_ ?_
  · (first | trivial | (simp; done))
  refine AWp.seq ?_
  refine AWp.rgn [call0 (iStmtOk_a s hs)] (by simp only [go_sem, seval, sC_eq]; rfl) ?_ ?_
  · (first | trivial | (simp; done))
  refine AWp.ret (And.intro (.inr rfl) ?_)
  exact Out.plain (by simp only [Tryz.results138]; rfl) (by simp only [resCs, resC, go_sem, seval, sC_eq] <;> (split <;> rfl)) (by simp only [resV, go_sem, seval, sC_eq] <;> (rfl)) (by simp only [go_sem, seval, sC_eq])
theorem idxS_a (l : List Sl) (hs : allS l = true) (hl : l.length < 4611686018427387904) : ACall En 161 [.sl false (sR l), .fn (.func 138) [] []] [] [.i .i64 (idxP (fun s => !sok s) l)] [] := by
  refine acall_of_body (fn := Tryz.f161) [] Tryz.func161 rfl rfl (by simp) fun C => ?_
  rw [entry_eq]
  simp only [Tryz.ntmps161, List.length_cons, List.length_nil, Nat.reduceAdd, Nat.reduceSub, List.replicate_succ, List.replicate_zero, List.cons_append, List.nil_append, numL]
  refine AWp.seq ?_
  refine AWp.rgn [] (by simp only [go_sem, seval, sR_len, sR_pure, sC_eq]; rfl) ?_ ?_
  · (first | trivial | (simp; done))
  refine AWp.seq ?_
  refine AWp.seq ?_
  refine AWp.rgn [] (by simp only [go_sem, seval, sR_len, sR_pure, sC_eq]; rfl) ?_ ?_
  · (first | trivial | (simp; done))
  refine AWp.block ?_
  refine AWp.loopK (fun k : Nat => ⟨[.sl false (sR l), .fn (.func 138) [] [], .no, .no, .no, .no, .no, .i .i64 l.length, .i .i64 k, .no, .no, .no, .no, .no, .no, .no, .no, .no, .no], memOf [], us []⟩) (fun k : Nat => k ≤ l.length ∧ (l.take k).any (fun s => !sok s) = false) (fun k : Nat => l.length - k) (0) ?_ ?_ (fun k hI => ?_)
  · simp
  · exact Can.weak (Weak.lit (by simp only [go_sem, seval, sR_len, sR_pure, sC_eq, subM, leV, inns, innr, V.inn, us, true_or, or_true] <;> (simp)) (by simp only [go_sem, seval, sR_len, sR_pure, sC_eq, subM, leV, inns, innr, V.inn, us, true_or, or_true]) (by simp only [go_sem, seval, sR_len, sR_pure, sC_eq, subM, leV, inns, innr, V.inn, us, true_or, or_true]))
  refine AWp.seq ?_
  refine AWp.rgn [] (by simp only [go_sem, seval, sR_len, sR_pure, sC_eq]; rfl) ?_ ?_
  · (first | trivial | (simp; done))
  refine AWp.seq ?_
  refine AWp.condB (by simp only [go_sem, seval, sR_len, sR_pure, sC_eq]; rfl) (by simp only [go_sem, seval, sR_len, sR_pure, sC_eq]) (fun h9 => ?_) (fun h9 => ?_)
  · refine AWp.skip ?_
    refine AWp.seq ?_
    refine AWp.block ?_
    refine AWp.seq ?_
    refine AWp.rgn [] (by simp only [go_sem, seval, sR_len, sR_pure, sC_eq]; rfl) ?_ ?_
    · (first | trivial | (simp; done))
    refine AWp.seq ?_
    refine AWp.rgn [callI (k < l.length) (fun h => progOk1_a (l.getD k S0) (allS_at hs h))] (by simp only [go_sem, seval, sR_len, sR_pure, sC_eq, sR_get (show k < l.length by simpa using h9)]; rfl) ?_ ?_
    · simp only [decide_eq_true_eq] at h9; simp; omega
    refine AWp.condB (by simp only [go_sem, seval, sR_len, sR_pure, sC_eq]; rfl) (by simp only [go_sem, seval, sR_len, sR_pure, sC_eq]) (fun h16 => ?_) (fun h16 => ?_)
    · refine AWp.seq ?_
      refine AWp.rgn [] (by simp only [go_sem, seval, sR_len, sR_pure, sC_eq]; rfl) ?_ ?_
      · (first | trivial | (simp; done))
      refine AWp.ret (And.intro (.inr rfl) ?_)
      exact Out.plain (by simp only [Tryz.results161]; rfl) (by simp only [resCs, resC, go_sem, seval, sR_len, sR_pure, sC_eq] <;> (split <;> rfl)) (by simp only [resV, go_sem, seval, sR_len, sR_pure, sC_eq] <;> (simp at h9; rw [idxP_at (d := S0) h9 hI.2 h16])) (by simp only [go_sem, seval, sR_len, sR_pure, sC_eq])
    · refine AWp.skip ?_
      refine AWp.rgn [] (by simp only [go_sem, seval, sR_len, sR_pure, sC_eq]; rfl) ?_ ?_
      · (first | trivial | (simp; done))
      refine Exists.intro (k + 1) ⟨?_, ?_, ?_⟩
      · simp at h9; refine ⟨by omega, ?_⟩; rw [any_take (d := S0) h9, hI.2, h16]; rfl
      · simp at h9; omega
      exact Can.weak (Weak.lit (by simp only [go_sem, seval, sR_len, sR_pure, sC_eq, subM, leV, inns, innr, V.inn, us, true_or, or_true] <;> (rw [wrap64 (by omega) (by omega)]; simp)) (by simp only [go_sem, seval, sR_len, sR_pure, sC_eq, subM, leV, inns, innr, V.inn, us, true_or, or_true]) (by simp only [go_sem, seval, sR_len, sR_pure, sC_eq, subM, leV, inns, innr, V.inn, us, true_or, or_true]))
  · refine AWp.exit ?_
    refine AWp.seq ?_
    refine AWp.rgn [] (by simp only [go_sem, seval, sR_len, sR_pure, sC_eq]; rfl) ?_ ?_
    · (first | trivial | (simp; done))
    refine AWp.ret (And.intro (.inr rfl) ?_)
    exact Out.plain (by simp only [Tryz.results161]; rfl) (by simp only [resCs, resC, go_sem, seval, sR_len, sR_pure, sC_eq] <;> (split <;> rfl)) (by simp only [resV, go_sem, seval, sR_len, sR_pure, sC_eq] <;> (simp at h9; have h0 := hI.2; rw [List.take_of_length_le h9] at h0; rw [idxP_none h0])) (by simp only [go_sem, seval, sR_len, sR_pure, sC_eq])
theorem containsS_a (l : List Sl) (hs : allS l = true) (hl : l.length < 4611686018427387904) : ACall En 137 [.sl false (sR l), .fn (.func 138) [] []] [] [.b (l.any fun s => !sok s)] [] := by
  refine acall_of_body (fn := Tryz.f137) [] Tryz.func137 rfl rfl (by simp) fun C => ?_
  rw [entry_eq]
  simp only [Tryz.ntmps137, List.length_cons, List.length_nil, Nat.reduceAdd, Nat.reduceSub, List.replicate_succ, List.replicate_zero, List.cons_append, List.nil_append, numL]
  refine AWp.seq ?_
  refine AWp.rgn [] (by simp only [go_sem, seval, sR_pure]; rfl) ?_ ?_
  · (first | trivial | (simp; done))
  refine AWp.seq ?_
  refine AWp.rgn [call0 (idxS_a l hs hl)] (by simp only [go_sem, seval, sR_pure]; rfl) ?_ ?_
  · (first | trivial | (simp; done))
  refine AWp.ret (And.intro (.inr rfl) ?_)
  exact Out.plain (by simp only [Tryz.results137]; rfl) (by simp only [resCs, resC, go_sem, seval, sR_pure] <;> (split <;> rfl)) (by simp only [resV, go_sem, seval, sR_pure] <;> (rw [idxP_ge])) (by simp only [go_sem, seval, sR_pure])
/-- a program -/
def pok (l : List Sl) : Bool := decide (1 ≤ l.length) && decide (l.length ≤ 16) && l.all sok
theorem pok_any (l : List Sl) : (l.any fun s => !sok s) = !l.all sok := by rw [List.any_eq_not_all_not]; simp
theorem pok_open {l : List Sl} (h : pok l = true) : 1 ≤ l.length ∧ l.length ≤ 16 ∧ ∀ k, k < l.length → sok (l.getD k S0) = true := by
  simp only [pok, Bool.and_eq_true, decide_eq_true_eq, List.all_eq_true] at h
  exact ⟨h.1.1, h.1.2, fun k hk => h.2 _ (getD_mem hk)⟩
theorem iProgOk_a (l : List Sl) (hs : allS l = true) (hl : l.length < 4611686018427387904) : ACall En 95 [.sl false (sR l)] [] [.b (pok l)] [] := by
  refine acall_of_body (fn := Tryz.f95) [] Tryz.func95 rfl rfl (by simp) fun C => ?_
  rw [entry_eq]
  simp only [Tryz.ntmps95, List.length_cons, List.length_nil, Nat.reduceAdd, Nat.reduceSub, List.replicate_succ, List.replicate_zero, List.cons_append, List.nil_append, numL]
  refine AWp.seq ?_
  refine AWp.rgn [] (by simp only [go_sem, seval, sR_len, sR_pure]; rfl) ?_ ?_
  · (first | trivial | (simp; done))
  refine AWp.seq ?_
  refine AWp.rgn [call0 (in_a l.length 1 16), call0 (containsS_a l hs hl)] (by simp only [go_sem, seval, sR_len, sR_pure]; rfl) ?_ ?_
  · (first | trivial | (simp; done))
  refine AWp.ret (And.intro (.inr rfl) ?_)
  exact Out.plain (by simp only [Tryz.results95]; rfl) (by simp only [resCs, resC, go_sem, seval, sR_len, sR_pure] <;> (split <;> rfl)) (by simp only [resV, go_sem, seval, sR_len, sR_pure] <;> (rw [pok_any]; simp only [pok, Bool.not_not, dec_cast]; rfl)) (by simp only [go_sem, seval, sR_len, sR_pure])
theorem sProgOk_a (l : List Sl) (hs : allS l = true) (hl : l.length < 4611686018427387904) : ACall En 93 [.sl false (sR l)] [] [.b (pok l)] [] := by
  refine acall_of_body (fn := Tryz.f93) [] Tryz.func93 rfl rfl (by simp) fun C => ?_
  rw [entry_eq]
  simp only [Tryz.ntmps93, List.length_cons, List.length_nil, Nat.reduceAdd, Nat.reduceSub, List.replicate_succ, List.replicate_zero, List.cons_append, List.nil_append, numL]
  refine AWp.seq ?_
  refine AWp.rgn [] (by simp only [go_sem, seval, sR_len, sR_pure, sC_eq]; rfl) ?_ ?_
  · (first | trivial | (simp; done))
  refine AWp.seq ?_
  refine AWp.seq ?_
  refine AWp.rgn [] (by simp only [go_sem, seval, sR_len, sR_pure, sC_eq]; rfl) ?_ ?_
  · (first | trivial | (simp; done))
  refine AWp.block ?_
  refine AWp.loopK (fun k : Nat => ⟨[.sl false (sR l), .no, .no, .i .i64 k, .no, .no, .no, .no, .no, .no, .no, .no, .no, .no, .no, .no, .no, .no, .no, .no, .no, .no, .no, .no], memOf [], us []⟩) (fun k : Nat => k ≤ l.length ∧ (l.take k).any (fun s => !sok s) = false) (fun k : Nat => l.length - k) (0) ?_ ?_ (fun k hI => ?_)
  · simp
  · exact Can.weak (Weak.lit (by simp only [go_sem, seval, sR_len, sR_pure, sC_eq, subM, leV, inns, innr, V.inn, us, true_or, or_true] <;> (simp)) (by simp only [go_sem, seval, sR_len, sR_pure, sC_eq, subM, leV, inns, innr, V.inn, us, true_or, or_true]) (by simp only [go_sem, seval, sR_len, sR_pure, sC_eq, subM, leV, inns, innr, V.inn, us, true_or, or_true]))
  refine AWp.seq ?_
  refine AWp.seq ?_
  refine AWp.rgn [] (by simp only [go_sem, seval, sR_len, sR_pure, sC_eq]; rfl) ?_ ?_
  · (first | trivial | (simp; done))
  refine AWp.condB (by simp only [go_sem, seval, sR_len, sR_pure, sC_eq]; rfl) (by simp only [go_sem, seval, sR_len, sR_pure, sC_eq]) (fun h7 => ?_) (fun h7 => ?_)
  · refine AWp.skip ?_
    refine AWp.seq ?_
    refine AWp.block ?_
    refine AWp.seq ?_
    refine AWp.rgn [callI (k < l.length) (fun h => sStmtOk_a (l.getD k S0) (allS_at hs h))] (by simp only [go_sem, seval, sR_len, sR_pure, sC_eq, sR_get (show k < l.length by simpa using h7)]; rfl) ?_ ?_
    · simp only [decide_eq_true_eq] at h7; simp; omega
    refine AWp.condB (by simp only [go_sem, seval, sR_len, sR_pure, sC_eq]; rfl) (by simp only [go_sem, seval, sR_len, sR_pure, sC_eq]) (fun h15 => ?_) (fun h15 => ?_)
    · refine AWp.seq ?_
      refine AWp.rgn [] (by simp only [go_sem, seval, sR_len, sR_pure, sC_eq]; rfl) ?_ ?_
      · (first | trivial | (simp; done))
      refine AWp.ret (And.intro (.inr rfl) ?_)
      exact Out.plain (by simp only [Tryz.results93]; rfl) (by simp only [resCs, resC, go_sem, seval, sR_len, sR_pure, sC_eq] <;> (split <;> rfl)) (by simp only [resV, go_sem, seval, sR_len, sR_pure, sC_eq] <;> (simp only [decide_eq_true_eq] at h7; have : l.all sok = false := (by rw [List.all_eq_false]; exact ⟨_, getD_mem (d := S0) (show k < l.length by omega), by simpa using h15⟩); simp [pok, this])) (by simp only [go_sem, seval, sR_len, sR_pure, sC_eq])
    · refine AWp.skip ?_
      refine AWp.rgn [] (by simp only [go_sem, seval, sR_len, sR_pure, sC_eq]; rfl) ?_ ?_
      · (first | trivial | (simp; done))
      refine Exists.intro (k + 1) ⟨?_, ?_, ?_⟩
      · simp at h7; refine ⟨by omega, ?_⟩; rw [any_take (d := S0) h7, hI.2, h15]; rfl
      · simp at h7; omega
      exact Can.weak (Weak.lit (by simp only [go_sem, seval, sR_len, sR_pure, sC_eq, subM, leV, inns, innr, V.inn, us, true_or, or_true] <;> (rw [wrap64 (by omega) (by omega)]; simp)) (by simp only [go_sem, seval, sR_len, sR_pure, sC_eq, subM, leV, inns, innr, V.inn, us, true_or, or_true]) (by simp only [go_sem, seval, sR_len, sR_pure, sC_eq, subM, leV, inns, innr, V.inn, us, true_or, or_true]))
  · refine AWp.exit ?_
    refine AWp.seq ?_
    refine AWp.rgn [] (by simp only [go_sem, seval, sR_len, sR_pure, sC_eq]; rfl) ?_ ?_
    · (first | trivial | (simp; done))
    refine AWp.ret (And.intro (.inr rfl) ?_)
    exact Out.plain (by simp only [Tryz.results93]; rfl) (by simp only [resCs, resC, go_sem, seval, sR_len, sR_pure, sC_eq] <;> (split <;> rfl)) (by simp only [resV, go_sem, seval, sR_len, sR_pure, sC_eq] <;> (simp only [decide_eq_false_iff_not] at h7; have h0 := hI.2; rw [List.take_of_length_le (by omega), pok_any] at h0; simp only [Bool.not_eq_false'] at h0; simp only [pok, h0, Bool.and_true, dec_cast, ge_iff_le]; rfl)) (by simp only [go_sem, seval, sR_len, sR_pure, sC_eq])
/-- texts with newlines between -/
def lnText (l : List Str) : Str := [(10 : UInt8)].intercalate l
theorem ln_cons (s x : Str) (l : List Str) : lnText (s :: x :: l) = s ++ 10 :: lnText (x :: l) := by simp [lnText, List.intercalate]
theorem ln_one (s : Str) : lnText [s] = s := by simp [lnText, List.intercalate]
theorem ln_nil : lnText [] = [] := rfl
theorem ln_len : ∀ l : List Str, l ≠ [] → (lnText l).length + 1 = (l.map List.length).sum + l.length
  | [], h => absurd rfl h
  | [s], _ => by rw [ln_one]; simp
  | s :: x :: l, _ => by
    have := ln_len (x :: l) (by simp)
    rw [ln_cons]
    simp only [List.length_append, List.length_cons, List.map_cons, List.sum_cons] at this ⊢
    omega
theorem ln_le {l : List Str} {k : Nat} (h : ∀ s ∈ l, s.length ≤ k) : (lnText l).length ≤ l.length * (k + 1) := by
  by_cases hl : l = []
  · subst hl; simp [ln_nil]
  · have h1 := ln_len l hl
    have h2 := sum_le h
    rw [Nat.mul_add]; omega
theorem ln_snoc : ∀ (l : List Str) (s : Str), lnText (l ++ [s]) = (if l = [] then [] else lnText l ++ [10]) ++ s
  | [], s => by simp [ln_one]
  | [x], s => by simp [ln_cons, ln_one]
  | x :: y :: l, s => by
    have := ln_snoc (y :: l) s
    simp only [List.cons_append] at this ⊢
    rw [ln_cons, ln_cons, this]
    simp
theorem ln_take {l : List Str} {k : Nat} (h : k < l.length) : lnText (l.take (k + 1)) = (if 0 < k then lnText (l.take k) ++ [10] else []) ++ l.getD k [] := by
  have e : l.take (k + 1) = l.take k ++ [l.getD k []] := by
    rw [List.take_add_one, List.getElem?_eq_getElem h, List.getD_eq_getElem?_getD, List.getElem?_eq_getElem h]; rfl
  rw [e, ln_snoc]
  congr 1
  cases k with
  | zero => simp
  | succ k =>
    have : l.take (k + 1) ≠ [] := by
      intro e0
      have := congrArg List.length e0
      rw [List.length_take] at this
      simp only [List.length_nil] at this
      omega
    rw [if_neg this, if_pos (by omega)]
theorem ln_sub {l : List Str} (k : Nat) : (lnText (l.take k)).length ≤ (lnText l).length := by
  by_cases h : l.take k = []
  · rw [h]; simp [ln_nil]
  · have h1 := ln_len _ h
    have h2 := ln_len l (fun e => h (by rw [e]; simp))
    have e : (l.map List.length).sum = ((l.take k).map List.length).sum + ((l.drop k).map List.length).sum := by
      conv => lhs; rw [← List.take_append_drop k l]
      rw [List.map_append, List.sum_append]
    have e2 : l.length = (l.take k).length + (l.drop k).length := by rw [← List.length_append, List.take_append_drop]
    omega
theorem iTextJoin_a (l : List Str) (hb : (lnText l).length ≤ 1000000000000) (hn : l.length ≤ 1000000000000) : ACall En 96 [.sl false (strR l)] [] [.s (lnText l)] [] := by
  refine acall_of_body (fn := Tryz.f96) [] Tryz.func96 rfl rfl (by simp) fun C => ?_
  rw [entry_eq]
  simp only [Tryz.ntmps96, List.length_cons, List.length_nil, Nat.reduceAdd, Nat.reduceSub, List.replicate_succ, List.replicate_zero, List.cons_append, List.nil_append, numL]
  refine AWp.seq ?_
  refine AWp.rgn [] (by simp only [go_sem, seval]; rfl) ?_ ?_
  · first | trivial | simp
  refine AWp.seq ?_
  refine AWp.rgn [call0 (join_a l [10] hb hn)] (by simp only [go_sem, seval]; rfl) ?_ ?_
  · first | trivial | simp
  refine AWp.ret (And.intro (.inr rfl) ?_)
  exact Out.plain (by simp only [Tryz.results96]; rfl) (by simp only [resCs, resC, go_sem, seval] <;> (split <;> rfl)) (by simp only [resV, go_sem, seval] <;> (rfl)) (by simp only [go_sem, seval])
theorem sTextJoin_a (l : List Str) (hl : l.length < 1099511627776) (hb : (lnText l).length < 1099511627776) : ACall En 94 [.sl false (strR l)] [] [.s (lnText l)] [] := by
  refine acall_of_body (fn := Tryz.f94) [] Tryz.func94 rfl rfl (by simp) fun C => ?_
  rw [entry_eq]
  simp only [Tryz.ntmps94, List.length_cons, List.length_nil, Nat.reduceAdd, Nat.reduceSub, List.replicate_succ, List.replicate_zero, List.cons_append, List.nil_append, numL]
  refine AWp.seq ?_
  refine AWp.rgn [] (by simp only [go_sem, seval, strR_len, strR_pure]; rfl) ?_ ?_
  · (first | trivial | (simp; done))
  refine AWp.seq ?_
  refine AWp.rgn [] (by simp only [go_sem, seval, strR_len, strR_pure]; rfl) ?_ ?_
  · (first | trivial | (simp; done))
  refine AWp.seq ?_
  refine AWp.seq ?_
  refine AWp.rgn [] (by simp only [go_sem, seval, strR_len, strR_pure]; rfl) ?_ ?_
  · (first | trivial | (simp; done))
  refine AWp.block ?_
  refine AWp.loopK (fun k : Nat => ⟨[.sl false (strR l), .no, .no, .s (lnText (l.take k)), .i .i64 k, .no, .no, .no, .no, .no, .no, .no, .no, .no, .no, .no, .no, .no, .no, .no, .no, .no], memOf [], us []⟩) (fun k : Nat => k ≤ l.length) (fun k : Nat => l.length - k) (0) ?_ ?_ (fun k hI => ?_)
  · simp
  · exact Can.weak (Weak.lit (by simp only [go_sem, seval, strR_len, strR_pure, subM, leV, inns, innr, V.inn, us, true_or, or_true] <;> (simp [ln_nil])) (by simp only [go_sem, seval, strR_len, strR_pure, subM, leV, inns, innr, V.inn, us, true_or, or_true]) (by simp only [go_sem, seval, strR_len, strR_pure, subM, leV, inns, innr, V.inn, us, true_or, or_true]))
  refine AWp.seq ?_
  refine AWp.seq ?_
  refine AWp.rgn [] (by simp only [go_sem, seval, strR_len, strR_pure]; rfl) ?_ ?_
  · (first | trivial | (simp; done))
  refine AWp.condB (by simp only [go_sem, seval, strR_len, strR_pure]; rfl) (by simp only [go_sem, seval, strR_len, strR_pure]) (fun h8 => ?_) (fun h8 => ?_)
  · refine AWp.skip ?_
    refine AWp.seq ?_
    refine AWp.block ?_
    refine AWp.seqJ (fun q : Str => ⟨[.sl false (strR l), .no, .no, .s q, .i .i64 k, .no, .no, .no, .no, .no, .no, .no, .no, .no, .no, .no, .no, .no, .no, .no, .no, .no], memOf [], us []⟩) (fun q : Str => q = if 0 < k then lnText (l.take k) ++ [10] else []) ?_ (fun q hJ => ?_)
    · refine AWp.seq ?_
      refine AWp.rgn [] (by simp only [go_sem, seval, strR_len, strR_pure]; rfl) ?_ ?_
      · (first | trivial | (simp; done))
      refine AWp.condB (by simp only [go_sem, seval, strR_len, strR_pure]; rfl) (by simp only [go_sem, seval, strR_len, strR_pure]) (fun h12 => ?_) (fun h12 => ?_)
      · refine AWp.rgn [] (by simp only [go_sem, seval, strR_len, strR_pure]; rfl) ?_ ?_
        · have q := ln_sub (l := l) k; simp; omega
        refine Exists.intro (lnText (l.take k) ++ [10]) ⟨?_, ?_⟩
        · simp at h12; simp [h12]
        exact Can.weak (Weak.lit (by simp only [go_sem, seval, strR_len, strR_pure, subM, leV, inns, innr, V.inn, us, true_or, or_true] <;> ((simp at h12; subst h12; simp [ln_nil]))) (by simp only [go_sem, seval, strR_len, strR_pure, subM, leV, inns, innr, V.inn, us, true_or, or_true]) (by simp only [go_sem, seval, strR_len, strR_pure, subM, leV, inns, innr, V.inn, us, true_or, or_true]))
      · refine AWp.skip ?_
        refine Exists.intro ([]) ⟨?_, ?_⟩
        · simp at h12; simp [h12]
        exact Can.weak (Weak.lit (by simp only [go_sem, seval, strR_len, strR_pure, subM, leV, inns, innr, V.inn, us, true_or, or_true] <;> ((simp at h12; subst h12; simp [ln_nil]))) (by simp only [go_sem, seval, strR_len, strR_pure, subM, leV, inns, innr, V.inn, us, true_or, or_true]) (by simp only [go_sem, seval, strR_len, strR_pure, subM, leV, inns, innr, V.inn, us, true_or, or_true]))
    refine AWp.rgn [] (by simp only [go_sem, seval, strR_len, strR_pure, strR_get (show k < l.length by simpa using h8)]; rfl) ?_ ?_
    · have q1 := ln_sub (l := l) (k + 1); rw [ln_take (by simpa using h8), ← hJ, List.length_append] at q1; refine ⟨⟨by omega, by simpa using h8⟩, by omega⟩
    refine AWp.rgn [] (by simp only [go_sem, seval, strR_len, strR_pure]; rfl) ?_ ?_
    · (first | trivial | (simp; done))
    refine Exists.intro (k + 1) ⟨?_, ?_, ?_⟩
    · simp at h8; omega
    · simp at h8; omega
    exact Can.weak (Weak.lit (by simp only [go_sem, seval, strR_len, strR_pure, subM, leV, inns, innr, V.inn, us, true_or, or_true] <;> (rw [wrap64 (by simp at h8; omega) (by simp at h8; omega)]; refine ⟨?_, by simp⟩; first | (rw [hJ, ln_take (by simpa using h8)]; done))) (by simp only [go_sem, seval, strR_len, strR_pure, subM, leV, inns, innr, V.inn, us, true_or, or_true]) (by simp only [go_sem, seval, strR_len, strR_pure, subM, leV, inns, innr, V.inn, us, true_or, or_true]))
  · refine AWp.exit ?_
    refine AWp.seq ?_
    refine AWp.rgn [] (by simp only [go_sem, seval, strR_len, strR_pure]; rfl) ?_ ?_
    · (first | trivial | (simp; done))
    refine AWp.ret (And.intro (.inr rfl) ?_)
    exact Out.plain (by simp only [Tryz.results94]; rfl) (by simp only [resCs, resC, go_sem, seval, strR_len, strR_pure] <;> (split <;> rfl)) (by simp only [resV, go_sem, seval, strR_len, strR_pure] <;> (simp at h8; rw [List.take_of_length_le h8])) (by simp only [go_sem, seval, strR_len, strR_pure])
/-- what a program is turned into -/
def emText (l : List Sl) : Str := if pok l then lnText (l.map emT) else []
theorem emT_le {s : Sl} (h : sok s = true) : (emT s).length ≤ 120 := by
  unfold emT; rw [if_pos h]; exact (bok_open (bok_bof h)).1
theorem emTs_le {l : List Sl} (h : pok l = true) : (lnText (l.map emT)).length ≤ 2000 ∧ (l.map emT).length ≤ 16 := by
  obtain ⟨h1, h2, h3⟩ := pok_open h
  have := ln_le (l := l.map emT) (k := 120) fun s hs => by
    obtain ⟨x, hx, rfl⟩ := List.mem_map.1 hs
    obtain ⟨k, hk⟩ := List.mem_iff_getElem?.1 hx
    have h4 := h3 k (List.getElem?_eq_some_iff.1 hk).1
    rw [List.getD_eq_getElem?_getD, hk] at h4
    exact emT_le h4
  rw [List.length_map] at this ⊢
  omega
theorem sEmitText_a (l : List Sl) (hs : allS l = true) (hl : l.length < 4611686018427387904) : ACall En 46 [.sl false (sR l)] [] [.s (emText l)] [] := by
  refine acall_of_body (fn := Tryz.f46) [] Tryz.func46 rfl rfl (by simp) fun C => ?_
  rw [entry_eq]
  simp only [Tryz.ntmps46, List.length_cons, List.length_nil, Nat.reduceAdd, Nat.reduceSub, List.replicate_succ, List.replicate_zero, List.cons_append, List.nil_append, numL]
  refine AWp.seq ?_
  refine AWp.rgn [] (by simp only [go_sem, seval, sR_len, sR_pure, sC_eq, strR_len, strR_pure, inR_pure]; rfl) ?_ ?_
  · (first | trivial | (simp; done))
  refine AWp.seq ?_
  refine AWp.seq ?_
  refine AWp.rgn [call0 (sProgOk_a l hs hl)] (by simp only [go_sem, seval, sR_len, sR_pure, sC_eq, strR_len, strR_pure, inR_pure]; rfl) ?_ ?_
  · (first | trivial | (simp; done))
  refine AWp.condB (by simp only [go_sem, seval, sR_len, sR_pure, sC_eq, strR_len, strR_pure, inR_pure]; rfl) (by simp only [go_sem, seval, sR_len, sR_pure, sC_eq, strR_len, strR_pure, inR_pure]) (fun h9 => ?_) (fun h9 => ?_)
  · refine AWp.seq ?_
    refine AWp.rgn [] (by simp only [go_sem, seval, sR_len, sR_pure, sC_eq, strR_len, strR_pure, inR_pure]; rfl) ?_ ?_
    · (first | trivial | (simp; done))
    refine AWp.ret (And.intro (.inr rfl) ?_)
    exact Out.plain (by simp only [Tryz.results46]; rfl) (by simp only [resCs, resC, go_sem, seval, sR_len, sR_pure, sC_eq, strR_len, strR_pure, inR_pure] <;> (split <;> rfl)) (by simp only [resV, go_sem, seval, sR_len, sR_pure, sC_eq, strR_len, strR_pure, inR_pure] <;> (simp at h9; simp [emText, h9])) (by simp only [go_sem, seval, sR_len, sR_pure, sC_eq, strR_len, strR_pure, inR_pure])
  · refine AWp.skip ?_
    refine AWp.seq ?_
    refine AWp.rgn [] (by simp only [go_sem, seval, sR_len, sR_pure, sC_eq, strR_len, strR_pure, inR_pure]; rfl) ?_ ?_
    · (first | trivial | (simp; done))
    refine AWp.seq ?_
    refine AWp.seq ?_
    refine AWp.rgn [] (by simp only [go_sem, seval, sR_len, sR_pure, sC_eq, strR_len, strR_pure, inR_pure]; rfl) ?_ ?_
    · (first | trivial | (simp; done))
    refine AWp.block ?_
    refine AWp.loopK (fun k : Nat => ⟨[.sl false (sR l), .no, .no, .ow 60 1 0 k, .i .i64 k, .no, .no, .no, .no, .no, .no, .no, .no, .no, .no, .no, .no, .no, .no, .no, .no, .no, .no, .no, .no, .no, .no, .no, .no, .no, .no], memOf [(60, ⟨9, 1, strR ((l.map emT).take k)⟩)], us [60]⟩) (fun k : Nat => k ≤ l.length ∧ pok l = true) (fun k : Nat => l.length - k) (0) ?_ ?_ (fun k hI => ?_)
    · exact ⟨by simp, by simpa using h9⟩
    · refine Can.trans (Can.ownSlot 3 60 9 1 (by simp only [go_sem, seval, sR_len, sR_pure, sC_eq, strR_len, strR_pure, inR_pure] <;> rfl) (by simp only [go_sem, seval, sR_len, sR_pure, sC_eq, strR_len, strR_pure, inR_pure]) (by simp only [go_sem, seval, sR_len, sR_pure, sC_eq, strR_len, strR_pure, inR_pure] <;> rfl)) ?_
      exact Can.weak (Weak.lit (by simp only [go_sem, seval, sR_len, sR_pure, sC_eq, strR_len, strR_pure, inR_pure, subM, leV, inns, innr, V.inn, us, true_or, or_true] <;> (simp)) (by simp only [go_sem, seval, sR_len, sR_pure, sC_eq, strR_len, strR_pure, inR_pure, subM, leV, inns, innr, V.inn, us, true_or, or_true]) (by simp only [go_sem, seval, sR_len, sR_pure, sC_eq, strR_len, strR_pure, inR_pure, subM, leV, inns, innr, V.inn, us, true_or, or_true] <;> (simp [strR])))
    refine AWp.seq ?_
    refine AWp.seq ?_
    refine AWp.rgn [] (by simp only [go_sem, seval, sR_len, sR_pure, sC_eq, strR_len, strR_pure, inR_pure]; rfl) ?_ ?_
    · (first | trivial | (simp; done))
    refine AWp.condB (by simp only [go_sem, seval, sR_len, sR_pure, sC_eq, strR_len, strR_pure, inR_pure]; rfl) (by simp only [go_sem, seval, sR_len, sR_pure, sC_eq, strR_len, strR_pure, inR_pure]) (fun h14 => ?_) (fun h14 => ?_)
    · refine AWp.skip ?_
      refine AWp.seq ?_
      refine AWp.block ?_
      refine AWp.seq ?_
      refine AWp.rgn [callI (k < l.length) (fun h => sEmitLine_a (l.getD k S0) (allS_at hs h))] (by simp only [go_sem, seval, sR_len, sR_pure, sC_eq, strR_len, strR_pure, inR_pure, sR_get (show k < l.length by simpa using h14)]; rfl) ?_ ?_
      · simp only [decide_eq_true_eq] at h14; simp; omega
      refine AWp.rgn [] (by simp only [go_sem, seval, sR_len, sR_pure, sC_eq, strR_len, strR_pure, inR_pure]; rfl) ?_ ?_
      · simp only [decide_eq_true_eq] at h14; have := (pok_open hI.2).2.1; simp; omega
      refine AWp.rgn [] (by simp only [go_sem, seval, sR_len, sR_pure, sC_eq, strR_len, strR_pure, inR_pure]; rfl) ?_ ?_
      · (first | trivial | (simp; done))
      refine Exists.intro (k + 1) ⟨?_, ?_, ?_⟩
      · simp at h14; exact ⟨by omega, hI.2⟩
      · simp at h14; omega
      refine Can.trans (Can.swap 38 60 (by decide) (by decide) (by decide) (by decide) (by simp only [go_sem, seval, sR_len, sR_pure, sC_eq, strR_len, strR_pure, inR_pure, V.cl]) (by simp only [go_sem, seval, sR_len, sR_pure, sC_eq, strR_len, strR_pure, inR_pure, V.cl]) (by simp only [go_sem, seval, sR_len, sR_pure, sC_eq, strR_len, strR_pure, inR_pure, swL_get, sw, swM, rnB] <;> rfl) (by simp only [go_sem, seval, sR_len, sR_pure, sC_eq, strR_len, strR_pure, inR_pure, swL_get, sw, swM, rnB] <;> rfl) (by simp only [go_sem, seval, sR_len, sR_pure, sC_eq, strR_len, strR_pure, inR_pure, swL_get, sw, swM, rnB] <;> rfl)) ?_
      exact Can.weak (Weak.lit (by simp only [go_sem, seval, sR_len, sR_pure, sC_eq, strR_len, strR_pure, inR_pure, subM, leV, inns, innr, V.inn, us, true_or, or_true] <;> (rw [wrap64 (by omega) (by omega)]; simp)) (by simp only [go_sem, seval, sR_len, sR_pure, sC_eq, strR_len, strR_pure, inR_pure, subM, leV, inns, innr, V.inn, us, true_or, or_true]) (by simp only [go_sem, seval, sR_len, sR_pure, sC_eq, strR_len, strR_pure, inR_pure, subM, leV, inns, innr, V.inn, us, true_or, or_true] <;> (simp only [decide_eq_true_eq] at h14; rw [strR_snoc (show k < (l.map emT).length by rw [List.length_map]; omega)]; simp [List.getD_eq_getElem?_getD, List.getElem?_eq_getElem (show k < l.length by omega)])))
    · refine AWp.exit ?_
      refine AWp.seq ?_
      refine AWp.rgn [callBI (pok l = true) (fun h => sTextJoin_a (l.map emT) (by have := (emTs_le h).2; omega) (by have := (emTs_le h).1; omega))] (by simp only [go_sem, seval, sR_len, sR_pure, sC_eq, strR_len, strR_pure, inR_pure]; rfl) ?_ ?_
      · simp only [decide_eq_false_iff_not] at h14; obtain rfl : k = l.length := (by omega); refine ⟨?_, hI.2⟩; rw [List.take_of_length_le (by rw [List.length_map]; exact Nat.le_refl _), List.take_of_length_le (by rw [strR_len, List.length_map]; exact Nat.le_refl _)]; simp [ler_refl, leV_refl]
      refine AWp.ret (And.intro (.inr rfl) ?_)
      exact Out.plain (by simp only [Tryz.results46]; rfl) (by simp only [resCs, resC, go_sem, seval, sR_len, sR_pure, sC_eq, strR_len, strR_pure, inR_pure] <;> (split <;> rfl)) (by simp only [resV, go_sem, seval, sR_len, sR_pure, sC_eq, strR_len, strR_pure, inR_pure] <;> (simp at h9; simp [emText, h9])) (by simp only [go_sem, seval, sR_len, sR_pure, sC_eq, strR_len, strR_pure, inR_pure])
theorem emit_f (s : Sl) (h : sok s = true) (hs : sms' s = true) : ACall En 88 [.ag (sC s)] [] [.s (emT s), .sl false (inR (emF s))] [] := by
  have := (emit_a s (sok_0 h) hs).frz1 (rs' := [.s (emT s), .sl false (inR (emF s))]) (by simp [frzs, frz, inR_len, List.take_of_length_le, emT, emF, h])
  exact this
theorem iEmitText_a (l : List Sl) (hs : allS l = true) (hl : l.length < 4611686018427387904) : ACall En 48 [.sl false (sR l)] [] [.s (emText l)] [] := by
  have hp : ∀ k, purer (filR (strR (l.map emT)) [.s []] k) = true := fun k => filR_pure (strR_pure _) rfl
  have hll : (strR (l.map emT)).length = l.length := by simp [strR]
  refine acall_of_body (fn := Tryz.f48) [] Tryz.func48 rfl rfl (by simp) fun C => ?_
  rw [entry_eq]
  simp only [Tryz.ntmps48, List.length_cons, List.length_nil, Nat.reduceAdd, Nat.reduceSub, List.replicate_succ, List.replicate_zero, List.cons_append, List.nil_append, numL]
  refine AWp.seq ?_
  refine AWp.rgn [] (by simp only [go_sem, seval, sR_len, sR_pure, sC_eq, strR_pure, inR_pure, hp, hll, filR_len, filR_str_drop]; rfl) ?_ ?_
  · (first | trivial | (simp; done))
  refine AWp.seq ?_
  refine AWp.seq ?_
  refine AWp.rgn [call0 (iProgOk_a l hs hl)] (by simp only [go_sem, seval, sR_len, sR_pure, sC_eq, strR_pure, inR_pure, hp, hll, filR_len, filR_str_drop]; rfl) ?_ ?_
  · (first | trivial | (simp; done))
  refine AWp.condB (by simp only [go_sem, seval, sR_len, sR_pure, sC_eq, strR_pure, inR_pure, hp, hll, filR_len, filR_str_drop]; rfl) (by simp only [go_sem, seval, sR_len, sR_pure, sC_eq, strR_pure, inR_pure, hp, hll, filR_len, filR_str_drop]) (fun h8 => ?_) (fun h8 => ?_)
  · refine AWp.seq ?_
    refine AWp.rgn [] (by simp only [go_sem, seval, sR_len, sR_pure, sC_eq, strR_pure, inR_pure, hp, hll, filR_len, filR_str_drop]; rfl) ?_ ?_
    · (first | trivial | (simp; done))
    refine AWp.ret (And.intro (.inr rfl) ?_)
    exact Out.plain (by simp only [Tryz.results48]; rfl) (by simp only [resCs, resC, go_sem, seval, sR_len, sR_pure, sC_eq, strR_pure, inR_pure, hp, hll, filR_len, filR_str_drop] <;> (split <;> rfl)) (by simp only [resV, go_sem, seval, sR_len, sR_pure, sC_eq, strR_pure, inR_pure, hp, hll, filR_len, filR_str_drop] <;> (simp at h8; simp [emText, h8])) (by simp only [go_sem, seval, sR_len, sR_pure, sC_eq, strR_pure, inR_pure, hp, hll, filR_len, filR_str_drop])
  · refine AWp.skip ?_
    refine AWp.seq ?_
    refine AWp.rgn [] (by simp only [go_sem, seval, sR_len, sR_pure, sC_eq, strR_pure, inR_pure, hp, hll, filR_len, filR_str_drop]; rfl) ?_ ?_
    · simp only [Bool.not_eq_false'] at h8; have := (pok_open h8).2.1; omega
    refine AWp.seq ?_
    refine AWp.seq ?_
    refine AWp.rgn [] (by simp only [go_sem, seval, sR_len, sR_pure, sC_eq, strR_pure, inR_pure, hp, hll, filR_len, filR_str_drop]; rfl) ?_ ?_
    · (first | trivial | (simp; done))
    refine AWp.block ?_
    refine AWp.loopK (fun k : Nat => ⟨[.no, .no, .no, .ow 21 1 0 l.length, .no, .no, .no, .no, .no, .no, .no, .no, .sl false (sR l), .i .i64 l.length, .i .i64 k, .no, .no, .no, .no, .no, .no, .no, .no, .no, .no, .no, .no, .no, .no, .no], memOf [(21, ⟨9, 1, filR (strR (l.map emT)) [.s []] k⟩)], us [21]⟩) (fun k : Nat => k ≤ l.length ∧ pok l = true) (fun k : Nat => l.length - k) (0) ?_ ?_ (fun k hI => ?_)
    · exact ⟨by simp, by simpa using h8⟩
    · exact Can.weak (Weak.lit (by simp only [go_sem, seval, sR_len, sR_pure, sC_eq, strR_pure, inR_pure, hp, hll, filR_len, filR_str_drop, subM, leV, inns, innr, V.inn, us, true_or, or_true] <;> (simp)) (by simp only [go_sem, seval, sR_len, sR_pure, sC_eq, strR_pure, inR_pure, hp, hll, filR_len, filR_str_drop, subM, leV, inns, innr, V.inn, us, true_or, or_true]) (by simp only [go_sem, seval, sR_len, sR_pure, sC_eq, strR_pure, inR_pure, hp, hll, filR_len, filR_str_drop, subM, leV, inns, innr, V.inn, us, true_or, or_true] <;> (simp [filR_zero, hll])))
    refine AWp.seq ?_
    refine AWp.rgn [] (by simp only [go_sem, seval, sR_len, sR_pure, sC_eq, strR_pure, inR_pure, hp, hll, filR_len, filR_str_drop]; rfl) ?_ ?_
    · (first | trivial | (simp; done))
    refine AWp.seq ?_
    refine AWp.condB (by simp only [go_sem, seval, sR_len, sR_pure, sC_eq, strR_pure, inR_pure, hp, hll, filR_len, filR_str_drop]; rfl) (by simp only [go_sem, seval, sR_len, sR_pure, sC_eq, strR_pure, inR_pure, hp, hll, filR_len, filR_str_drop]) (fun h15 => ?_) (fun h15 => ?_)
    · refine AWp.skip ?_
      refine AWp.seq ?_
      refine AWp.block ?_
      refine AWp.seq ?_
      refine AWp.rgn [] (by simp only [go_sem, seval, sR_len, sR_pure, sC_eq, strR_pure, inR_pure, hp, hll, filR_len, filR_str_drop, sR_get (show k < l.length by simpa using h15)]; rfl) ?_ ?_
      · simp only [decide_eq_true_eq] at h15; simp; omega
      refine AWp.rgn [callI (k < l.length ∧ sok (l.getD k S0) = true) (fun h => emit_f (l.getD k S0) h.2 (allS_at hs h.1))] (by simp only [go_sem, seval, sR_len, sR_pure, sC_eq, strR_pure, inR_pure, hp, hll, filR_len, filR_str_drop]; rfl) ?_ ?_
      · simp only [decide_eq_true_eq] at h15; have hk : k < l.length := (by omega); exact ⟨⟨⟨hk, (pok_open hI.2).2.2 k hk⟩, by omega⟩, hk⟩
      refine AWp.rgn [] (by simp only [go_sem, seval, sR_len, sR_pure, sC_eq, strR_pure, inR_pure, hp, hll, filR_len, filR_str_drop]; rfl) ?_ ?_
      · (first | trivial | (simp; done))
      refine Exists.intro (k + 1) ⟨?_, ?_, ?_⟩
      · simp at h15; exact ⟨by omega, hI.2⟩
      · simp at h15; omega
      exact Can.weak (Weak.lit (by simp only [go_sem, seval, sR_len, sR_pure, sC_eq, strR_pure, inR_pure, hp, hll, filR_len, filR_str_drop, subM, leV, inns, innr, V.inn, us, true_or, or_true] <;> (rw [wrap64 (by omega) (by omega)]; simp)) (by simp only [go_sem, seval, sR_len, sR_pure, sC_eq, strR_pure, inR_pure, hp, hll, filR_len, filR_str_drop, subM, leV, inns, innr, V.inn, us, true_or, or_true]) (by simp only [go_sem, seval, sR_len, sR_pure, sC_eq, strR_pure, inR_pure, hp, hll, filR_len, filR_str_drop, subM, leV, inns, innr, V.inn, us, true_or, or_true] <;> ((simp only [decide_eq_true_eq] at h15); rw [← filR_set (by rw [hll]; omega), strR_get (by rw [List.length_map]; omega)]; simp [List.getD_eq_getElem?_getD, List.getElem?_eq_getElem (show k < l.length by omega)])))
    · refine AWp.exit ?_
      refine AWp.seq ?_
      refine AWp.rgn [callBI (pok l = true) (fun h => iTextJoin_a (l.map emT) (by have := (emTs_le h).1; omega) (by have := (emTs_le h).2; omega))] (by simp only [go_sem, seval, sR_len, sR_pure, sC_eq, strR_pure, inR_pure, hp, hll, filR_len, filR_str_drop]; rfl) ?_ ?_
      · simp only [decide_eq_false_iff_not] at h15; refine ⟨?_, hI.2⟩; rw [filR_end (by rw [hll]; omega), List.take_of_length_le (by rw [hll]; exact Nat.le_refl _)]; exact ler_refl _
      refine AWp.ret (And.intro (.inr rfl) ?_)
      exact Out.plain (by simp only [Tryz.results48]; rfl) (by simp only [resCs, resC, go_sem, seval, sR_len, sR_pure, sC_eq, strR_pure, inR_pure, hp, hll, filR_len, filR_str_drop] <;> (split <;> rfl)) (by simp only [resV, go_sem, seval, sR_len, sR_pure, sC_eq, strR_pure, inR_pure, hp, hll, filR_len, filR_str_drop] <;> (simp at h8; simp [emText, h8])) (by simp only [go_sem, seval, sR_len, sR_pure, sC_eq, strR_pure, inR_pure, hp, hll, filR_len, filR_str_drop])
end Go.Proofs.YthljacdbmhonfaaGreatDoor
end

section
namespace Go.Proofs.YthljacdbmhonfaaGreatDoor
set_option maxRecDepth 100000
set_option maxHeartbeats 4000000

def bdS (s : Sl) : Bool := decide (s.name.length ≤ 9223372036854775807) && decide (s.type.length ≤ 9223372036854775807) && bd s.expr && bd s.thn
theorem bdS_open {s : Sl} (h : bdS s = true) : s.name.length ≤ 9223372036854775807 ∧ s.type.length ≤ 9223372036854775807 ∧ bd s.expr = true ∧ bd s.thn = true := by
  simp only [bdS, Bool.and_eq_true, decide_eq_true_eq] at h; exact ⟨h.1.1.1, h.1.1.2, h.1.2, h.2⟩
def szS (s : Sl) (l : Int) : Int := if l - s.name.length < 0 then -1 else if l - s.name.length - s.type.length < 0 then -1 else if szE s.expr (l - s.name.length - s.type.length) < 0 then -1 else szE s.thn (szE s.expr (l - s.name.length - s.type.length))
theorem szS_le (s : Sl) (l : Int) (h : -1 ≤ l) : -1 ≤ szS s l ∧ szS s l ≤ l := by
  unfold szS
  split
  · omega
  · split
    · omega
    · have h1 := szE_le s.expr (l - s.name.length - s.type.length) (by omega)
      split
      · omega
      · have h2 := szE_le s.thn (szE s.expr (l - s.name.length - s.type.length)) (by omega)
        omega
theorem szS_sm {s : Sl} {l : Int} (hl : l ≤ 1048576) (h0 : -1 ≤ l) (h : 0 ≤ szS s l) : sms' s = true := by
  unfold szS at h
  split at h
  · omega
  · split at h
    · omega
    · have h1 := szE_le s.expr (l - s.name.length - s.type.length) (by omega)
      split at h
      · omega
      · have h2 := szE_sm s.expr _ (by omega) (show 0 ≤ szE s.expr (l - s.name.length - s.type.length) by omega)
        have h3 := szE_sm s.thn _ (by omega) h
        simp only [sms', h2, h3, Bool.and_true, Bool.and_eq_true, decide_eq_true_eq]; omega
theorem szStmt_a (s : Sl) (hb : bdS s = true) (l : Int) (h1 : 0 ≤ l) (h2 : l ≤ 1048576) : ACall En 36 [.ag (sC s), .i .i64 l] [] [.i .i64 (szS s l)] [] := by
  obtain ⟨b1, b1', b2, b3⟩ := bdS_open hb
  have hw : IntKind.i64.wrap (l - s.name.length) = l - s.name.length := wrap64 (by omega) (by omega)
  have hle : 0 ≤ l - (s.name.length : Int) - s.type.length → szE s.expr (l - s.name.length - s.type.length) ≤ 1048576 := fun h => by have := szE_le s.expr (l - s.name.length - s.type.length) (by omega); omega
  refine acall_of_body (fn := Tryz.f36) [] Tryz.func36 rfl rfl (by simp) fun C => ?_
  rw [entry_eq]
  simp only [Tryz.ntmps36, List.length_cons, List.length_nil, Nat.reduceAdd, Nat.reduceSub, List.replicate_succ, List.replicate_zero, List.cons_append, List.nil_append, numL]
  refine AWp.seq ?_
  refine AWp.rgn [] (by simp only [go_sem, seval, hw, sC_eq]; rfl) ?_ ?_
  · (first | trivial | (simp; done))
  refine AWp.seq ?_
  refine AWp.rgn [] (by simp only [go_sem, seval, hw, sC_eq]; rfl) ?_ ?_
  · (first | trivial | (simp; done))
  refine AWp.seq ?_
  refine AWp.seq ?_
  refine AWp.rgn [] (by simp only [go_sem, seval, hw, sC_eq]; rfl) ?_ ?_
  · (first | trivial | (simp; done))
  refine AWp.condB (by simp only [go_sem, seval, hw, sC_eq]; rfl) (by simp only [go_sem, seval, hw, sC_eq]) (fun h11 => ?_) (fun h11 => ?_)
  · refine AWp.seq ?_
    refine AWp.rgn [] (by simp only [go_sem, seval, hw, sC_eq]; rfl) ?_ ?_
    · (first | trivial | (simp; done))
    refine AWp.ret (And.intro (.inr rfl) ?_)
    exact Out.plain (by simp only [Tryz.results36]; rfl) (by simp only [resCs, resC, go_sem, seval, hw, sC_eq] <;> (split <;> rfl)) (by simp only [resV, go_sem, seval, hw, sC_eq] <;> (simp only [decide_eq_true_eq] at h11; rw [szS, if_pos h11])) (by simp only [go_sem, seval, hw, sC_eq])
  · refine AWp.skip ?_
    refine AWp.seq ?_
    refine AWp.rgn [] (by simp only [go_sem, seval, hw, sC_eq, wrap64 (show -9223372036854775808 ≤ l - (s.name.length : Int) - s.type.length by simp only [decide_eq_false_iff_not] at h11; omega) (by omega)]; rfl) ?_ ?_
    · (first | trivial | (simp; done))
    refine AWp.seq ?_
    refine AWp.seq ?_
    refine AWp.rgn [] (by simp only [go_sem, seval, hw, sC_eq]; rfl) ?_ ?_
    · (first | trivial | (simp; done))
    refine AWp.condB (by simp only [go_sem, seval, hw, sC_eq]; rfl) (by simp only [go_sem, seval, hw, sC_eq]) (fun h18 => ?_) (fun h18 => ?_)
    · refine AWp.seq ?_
      refine AWp.rgn [] (by simp only [go_sem, seval, hw, sC_eq]; rfl) ?_ ?_
      · (first | trivial | (simp; done))
      refine AWp.ret (And.intro (.inr rfl) ?_)
      exact Out.plain (by simp only [Tryz.results36]; rfl) (by simp only [resCs, resC, go_sem, seval, hw, sC_eq] <;> (split <;> rfl)) (by simp only [resV, go_sem, seval, hw, sC_eq] <;> (simp only [decide_eq_true_eq, decide_eq_false_iff_not] at h11 h18; rw [szS, if_neg h11, if_pos h18])) (by simp only [go_sem, seval, hw, sC_eq])
    · refine AWp.skip ?_
      refine AWp.seq ?_
      refine AWp.rgn [callI (0 ≤ l - (s.name.length : Int) - s.type.length) (fun h => szExpr_a s.expr b2 (l - s.name.length - s.type.length) h (by omega))] (by simp only [go_sem, seval, hw, sC_eq]; rfl) ?_ ?_
      · simp only [decide_eq_false_iff_not] at h11 h18; simp; omega
      refine AWp.seq ?_
      refine AWp.seq ?_
      refine AWp.rgn [] (by simp only [go_sem, seval, hw, sC_eq]; rfl) ?_ ?_
      · (first | trivial | (simp; done))
      refine AWp.condB (by simp only [go_sem, seval, hw, sC_eq]; rfl) (by simp only [go_sem, seval, hw, sC_eq]) (fun h24 => ?_) (fun h24 => ?_)
      · refine AWp.seq ?_
        refine AWp.rgn [] (by simp only [go_sem, seval, hw, sC_eq]; rfl) ?_ ?_
        · (first | trivial | (simp; done))
        refine AWp.ret (And.intro (.inr rfl) ?_)
        exact Out.plain (by simp only [Tryz.results36]; rfl) (by simp only [resCs, resC, go_sem, seval, hw, sC_eq] <;> (split <;> rfl)) (by simp only [resV, go_sem, seval, hw, sC_eq] <;> (simp only [decide_eq_true_eq, decide_eq_false_iff_not] at h11 h18 h24; rw [szS, if_neg h11, if_neg h18, if_pos h24])) (by simp only [go_sem, seval, hw, sC_eq])
      · refine AWp.skip ?_
        refine AWp.seq ?_
        refine AWp.rgn [callI (0 ≤ l - (s.name.length : Int) - s.type.length ∧ 0 ≤ szE s.expr (l - s.name.length - s.type.length)) (fun h => szExpr_a s.thn b3 (szE s.expr (l - s.name.length - s.type.length)) h.2 (hle h.1))] (by simp only [go_sem, seval, hw, sC_eq]; rfl) ?_ ?_
        · simp only [decide_eq_false_iff_not] at h11 h18 h24; simp; omega
        refine AWp.seq ?_
        refine AWp.seq ?_
        refine AWp.rgn [] (by simp only [go_sem, seval, hw, sC_eq]; rfl) ?_ ?_
        · (first | trivial | (simp; done))
        refine AWp.condB (by simp only [go_sem, seval, hw, sC_eq]; rfl) (by simp only [go_sem, seval, hw, sC_eq]) (fun h30 => ?_) (fun h30 => ?_)
        · refine AWp.seq ?_
          refine AWp.rgn [] (by simp only [go_sem, seval, hw, sC_eq]; rfl) ?_ ?_
          · (first | trivial | (simp; done))
          refine AWp.ret (And.intro (.inr rfl) ?_)
          exact Out.plain (by simp only [Tryz.results36]; rfl) (by simp only [resCs, resC, go_sem, seval, hw, sC_eq] <;> (split <;> rfl)) (by simp only [resV, go_sem, seval, hw, sC_eq] <;> (simp only [decide_eq_true_eq, decide_eq_false_iff_not] at h11 h18 h24 h30; rw [szS, if_neg h11, if_neg h18, if_neg h24]; have := szE_le s.thn (szE s.expr (l - s.name.length - s.type.length)) (by omega); congr 1; congr 1; omega)) (by simp only [go_sem, seval, hw, sC_eq])
        · refine AWp.skip ?_
          refine AWp.seq ?_
          refine AWp.rgn [] (by simp only [go_sem, seval, hw, sC_eq]; rfl) ?_ ?_
          · (first | trivial | (simp; done))
          refine AWp.ret (And.intro (.inr rfl) ?_)
          exact Out.plain (by simp only [Tryz.results36]; rfl) (by simp only [resCs, resC, go_sem, seval, hw, sC_eq] <;> (split <;> rfl)) (by simp only [resV, go_sem, seval, hw, sC_eq] <;> (simp only [decide_eq_true_eq, decide_eq_false_iff_not] at h11 h18 h24 h30; rw [szS, if_neg h11, if_neg h18, if_neg h24])) (by simp only [go_sem, seval, hw, sC_eq])
theorem toStmt_a (s : Sl) (hs : sms' s = true) : ACall En 37 [.ag (sC s)] [] [.ag (sC s)] [] := by
  obtain ⟨s1, s1', s2, s3⟩ := sms_open hs
  refine acall_of_body (fn := Tryz.f37) [] Tryz.func37 rfl rfl (by simp) fun C => ?_
  rw [entry_eq]
  simp only [Tryz.ntmps37, List.length_cons, List.length_nil, Nat.reduceAdd, Nat.reduceSub, List.replicate_succ, List.replicate_zero, List.cons_append, List.nil_append, numL]
  refine AWp.seq ?_
  refine AWp.rgn [] (by simp only [go_sem, seval, sC_eq, eC_eq]; rfl) ?_ ?_
  · (first | trivial | (simp; done))
  refine AWp.seq ?_
  refine AWp.rgn [] (by simp only [go_sem, seval, sC_eq, eC_eq]; rfl) ?_ ?_
  · (first | trivial | (simp; done))
  refine AWp.seq ?_
  refine AWp.rgn [] (by simp only [go_sem, seval, sC_eq, eC_eq]; rfl) ?_ ?_
  · (first | trivial | (simp; done))
  refine AWp.seq ?_
  refine AWp.rgn [] (by simp only [go_sem, seval, sC_eq, eC_eq]; rfl) ?_ ?_
  · (first | trivial | (simp; done))
  refine AWp.seq ?_
  refine AWp.rgn [] (by simp only [go_sem, seval, sC_eq, eC_eq]; rfl) ?_ ?_
  · (first | trivial | (simp; done))
  refine AWp.seq ?_
  refine AWp.rgn [call0 (toExpr_a s.expr s2)] (by simp only [go_sem, seval, sC_eq, eC_eq]; rfl) ?_ ?_
  · (first | trivial | (simp; done))
  refine AWp.seq ?_
  refine AWp.rgn [call0 (toExpr_a s.thn s3)] (by simp only [go_sem, seval, sC_eq, eC_eq]; rfl) ?_ ?_
  · (first | trivial | (simp; done))
  refine AWp.seq ?_
  refine AWp.rgn [] (by simp only [go_sem, seval, sC_eq, eC_eq]; rfl) ?_ ?_
  · (first | trivial | (simp; done))
  refine AWp.ret (And.intro (.inr rfl) ?_)
  exact Out.plain (by simp only [Tryz.results37]; rfl) (by simp only [resCs, resC, go_sem, seval, sC_eq, eC_eq] <;> (split <;> rfl)) (by simp only [resV, go_sem, seval, sC_eq, eC_eq] <;> (rfl)) (by simp only [go_sem, seval, sC_eq, eC_eq])
def ssame (a b : Sl) : Bool := a.kind == b.kind && a.name == b.name && a.type == b.type && same a.expr b.expr && same a.thn b.thn
theorem ssame_refl (a : Sl) : ssame a a = true := by simp [ssame, same_refl]
theorem ssame_iff (a b : Sl) : ssame a b = true ↔ a = b := by
  cases a; cases b; simp only [ssame, Bool.and_eq_true, beq_iff_eq, same_iff, Sl.mk.injEq, and_assoc]
theorem eqStmt_a (a b : Sl) (ha : sms' a = true) (hb : sms' b = true) : ACall En 38 [.ag (sC a), .ag (sC b)] [] [.b (ssame a b)] [] := by
  obtain ⟨a1, a1', a2, a3⟩ := sms_open ha
  obtain ⟨b1, b1', b2, b3⟩ := sms_open hb
  refine acall_of_body (fn := Tryz.f38) [] Tryz.func38 rfl rfl (by simp) fun C => ?_
  rw [entry_eq]
  simp only [Tryz.ntmps38, List.length_cons, List.length_nil, Nat.reduceAdd, Nat.reduceSub, List.replicate_succ, List.replicate_zero, List.cons_append, List.nil_append, numL]
  refine AWp.seq ?_
  refine AWp.rgn [] (by simp only [go_sem, seval, sC_eq]; rfl) ?_ ?_
  · (first | trivial | (simp; done))
  refine AWp.seq ?_
  refine AWp.seq ?_
  refine AWp.rgn [] (by simp only [go_sem, seval, sC_eq]; rfl) ?_ ?_
  · (first | trivial | (simp; done))
  refine AWp.condB (by simp only [go_sem, seval, sC_eq]; rfl) (by simp only [go_sem, seval, sC_eq]) (fun h9 => ?_) (fun h9 => ?_)
  · refine AWp.seq ?_
    refine AWp.rgn [] (by simp only [go_sem, seval, sC_eq]; rfl) ?_ ?_
    · (first | trivial | (simp; done))
    refine AWp.ret (And.intro (.inr rfl) ?_)
    exact Out.plain (by simp only [Tryz.results38]; rfl) (by simp only [resCs, resC, go_sem, seval, sC_eq] <;> (split <;> rfl)) (by simp only [resV, go_sem, seval, sC_eq] <;> (simp at h9; simp [ssame, h9])) (by simp only [go_sem, seval, sC_eq])
  · refine AWp.skip ?_
    refine AWp.seq ?_
    refine AWp.seq ?_
    refine AWp.rgn [] (by simp only [go_sem, seval, sC_eq]; rfl) ?_ ?_
    · (first | trivial | (simp; done))
    refine AWp.condB (by simp only [go_sem, seval, sC_eq]; rfl) (by simp only [go_sem, seval, sC_eq]) (fun h14 => ?_) (fun h14 => ?_)
    · refine AWp.seq ?_
      refine AWp.rgn [] (by simp only [go_sem, seval, sC_eq]; rfl) ?_ ?_
      · (first | trivial | (simp; done))
      refine AWp.ret (And.intro (.inr rfl) ?_)
      exact Out.plain (by simp only [Tryz.results38]; rfl) (by simp only [resCs, resC, go_sem, seval, sC_eq] <;> (split <;> rfl)) (by simp only [resV, go_sem, seval, sC_eq] <;> (simp at h9 h14; simp [ssame, h14])) (by simp only [go_sem, seval, sC_eq])
    · refine AWp.skip ?_
      refine AWp.seq ?_
      refine AWp.seq ?_
      refine AWp.rgn [] (by simp only [go_sem, seval, sC_eq]; rfl) ?_ ?_
      · (first | trivial | (simp; done))
      refine AWp.condB (by simp only [go_sem, seval, sC_eq]; rfl) (by simp only [go_sem, seval, sC_eq]) (fun h19 => ?_) (fun h19 => ?_)
      · refine AWp.seq ?_
        refine AWp.rgn [] (by simp only [go_sem, seval, sC_eq]; rfl) ?_ ?_
        · (first | trivial | (simp; done))
        refine AWp.ret (And.intro (.inr rfl) ?_)
        exact Out.plain (by simp only [Tryz.results38]; rfl) (by simp only [resCs, resC, go_sem, seval, sC_eq] <;> (split <;> rfl)) (by simp only [resV, go_sem, seval, sC_eq] <;> (simp at h9 h14 h19; simp [ssame, h19])) (by simp only [go_sem, seval, sC_eq])
      · refine AWp.skip ?_
        refine AWp.seq ?_
        refine AWp.seq ?_
        refine AWp.rgn [call0 (eqExpr_a a.expr a2 b.expr b2)] (by simp only [go_sem, seval, sC_eq]; rfl) ?_ ?_
        · (first | trivial | (simp; done))
        refine AWp.condB (by simp only [go_sem, seval, sC_eq]; rfl) (by simp only [go_sem, seval, sC_eq]) (fun h25 => ?_) (fun h25 => ?_)
        · refine AWp.seq ?_
          refine AWp.rgn [] (by simp only [go_sem, seval, sC_eq]; rfl) ?_ ?_
          · (first | trivial | (simp; done))
          refine AWp.ret (And.intro (.inr rfl) ?_)
          exact Out.plain (by simp only [Tryz.results38]; rfl) (by simp only [resCs, resC, go_sem, seval, sC_eq] <;> (split <;> rfl)) (by simp only [resV, go_sem, seval, sC_eq] <;> (simp at h9 h14 h19 h25; simp [ssame, h25])) (by simp only [go_sem, seval, sC_eq])
        · refine AWp.skip ?_
          refine AWp.seq ?_
          refine AWp.seq ?_
          refine AWp.rgn [call0 (eqExpr_a a.thn a3 b.thn b3)] (by simp only [go_sem, seval, sC_eq]; rfl) ?_ ?_
          · (first | trivial | (simp; done))
          refine AWp.condB (by simp only [go_sem, seval, sC_eq]; rfl) (by simp only [go_sem, seval, sC_eq]) (fun h31 => ?_) (fun h31 => ?_)
          · refine AWp.seq ?_
            refine AWp.rgn [] (by simp only [go_sem, seval, sC_eq]; rfl) ?_ ?_
            · (first | trivial | (simp; done))
            refine AWp.ret (And.intro (.inr rfl) ?_)
            exact Out.plain (by simp only [Tryz.results38]; rfl) (by simp only [resCs, resC, go_sem, seval, sC_eq] <;> (split <;> rfl)) (by simp only [resV, go_sem, seval, sC_eq] <;> (simp at h9 h14 h19 h25 h31; simp [ssame, h31])) (by simp only [go_sem, seval, sC_eq])
          · refine AWp.skip ?_
            refine AWp.seq ?_
            refine AWp.rgn [] (by simp only [go_sem, seval, sC_eq]; rfl) ?_ ?_
            · (first | trivial | (simp; done))
            refine AWp.ret (And.intro (.inr rfl) ?_)
            exact Out.plain (by simp only [Tryz.results38]; rfl) (by simp only [resCs, resC, go_sem, seval, sC_eq] <;> (split <;> rfl)) (by simp only [resV, go_sem, seval, sC_eq] <;> (simp at h9 h14 h19 h25 h31; simp [ssame, h9, h14, h19, h25, h31])) (by simp only [go_sem, seval, sC_eq])
/-! lists -/
def szSr : List Sl → Int → Int
  | [], l => l
  | s :: r, l => if szS s l < 0 then -1 else szSr r (szS s l)
def szSl (l : List Sl) (q : Int) : Int := if q - l.length < 0 then -1 else szSr l (q - l.length)
theorem szSr_sm : ∀ (r : List Sl) (l : Int), -1 ≤ l → l ≤ 1048576 → 0 ≤ szSr r l → allS r = true
  | [], _, _, _, _ => rfl
  | s :: r, l, h0, hl, h => by
    simp only [szSr] at h
    have h1 := szS_le s l h0
    split at h
    · omega
    · have h2 := szS_sm hl h0 (show 0 ≤ szS s l by omega)
      have h3 := szSr_sm r (szS s l) (by omega) (by omega) h
      simp only [allS, List.all_cons, h2, Bool.true_and]; exact h3
theorem szSl_sm {l : List Sl} (h : 0 ≤ szSl l 1048576) : allS l = true ∧ l.length ≤ 1048576 := by
  unfold szSl at h
  split at h
  · omega
  · exact ⟨szSr_sm l _ (by omega) (by omega) h, by omega⟩
theorem szSr_step {l : List Sl} {k : Nat} (h : k < l.length) (q : Int) : szSr (l.drop k) q = if szS (l.getD k S0) q < 0 then -1 else szSr (l.drop (k + 1)) (szS (l.getD k S0) q) := by
  rw [List.drop_eq_getElem_cons h, List.getD_eq_getElem?_getD, List.getElem?_eq_getElem h]; simp only [szSr, Option.getD_some]
theorem szStmtS_a (l : List Sl) (hb : ∀ s ∈ l, bdS s = true) (hl : l.length ≤ 9223372036854775807) (q : Int) (h1 : 0 ≤ q) (h2 : q ≤ 1048576) : ACall En 45 [.sl false (sR l), .i .i64 q] [] [.i .i64 (szSl l q)] [] := by
  have hw : IntKind.i64.wrap (q - l.length) = q - l.length := wrap64 (by omega) (by omega)
  refine acall_of_body (fn := Tryz.f45) [] Tryz.func45 rfl rfl (by simp) fun C => ?_
  rw [entry_eq]
  simp only [Tryz.ntmps45, List.length_cons, List.length_nil, Nat.reduceAdd, Nat.reduceSub, List.replicate_succ, List.replicate_zero, List.cons_append, List.nil_append, numL]
  refine AWp.seq ?_
  refine AWp.rgn [] (by simp only [go_sem, seval, hw, sR_len, sR_pure, sC_eq]; rfl) ?_ ?_
  · (first | trivial | (simp; done))
  refine AWp.seq ?_
  refine AWp.rgn [] (by simp only [go_sem, seval, hw, sR_len, sR_pure, sC_eq]; rfl) ?_ ?_
  · (first | trivial | (simp; done))
  refine AWp.seq ?_
  refine AWp.seq ?_
  refine AWp.rgn [] (by simp only [go_sem, seval, hw, sR_len, sR_pure, sC_eq]; rfl) ?_ ?_
  · (first | trivial | (simp; done))
  refine AWp.condB (by simp only [go_sem, seval, hw, sR_len, sR_pure, sC_eq]; rfl) (by simp only [go_sem, seval, hw, sR_len, sR_pure, sC_eq]) (fun h11 => ?_) (fun h11 => ?_)
  · refine AWp.seq ?_
    refine AWp.rgn [] (by simp only [go_sem, seval, hw, sR_len, sR_pure, sC_eq]; rfl) ?_ ?_
    · (first | trivial | (simp; done))
    refine AWp.ret (And.intro (.inr rfl) ?_)
    exact Out.plain (by simp only [Tryz.results45]; rfl) (by simp only [resCs, resC, go_sem, seval, hw, sR_len, sR_pure, sC_eq] <;> (split <;> rfl)) (by simp only [resV, go_sem, seval, hw, sR_len, sR_pure, sC_eq] <;> (simp at h11; simp [szSl, h11])) (by simp only [go_sem, seval, hw, sR_len, sR_pure, sC_eq])
  · refine AWp.skip ?_
    refine AWp.seq ?_
    refine AWp.seq ?_
    refine AWp.rgn [] (by simp only [go_sem, seval, hw, sR_len, sR_pure, sC_eq]; rfl) ?_ ?_
    · (first | trivial | (simp; done))
    refine AWp.block ?_
    refine AWp.loopK (fun k : Nat × Int => ⟨[.sl false (sR l), .i .i64 k.2, .no, .no, .no, .i .i64 k.1, .no, .no, .no, .no, .no, .no, .no, .no, .no, .no, .no, .no, .no, .no, .no, .no, .no, .no, .no, .no, .no], memOf [], us []⟩) (fun k : Nat × Int => k.1 ≤ l.length ∧ 0 ≤ k.2 ∧ k.2 ≤ 1048576 ∧ szSl l q = szSr (l.drop k.1) k.2) (fun k : Nat × Int => l.length - k.1) ((0, q - l.length)) ?_ ?_ (fun k hI => ?_)
    · simp at h11; simp [szSl, show ¬ (q - (l.length : Int) < 0) by omega]; omega
    · exact Can.weak (Weak.lit (by simp only [go_sem, seval, hw, sR_len, sR_pure, sC_eq, subM, leV, inns, innr, V.inn, us, true_or, or_true] <;> (simp)) (by simp only [go_sem, seval, hw, sR_len, sR_pure, sC_eq, subM, leV, inns, innr, V.inn, us, true_or, or_true]) (by simp only [go_sem, seval, hw, sR_len, sR_pure, sC_eq, subM, leV, inns, innr, V.inn, us, true_or, or_true]))
    refine AWp.seq ?_
    refine AWp.seq ?_
    refine AWp.rgn [] (by simp only [go_sem, seval, hw, sR_len, sR_pure, sC_eq]; rfl) ?_ ?_
    · (first | trivial | (simp; done))
    refine AWp.condB (by simp only [go_sem, seval, hw, sR_len, sR_pure, sC_eq]; rfl) (by simp only [go_sem, seval, hw, sR_len, sR_pure, sC_eq]) (fun h15 => ?_) (fun h15 => ?_)
    · refine AWp.skip ?_
      refine AWp.seq ?_
      refine AWp.block ?_
      refine AWp.seq ?_
      refine AWp.rgn [callI (k.1 < l.length ∧ 0 ≤ k.2 ∧ k.2 ≤ 1048576) (fun h => szStmt_a (l.getD k.1 S0) (hb _ (getD_mem h.1)) k.2 h.2.1 h.2.2)] (by simp only [go_sem, seval, hw, sR_len, sR_pure, sC_eq, sR_get (show k.1 < l.length by simpa using h15)]; rfl) ?_ ?_
      · simp only [decide_eq_true_eq] at h15; simp; omega
      refine AWp.seq ?_
      refine AWp.rgn [] (by simp only [go_sem, seval, hw, sR_len, sR_pure, sC_eq]; rfl) ?_ ?_
      · (first | trivial | (simp; done))
      refine AWp.condB (by simp only [go_sem, seval, hw, sR_len, sR_pure, sC_eq]; rfl) (by simp only [go_sem, seval, hw, sR_len, sR_pure, sC_eq]) (fun h25 => ?_) (fun h25 => ?_)
      · refine AWp.seq ?_
        refine AWp.rgn [] (by simp only [go_sem, seval, hw, sR_len, sR_pure, sC_eq]; rfl) ?_ ?_
        · (first | trivial | (simp; done))
        refine AWp.ret (And.intro (.inr rfl) ?_)
        exact Out.plain (by simp only [Tryz.results45]; rfl) (by simp only [resCs, resC, go_sem, seval, hw, sR_len, sR_pure, sC_eq] <;> (split <;> rfl)) (by simp only [resV, go_sem, seval, hw, sR_len, sR_pure, sC_eq] <;> (simp at h15; simp only [decide_eq_true_eq] at h25; have e1 := szSr_step h15 k.2; rw [if_pos h25] at e1; rw [hI.2.2.2, e1])) (by simp only [go_sem, seval, hw, sR_len, sR_pure, sC_eq])
      · refine AWp.skip ?_
        refine AWp.rgn [] (by simp only [go_sem, seval, hw, sR_len, sR_pure, sC_eq]; rfl) ?_ ?_
        · (first | trivial | (simp; done))
        refine Exists.intro ((k.1 + 1, szS (l.getD k.1 S0) k.2)) ⟨?_, ?_, ?_⟩
        · simp at h15; simp only [decide_eq_false_iff_not] at h25; have e1 := szSr_step h15 k.2; have e2 := szS_le (l.getD k.1 S0) k.2 (by omega); rw [if_neg (by omega)] at e1; exact ⟨by dsimp only; omega, by dsimp only; omega, by dsimp only; omega, by rw [hI.2.2.2, e1]⟩
        · simp at h15; simp; omega
        exact Can.weak (Weak.lit (by simp only [go_sem, seval, hw, sR_len, sR_pure, sC_eq, subM, leV, inns, innr, V.inn, us, true_or, or_true] <;> (rw [wrap64 (by simp at h15; omega) (by simp at h15; omega)]; simp)) (by simp only [go_sem, seval, hw, sR_len, sR_pure, sC_eq, subM, leV, inns, innr, V.inn, us, true_or, or_true]) (by simp only [go_sem, seval, hw, sR_len, sR_pure, sC_eq, subM, leV, inns, innr, V.inn, us, true_or, or_true]))
    · refine AWp.exit ?_
      refine AWp.seq ?_
      refine AWp.rgn [] (by simp only [go_sem, seval, hw, sR_len, sR_pure, sC_eq]; rfl) ?_ ?_
      · (first | trivial | (simp; done))
      refine AWp.ret (And.intro (.inr rfl) ?_)
      exact Out.plain (by simp only [Tryz.results45]; rfl) (by simp only [resCs, resC, go_sem, seval, hw, sR_len, sR_pure, sC_eq] <;> (split <;> rfl)) (by simp only [resV, go_sem, seval, hw, sR_len, sR_pure, sC_eq] <;> (simp at h15; rw [hI.2.2.2, List.drop_of_length_le h15]; rfl)) (by simp only [go_sem, seval, hw, sR_len, sR_pure, sC_eq])
def z11 : List V := [.i .i64 0, .s [], .s [], .i .i64 0, .i .i64 0, .s [], .sl true [], .i .i64 0, .i .i64 0, .s [], .sl true []]
theorem fil11 (l : List Sl) (k j : Nat) : ((filR (sR l) z11 k).getD j []).drop 11 = [] := by
  rw [List.getD_eq_getElem?_getD]
  cases h : (filR (sR l) z11 k)[j]? with
  | none => rfl
  | some r =>
    have hm := List.mem_of_getElem? h
    have : r.length = 11 := by
      rcases filR_mem hm with hm | rfl
      · obtain ⟨s, _, rfl⟩ := List.mem_map.1 hm; exact sC_len s
      · rfl
    simp only [Option.getD_some]; exact List.drop_of_length_le (by omega)
theorem toStmtS_a (l : List Sl) (hs : allS l = true) (hl : l.length ≤ 1048576) : ACall En 47 [.sl false (sR l)] [] [.sl false (sR l)] [] := by
  have hp : ∀ k, purer (filR (sR l) z11 k) = true := fun k => filR_pure (sR_pure _) rfl
  refine acall_of_body (fn := Tryz.f47) [] Tryz.func47 rfl rfl (by simp) fun C => ?_
  rw [entry_eq]
  simp only [Tryz.ntmps47, List.length_cons, List.length_nil, Nat.reduceAdd, Nat.reduceSub, List.replicate_succ, List.replicate_zero, List.cons_append, List.nil_append, numL]
  refine AWp.seq ?_
  refine AWp.rgn [] (by simp only [go_sem, seval, hp, fil11, filR_len, sR_len, sC_eq, sR_pure]; rfl) ?_ ?_
  · (first | trivial | (simp; done))
  refine AWp.seq ?_
  refine AWp.rgn [] (by simp only [go_sem, seval, hp, fil11, filR_len, sR_len, sC_eq, sR_pure]; rfl) ?_ ?_
  · simp; omega
  refine AWp.seq ?_
  refine AWp.seq ?_
  refine AWp.rgn [] (by simp only [go_sem, seval, hp, fil11, filR_len, sR_len, sC_eq, sR_pure]; rfl) ?_ ?_
  · (first | trivial | (simp; done))
  refine AWp.block ?_
  refine AWp.loopK (fun k : Nat => ⟨[.sl false (sR l), .no, .no, .ow 17 11 0 l.length, .i .i64 k, .no, .no, .no, .no, .no, .no, .no, .no, .no, .no, .no, .no, .no, .no, .no, .no, .no, .no], memOf [(17, ⟨42, 11, filR (sR l) z11 k⟩)], us [17]⟩) (fun k : Nat => k ≤ l.length) (fun k : Nat => l.length - k) (0) ?_ ?_ (fun k hI => ?_)
  · simp
  · exact Can.weak (Weak.lit (by simp only [go_sem, seval, hp, fil11, filR_len, sR_len, sC_eq, sR_pure, subM, leV, inns, innr, V.inn, us, true_or, or_true] <;> (simp)) (by simp only [go_sem, seval, hp, fil11, filR_len, sR_len, sC_eq, sR_pure, subM, leV, inns, innr, V.inn, us, true_or, or_true]) (by simp only [go_sem, seval, hp, fil11, filR_len, sR_len, sC_eq, sR_pure, subM, leV, inns, innr, V.inn, us, true_or, or_true] <;> (simp [filR_zero, z11, sR_len])))
  refine AWp.seq ?_
  refine AWp.seq ?_
  refine AWp.rgn [] (by simp only [go_sem, seval, hp, fil11, filR_len, sR_len, sC_eq, sR_pure]; rfl) ?_ ?_
  · (first | trivial | (simp; done))
  refine AWp.condB (by simp only [go_sem, seval, hp, fil11, filR_len, sR_len, sC_eq, sR_pure]; rfl) (by simp only [go_sem, seval, hp, fil11, filR_len, sR_len, sC_eq, sR_pure]) (fun h11 => ?_) (fun h11 => ?_)
  · refine AWp.skip ?_
    refine AWp.seq ?_
    refine AWp.block ?_
    refine AWp.rgn [callI (k < l.length) (fun h => toStmt_a (l.getD k S0) (allS_at hs h))] (by simp only [go_sem, seval, hp, fil11, filR_len, sR_len, sC_eq, sR_pure, sR_get (show k < l.length by simpa using h11)]; rfl) ?_ ?_
    · simp only [decide_eq_true_eq] at h11; simp; omega
    refine AWp.rgn [] (by simp only [go_sem, seval, hp, fil11, filR_len, sR_len, sC_eq, sR_pure]; rfl) ?_ ?_
    · (first | trivial | (simp; done))
    refine Exists.intro (k + 1) ⟨?_, ?_, ?_⟩
    · simp at h11; omega
    · simp at h11; omega
    exact Can.weak (Weak.lit (by simp only [go_sem, seval, hp, fil11, filR_len, sR_len, sC_eq, sR_pure, subM, leV, inns, innr, V.inn, us, true_or, or_true] <;> (rw [wrap64 (by simp at h11; omega) (by simp at h11; omega)]; simp)) (by simp only [go_sem, seval, hp, fil11, filR_len, sR_len, sC_eq, sR_pure, subM, leV, inns, innr, V.inn, us, true_or, or_true]) (by simp only [go_sem, seval, hp, fil11, filR_len, sR_len, sC_eq, sR_pure, subM, leV, inns, innr, V.inn, us, true_or, or_true] <;> (rw [← filR_set (by rw [sR_len]; simpa using h11), sR_get (by simpa using h11), sC_eq])))
  · refine AWp.exit ?_
    refine AWp.seq ?_
    refine AWp.rgn [] (by simp only [go_sem, seval, hp, fil11, filR_len, sR_len, sC_eq, sR_pure]; rfl) ?_ ?_
    · (first | trivial | (simp; done))
    refine AWp.frz 17 (by simp only [go_sem, seval, hp, fil11, filR_len, sR_len, sC_eq, sR_pure]; rfl) (by simp only [go_sem, seval, hp, fil11, filR_len, sR_len, sC_eq, sR_pure]) (by simp only [go_sem, seval, hp, fil11, filR_len, sR_len, sC_eq, sR_pure]; rfl) (by simp only [go_sem, seval, hp, fil11, filR_len, sR_len, sC_eq, sR_pure]; rfl) ?_
    refine AWp.ret (And.intro (.inr rfl) ?_)
    exact Out.plain (by simp only [Tryz.results47]; rfl) (by simp only [resCs, resC, go_sem, seval, hp, fil11, filR_len, sR_len, sC_eq, sR_pure] <;> (split <;> rfl)) (by simp only [resV, go_sem, seval, hp, fil11, filR_len, sR_len, sC_eq, sR_pure] <;> (simp at h11; rw [filR_end (by simpa [sR_len] using h11)]; simp [List.take_of_length_le, peel, sR_len])) (by simp only [go_sem, seval, hp, fil11, filR_len, sR_len, sC_eq, sR_pure])
def ssames (a b : List Sl) : Bool := decide (a.length = b.length) && (a.zip b).all fun q => ssame q.1 q.2
theorem ssames_refl (a : List Sl) : ssames a a = true := by
  simp only [ssames, decide_true, Bool.true_and, List.all_eq_true]
  intro q hq
  obtain ⟨j, hj⟩ := List.mem_iff_getElem?.1 hq
  rw [List.getElem?_zip_eq_some] at hj
  have : q.1 = q.2 := by rw [hj.1] at hj; exact Option.some.inj hj.2
  rw [this]; exact ssame_refl _
theorem zipS_take {a b : List Sl} {k : Nat} (f : Sl × Sl → Bool) (ha : k < a.length) (hb : k < b.length) : ((a.zip b).take (k + 1)).all f = (((a.zip b).take k).all f && f (a.getD k S0, b.getD k S0)) := by
  have h : k < (a.zip b).length := by rw [List.length_zip]; omega
  rw [List.take_add_one, List.getElem?_eq_getElem h, List.all_append]
  simp [List.getD_eq_getElem?_getD, List.getElem?_eq_getElem ha, List.getElem?_eq_getElem hb]
theorem zipS_bad {a b : List Sl} {k : Nat} (f : Sl × Sl → Bool) (ha : k < a.length) (hb : k < b.length) (h : f (a.getD k S0, b.getD k S0) = false) : (a.zip b).all f = false := by
  rw [List.all_eq_false]
  refine ⟨(a.getD k S0, b.getD k S0), ?_, by rw [h]; simp⟩
  refine List.mem_iff_getElem?.2 ⟨k, ?_⟩
  rw [List.getElem?_zip_eq_some]
  simp [List.getD_eq_getElem?_getD, List.getElem?_eq_getElem ha, List.getElem?_eq_getElem hb]
theorem eqStmtS_a (a b : List Sl) (ha : allS a = true) (hb : allS b = true) (la : a.length ≤ 1048576) (lb : b.length ≤ 1048576) : ACall En 49 [.sl false (sR a), .sl false (sR b)] [] [.b (ssames a b)] [] := by
  refine acall_of_body (fn := Tryz.f49) [] Tryz.func49 rfl rfl (by simp) fun C => ?_
  rw [entry_eq]
  simp only [Tryz.ntmps49, List.length_cons, List.length_nil, Nat.reduceAdd, Nat.reduceSub, List.replicate_succ, List.replicate_zero, List.cons_append, List.nil_append, numL]
  refine AWp.seq ?_
  refine AWp.rgn [] (by simp only [go_sem, seval, sR_len, sR_pure, sC_eq]; rfl) ?_ ?_
  · (first | trivial | (simp; done))
  refine AWp.seq ?_
  refine AWp.seq ?_
  refine AWp.rgn [] (by simp only [go_sem, seval, sR_len, sR_pure, sC_eq]; rfl) ?_ ?_
  · (first | trivial | (simp; done))
  refine AWp.condB (by simp only [go_sem, seval, sR_len, sR_pure, sC_eq]; rfl) (by simp only [go_sem, seval, sR_len, sR_pure, sC_eq]) (fun h10 => ?_) (fun h10 => ?_)
  · refine AWp.seq ?_
    refine AWp.rgn [] (by simp only [go_sem, seval, sR_len, sR_pure, sC_eq]; rfl) ?_ ?_
    · (first | trivial | (simp; done))
    refine AWp.ret (And.intro (.inr rfl) ?_)
    exact Out.plain (by simp only [Tryz.results49]; rfl) (by simp only [resCs, resC, go_sem, seval, sR_len, sR_pure, sC_eq] <;> (split <;> rfl)) (by simp only [resV, go_sem, seval, sR_len, sR_pure, sC_eq] <;> (simp at h10; have h : ¬ a.length = b.length := (by omega); simp [ssames, h])) (by simp only [go_sem, seval, sR_len, sR_pure, sC_eq])
  · refine AWp.skip ?_
    refine AWp.seq ?_
    refine AWp.seq ?_
    refine AWp.rgn [] (by simp only [go_sem, seval, sR_len, sR_pure, sC_eq]; rfl) ?_ ?_
    · (first | trivial | (simp; done))
    refine AWp.block ?_
    refine AWp.loopK (fun k : Nat => ⟨[.sl false (sR a), .sl false (sR b), .no, .no, .no, .i .i64 k, .no, .no, .no, .no, .no, .no, .no, .no, .no, .no, .no, .no, .no, .no, .no, .no, .no, .no, .no, .no, .no], memOf [], us []⟩) (fun k : Nat => k ≤ a.length ∧ ((a.zip b).take k).all (fun q => ssame q.1 q.2) = true) (fun k : Nat => a.length - k) (0) ?_ ?_ (fun k hI => ?_)
    · simp
    · exact Can.weak (Weak.lit (by simp only [go_sem, seval, sR_len, sR_pure, sC_eq, subM, leV, inns, innr, V.inn, us, true_or, or_true] <;> (simp)) (by simp only [go_sem, seval, sR_len, sR_pure, sC_eq, subM, leV, inns, innr, V.inn, us, true_or, or_true]) (by simp only [go_sem, seval, sR_len, sR_pure, sC_eq, subM, leV, inns, innr, V.inn, us, true_or, or_true]))
    refine AWp.seq ?_
    refine AWp.seq ?_
    refine AWp.rgn [] (by simp only [go_sem, seval, sR_len, sR_pure, sC_eq]; rfl) ?_ ?_
    · (first | trivial | (simp; done))
    refine AWp.condB (by simp only [go_sem, seval, sR_len, sR_pure, sC_eq]; rfl) (by simp only [go_sem, seval, sR_len, sR_pure, sC_eq]) (fun h14 => ?_) (fun h14 => ?_)
    · refine AWp.skip ?_
      refine AWp.seq ?_
      refine AWp.block ?_
      refine AWp.seq ?_
      refine AWp.rgnD [callI (k < a.length ∧ k < b.length) (fun h => eqStmt_a (a.getD k S0) (b.getD k S0) (allS_at ha h.1) (allS_at hb h.2))] enM (by simp only [go_sem, seval, sR_len, sR_pure, sC_eq, sR_get (show k < a.length by simpa using h14), sR_get (show k < b.length by simp at h14 h10; omega)]; rfl) (by rfl) ?_ ?_
      · simp at h14 h10; simp; omega
      refine AWp.condB (by simp only [go_sem, seval, sR_len, sR_pure, sC_eq]; rfl) (by simp only [go_sem, seval, sR_len, sR_pure, sC_eq]) (fun h26 => ?_) (fun h26 => ?_)
      · refine AWp.seq ?_
        refine AWp.rgn [] (by simp only [go_sem, seval, sR_len, sR_pure, sC_eq]; rfl) ?_ ?_
        · (first | trivial | (simp; done))
        refine AWp.ret (And.intro (.inr rfl) ?_)
        exact Out.plain (by simp only [Tryz.results49]; rfl) (by simp only [resCs, resC, go_sem, seval, sR_len, sR_pure, sC_eq] <;> (split <;> rfl)) (by simp only [resV, go_sem, seval, sR_len, sR_pure, sC_eq] <;> (simp at h14 h10; simp only [Bool.not_eq_true'] at h26; have := zipS_bad (fun q => ssame q.1 q.2) h14 (show k < b.length by omega) h26; simp [ssames, this])) (by simp only [go_sem, seval, sR_len, sR_pure, sC_eq])
      · refine AWp.skip ?_
        refine AWp.rgn [] (by simp only [go_sem, seval, sR_len, sR_pure, sC_eq]; rfl) ?_ ?_
        · (first | trivial | (simp; done))
        refine Exists.intro (k + 1) ⟨?_, ?_, ?_⟩
        · simp at h14 h10; have hb := zipS_take (fun q => ssame q.1 q.2) h14 (show k < b.length by omega); simp only [Bool.not_eq_false'] at h26; exact ⟨by omega, by rw [hb, hI.2, h26]; rfl⟩
        · simp at h14; omega
        exact Can.weak (Weak.lit (by simp only [go_sem, seval, sR_len, sR_pure, sC_eq, subM, leV, inns, innr, V.inn, us, true_or, or_true] <;> (rw [wrap64 (by simp at h14; omega) (by simp at h14; omega)]; simp)) (by simp only [go_sem, seval, sR_len, sR_pure, sC_eq, subM, leV, inns, innr, V.inn, us, true_or, or_true]) (by simp only [go_sem, seval, sR_len, sR_pure, sC_eq, subM, leV, inns, innr, V.inn, us, true_or, or_true]))
    · refine AWp.exit ?_
      refine AWp.seq ?_
      refine AWp.rgn [] (by simp only [go_sem, seval, sR_len, sR_pure, sC_eq]; rfl) ?_ ?_
      · (first | trivial | (simp; done))
      refine AWp.ret (And.intro (.inr rfl) ?_)
      exact Out.plain (by simp only [Tryz.results49]; rfl) (by simp only [resCs, resC, go_sem, seval, sR_len, sR_pure, sC_eq] <;> (split <;> rfl)) (by simp only [resV, go_sem, seval, sR_len, sR_pure, sC_eq] <;> (simp at h14 h10; have h0 := hI.2; rw [List.take_of_length_le (by rw [List.length_zip]; omega)] at h0; have h : a.length = b.length := (by omega); simp [ssames, h, h0])) (by simp only [go_sem, seval, sR_len, sR_pure, sC_eq])
end Go.Proofs.YthljacdbmhonfaaGreatDoor
end

section
namespace Go.Proofs.YthljacdbmhonfaaGreatDoor
open Go.ChangeShapes Go.WideShapes Go.ChangeAt Go.RowKit
set_option maxRecDepth 100000

section
variable {H : Type} {enc : TypeId × Value → H} {W : World}
theorem cellsLS : Tryz.prog.cellsOf 58 = 11 := by kernel_rfl
theorem sC_ones (s : Sl) : (sC s).all V.one = true := by rw [sC_eq]; rfl
theorem opn_stmt : ∀ fuel, Opn enc Tryz.prog W fuel 58 fun vs => ∃ s, vs = sC s ∧ bdS s = true := by
  intro fuel cs x h
  obtain ⟨hl, _, ⟨k, rfl, _⟩, u0, o0⟩ := opn_piece Tryz.underlying58 h (i := 0) rfl rfl cellsInt fun n _ => opn_int Tryz.underlying3
  obtain ⟨_, _, ⟨s, rfl, hs⟩, u1, o1⟩ := opn_piece Tryz.underlying58 h (i := 1) rfl rfl cellsStr fun n _ => opn_str Tryz.underlying9
  obtain ⟨_, _, ⟨t, rfl, ht⟩, u2, o2⟩ := opn_piece Tryz.underlying58 h (i := 2) rfl rfl cellsStr fun n _ => opn_str Tryz.underlying9
  obtain ⟨_, _, ⟨e1, rfl, b1⟩, u3, o3⟩ := opn_piece Tryz.underlying58 h (i := 3) rfl rfl cellsLE fun n _ => opn_expr n
  obtain ⟨_, _, ⟨e2, rfl, b2⟩, u4, o4⟩ := opn_piece Tryz.underlying58 h (i := 4) rfl rfl cellsLE fun n _ => opn_expr n
  rw [cellsLS] at hl
  have hm : maxLen = 9223372036854775807 := by decide
  refine ⟨_, ⟨⟨k, s, t, e1, e2⟩, rfl, by simp only [bdS, b1, b2, Bool.and_true, Bool.and_eq_true, decide_eq_true_eq]; omega⟩, ?_, sC_ones _⟩
  have := vrs_piece u0 rfl (vrs_piece u1 rfl (vrs_piece u2 rfl (vrs_piece u3 rfl (vrs_last u4 hl))))
  simpa [sC] using this
theorem stmt_arg {r : Reach} {base : Nat} {v0 : Value} {d0 : DataW H} {p : List MemPlace} (hv : Value.okWide Tryz.prog W r base 58 v0) (h0 : DataW.Trod enc Tryz.prog W 0 (fun _ => true) true 58 v0 d0 p) :
    ∃ s : Sl, bdS s = true ∧ VR (fun _ => none) (fun _ => True) W (.ag (sC s)) v0 := by
  obtain ⟨fuel, h⟩ := h0
  obtain ⟨_, ⟨s, rfl, hs⟩, hr, _⟩ := opn_stmt fuel _ _ h
  obtain ⟨xs, rfl, _⟩ := okWide_struct Tryz.underlying58 hv
  refine ⟨s, hs, ?_⟩
  simp only [VR]
  exact ⟨xs, rfl, by simpa [Value.cells] using hr⟩
theorem stmts_arg {r : Reach} {base : Nat} {v0 : Value} {d0 : DataW H} {p : List MemPlace} (hv : Value.okWide Tryz.prog W r base 67 v0) (h0 : DataW.Trod enc Tryz.prog W 0 (fun _ => true) true 67 v0 d0 p) :
    ∃ l : List Sl, ((∀ s ∈ l, bdS s = true) ∧ l.length ≤ 9223372036854775807) ∧ VR (fun _ => none) (fun _ => True) W (.sl false (sR l)) v0 := by
  obtain ⟨a0, len, cap, rfl⟩ := okWide_slice Tryz.underlying67 hv
  obtain ⟨fuel, h⟩ := h0
  obtain ⟨_, ⟨l, rfl, hlen, hg⟩, hr, _⟩ := opn_slice sC (fun s => bdS s = true) Tryz.underlying67 cellsLS (by decide) (fun n _ => opn_stmt n) _ _ h
  have hm : maxLen = 9223372036854775807 := by decide
  refine ⟨l, ⟨hg, by omega⟩, ?_⟩
  simp only [VRs] at hr
  obtain ⟨x, q, e1, hx, rfl⟩ := hr
  simp [Value.cells] at e1
  rw [e1]; exact hx
end
end Go.Proofs.YthljacdbmhonfaaGreatDoor
end
