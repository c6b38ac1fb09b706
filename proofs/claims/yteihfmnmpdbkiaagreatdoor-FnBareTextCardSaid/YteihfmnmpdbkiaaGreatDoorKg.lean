/- Parts of the proof, one after another: What the leaves answer. | Runs and names. | Lists of texts that are searched; names. | Sameness of expressions. | Sameness of expressions, the program's. | Names. | The reference's: of the right form, how many parts, ok. | The program's walk, and ExprOk. Conditions: none. -/
import Derived.Test.YteihfmnmpdbkiaaGreatDoorKe
import Derived.Test.YteihfmnmpdbkiaaGreatDoorKc
set_option linter.unusedVariables false
set_option linter.unusedSimpArgs false
namespace Go.Proofs.YteihfmnmpdbkiaaGreatDoor
section
set_option maxRecDepth 100000
set_option maxHeartbeats 4000000

theorem in_a (n lo hi : Int) : ACall En 104 [.i .i64 n, .i .i64 lo, .i .i64 hi] [] [.b (decide (lo ≤ n) && decide (n ≤ hi))] [] := by
  refine acall_of_body (fn := Tryz.f104) [] Tryz.func104 rfl rfl (by simp) fun C => ?_
  rw [entry_eq]
  simp only [Tryz.ntmps104, List.length_cons, List.length_nil, Nat.reduceAdd, Nat.reduceSub, List.replicate_succ, List.replicate_zero, List.cons_append, List.nil_append, numL]
  refine AWp.seq ?_
  refine AWp.rgn [] (by simp only [go_sem, seval]; rfl) ?_ ?_
  · first | trivial | simp
  refine AWp.seq ?_
  refine AWp.rgn [] (by simp only [go_sem, seval]; rfl) ?_ ?_
  · first | trivial | simp
  refine AWp.ret (And.intro (.inr rfl) ?_)
  exact Out.plain (by simp only [Tryz.results104]; rfl) (by simp only [resCs, resC, go_sem, seval] <;> (split <;> rfl)) (by simp only [resV, go_sem, seval] <;> (rfl)) (by simp only [go_sem, seval])
theorem isLetter_a (c : UInt8) : ACall En 90 [.i .u8 c.toNat] [] [.b (lower c)] [] := by
  refine acall_of_body (fn := Tryz.f90) [] Tryz.func90 rfl rfl (by simp) fun C => ?_
  rw [entry_eq]
  simp only [Tryz.ntmps90, List.length_cons, List.length_nil, Nat.reduceAdd, Nat.reduceSub, List.replicate_succ, List.replicate_zero, List.cons_append, List.nil_append, numL]
  refine AWp.seq ?_
  refine AWp.rgn [] (by simp only [go_sem, seval]; rfl) ?_ ?_
  · first | trivial | simp
  refine AWp.seq ?_
  refine AWp.rgn [] (by simp only [go_sem, seval]; rfl) ?_ ?_
  · first | trivial | simp
  refine AWp.ret (And.intro (.inr rfl) ?_)
  exact Out.plain (by simp only [Tryz.results90]; rfl) (by simp only [resCs, resC, go_sem, seval] <;> (split <;> rfl)) (by simp only [resV, go_sem, seval] <;> (simp only [lower])) (by simp only [go_sem, seval])
theorem isDigit_a (c : UInt8) : ACall En 91 [.i .u8 c.toNat] [] [.b (digit c)] [] := by
  refine acall_of_body (fn := Tryz.f91) [] Tryz.func91 rfl rfl (by simp) fun C => ?_
  rw [entry_eq]
  simp only [Tryz.ntmps91, List.length_cons, List.length_nil, Nat.reduceAdd, Nat.reduceSub, List.replicate_succ, List.replicate_zero, List.cons_append, List.nil_append, numL]
  refine AWp.seq ?_
  refine AWp.rgn [] (by simp only [go_sem, seval]; rfl) ?_ ?_
  · first | trivial | simp
  refine AWp.seq ?_
  refine AWp.rgn [] (by simp only [go_sem, seval]; rfl) ?_ ?_
  · first | trivial | simp
  refine AWp.ret (And.intro (.inr rfl) ?_)
  exact Out.plain (by simp only [Tryz.results91]; rfl) (by simp only [resCs, resC, go_sem, seval] <;> (split <;> rfl)) (by simp only [resV, go_sem, seval] <;> (simp only [digit])) (by simp only [go_sem, seval])
theorem isType_a (s : Str) : ACall En 138 [.s s] [] [.b (isTyp s)] [] := by
  refine acall_of_body (fn := Tryz.f138) [] Tryz.func138 rfl rfl (by simp) fun C => ?_
  rw [entry_eq]
  simp only [Tryz.ntmps138, List.length_cons, List.length_nil, Nat.reduceAdd, Nat.reduceSub, List.replicate_succ, List.replicate_zero, List.cons_append, List.nil_append, numL]
  refine AWp.seq ?_
  refine AWp.rgn [] (by simp only [go_sem, seval]; rfl) ?_ ?_
  · first | trivial | simp
  refine AWp.seq ?_
  refine AWp.rgn [] (by simp only [go_sem, seval]; rfl) ?_ ?_
  · first | trivial | simp
  refine AWp.ret (And.intro (.inr rfl) ?_)
  exact Out.plain (by simp only [Tryz.results138]; rfl) (by simp only [resCs, resC, go_sem, seval] <;> (split <;> rfl)) (by simp only [resV, go_sem, seval] <;> (simp only [isTyp])) (by simp only [go_sem, seval])
theorem tightness_a (s : Str) : ACall En 211 [.s s] [] [.i .i64 (tight s)] [] := by
  refine acall_of_body (fn := Tryz.f211) [] Tryz.func211 rfl rfl (by simp) fun C => ?_
  rw [entry_eq]
  simp only [Tryz.ntmps211, List.length_cons, List.length_nil, Nat.reduceAdd, Nat.reduceSub, List.replicate_succ, List.replicate_zero, List.cons_append, List.nil_append, numL]
  refine AWp.seq ?_
  refine AWp.rgn [] (by simp only [go_sem, seval]; rfl) ?_ ?_
  · first | trivial | simp
  refine AWp.seq ?_
  refine AWp.seq ?_
  refine AWp.rgn [] (by simp only [go_sem, seval]; rfl) ?_ ?_
  · first | trivial | simp
  refine AWp.block ?_
  refine AWp.seq ?_
  refine AWp.rgn [] (by simp only [go_sem, seval]; rfl) ?_ ?_
  · first | trivial | simp
  refine AWp.condB (by simp only [go_sem, seval]; rfl) (by simp only [go_sem, seval]) (fun h4 => ?_) (fun h4 => ?_)
  · refine AWp.seq ?_
    refine AWp.rgn [] (by simp only [go_sem, seval]; rfl) ?_ ?_
    · first | trivial | simp
    refine AWp.ret (And.intro (.inr rfl) ?_)
    exact Out.plain (by simp only [Tryz.results211]; rfl) (by simp only [resCs, resC, go_sem, seval] <;> (split <;> rfl)) (by simp only [resV, go_sem, seval] <;> (simp only [tight]; simp_all)) (by simp only [go_sem, seval])
  · refine AWp.seq ?_
    refine AWp.seq ?_
    refine AWp.rgn [] (by simp only [go_sem, seval]; rfl) ?_ ?_
    · first | trivial | simp
    refine AWp.condB (by simp only [go_sem, seval]; rfl) (by simp only [go_sem, seval]) (fun h6 => ?_) (fun h6 => ?_)
    · refine AWp.skip ?_
      refine AWp.condB (by simp only [go_sem, seval]; rfl) (by simp only [go_sem, seval]) (fun h6 => ?_) (fun h6 => ?_)
      · refine AWp.seq ?_
        refine AWp.rgn [] (by simp only [go_sem, seval]; rfl) ?_ ?_
        · first | trivial | simp
        refine AWp.ret (And.intro (.inr rfl) ?_)
        exact Out.plain (by simp only [Tryz.results211]; rfl) (by simp only [resCs, resC, go_sem, seval] <;> (split <;> rfl)) (by simp only [resV, go_sem, seval] <;> (simp only [tight]; simp_all)) (by simp only [go_sem, seval])
      · refine AWp.seq ?_
        refine AWp.rgn [] (by simp only [go_sem, seval]; rfl) ?_ ?_
        · first | trivial | simp
        refine AWp.condB (by simp only [go_sem, seval]; rfl) (by simp only [go_sem, seval]) (fun h9 => ?_) (fun h9 => ?_)
        · refine AWp.seq ?_
          refine AWp.rgn [] (by simp only [go_sem, seval]; rfl) ?_ ?_
          · first | trivial | simp
          refine AWp.ret (And.intro (.inr rfl) ?_)
          exact Out.plain (by simp only [Tryz.results211]; rfl) (by simp only [resCs, resC, go_sem, seval] <;> (split <;> rfl)) (by simp only [resV, go_sem, seval] <;> (simp only [tight]; simp_all)) (by simp only [go_sem, seval])
        · refine AWp.skip ?_
          refine AWp.seq ?_
          refine AWp.rgn [] (by simp only [go_sem, seval]; rfl) ?_ ?_
          · first | trivial | simp
          refine AWp.ret (And.intro (.inr rfl) ?_)
          exact Out.plain (by simp only [Tryz.results211]; rfl) (by simp only [resCs, resC, go_sem, seval] <;> (split <;> rfl)) (by simp only [resV, go_sem, seval] <;> (simp only [tight]; simp_all)) (by simp only [go_sem, seval])
    · refine AWp.rgn [] (by simp only [go_sem, seval]; rfl) ?_ ?_
      · first | trivial | simp
      refine AWp.condB (by simp only [go_sem, seval]; rfl) (by simp only [go_sem, seval]) (fun h6 => ?_) (fun h6 => ?_)
      · refine AWp.seq ?_
        refine AWp.rgn [] (by simp only [go_sem, seval]; rfl) ?_ ?_
        · first | trivial | simp
        refine AWp.ret (And.intro (.inr rfl) ?_)
        exact Out.plain (by simp only [Tryz.results211]; rfl) (by simp only [resCs, resC, go_sem, seval] <;> (split <;> rfl)) (by simp only [resV, go_sem, seval] <;> (simp only [tight]; simp_all)) (by simp only [go_sem, seval])
      · refine AWp.seq ?_
        refine AWp.rgn [] (by simp only [go_sem, seval]; rfl) ?_ ?_
        · first | trivial | simp
        refine AWp.condB (by simp only [go_sem, seval]; rfl) (by simp only [go_sem, seval]) (fun h9 => ?_) (fun h9 => ?_)
        · refine AWp.seq ?_
          refine AWp.rgn [] (by simp only [go_sem, seval]; rfl) ?_ ?_
          · first | trivial | simp
          refine AWp.ret (And.intro (.inr rfl) ?_)
          exact Out.plain (by simp only [Tryz.results211]; rfl) (by simp only [resCs, resC, go_sem, seval] <;> (split <;> rfl)) (by simp only [resV, go_sem, seval] <;> (simp only [tight]; simp_all)) (by simp only [go_sem, seval])
        · refine AWp.skip ?_
          refine AWp.seq ?_
          refine AWp.rgn [] (by simp only [go_sem, seval]; rfl) ?_ ?_
          · first | trivial | simp
          refine AWp.ret (And.intro (.inr rfl) ?_)
          exact Out.plain (by simp only [Tryz.results211]; rfl) (by simp only [resCs, resC, go_sem, seval] <;> (split <;> rfl)) (by simp only [resV, go_sem, seval] <;> (simp only [tight]; simp_all)) (by simp only [go_sem, seval])
theorem l4Type_a (s : Str) : ACall En 83 [.s s] [] [.b (isTyp s)] [] := by
  refine acall_of_body (fn := Tryz.f83) [] Tryz.func83 rfl rfl (by simp) fun C => ?_
  rw [entry_eq]
  simp only [Tryz.ntmps83, List.length_cons, List.length_nil, Nat.reduceAdd, Nat.reduceSub, List.replicate_succ, List.replicate_zero, List.cons_append, List.nil_append, numL]
  refine AWp.seq ?_
  refine AWp.rgn [] (by simp only [go_sem, seval]; rfl) ?_ ?_
  · first | trivial | simp
  refine AWp.seq ?_
  refine AWp.rgn [] (by simp only [go_sem, seval]; rfl) ?_ ?_
  · first | trivial | simp
  refine AWp.ret (And.intro (.inr rfl) ?_)
  exact Out.plain (by simp only [Tryz.results83]; rfl) (by simp only [resCs, resC, go_sem, seval] <;> (split <;> rfl)) (by simp only [resV, go_sem, seval] <;> (simp only [isTyp])) (by simp only [go_sem, seval])
theorem l4Op_a (s : Str) : ACall En 192 [.s s] [] [.b (isOp s)] [] := by
  refine acall_of_body (fn := Tryz.f192) [] Tryz.func192 rfl rfl (by simp) fun C => ?_
  rw [entry_eq]
  simp only [Tryz.ntmps192, List.length_cons, List.length_nil, Nat.reduceAdd, Nat.reduceSub, List.replicate_succ, List.replicate_zero, List.cons_append, List.nil_append, numL]
  refine AWp.seq ?_
  refine AWp.rgn [] (by simp only [go_sem, seval]; rfl) ?_ ?_
  · first | trivial | simp
  refine AWp.seq ?_
  refine AWp.rgn [] (by simp only [go_sem, seval]; rfl) ?_ ?_
  · first | trivial | simp
  refine AWp.ret (And.intro (.inr rfl) ?_)
  exact Out.plain (by simp only [Tryz.results192]; rfl) (by simp only [resCs, resC, go_sem, seval] <;> (split <;> rfl)) (by simp only [resV, go_sem, seval] <;> (simp only [isOp])) (by simp only [go_sem, seval])
theorem l4Held_a (s : Str) : ACall En 150 [.s s] [] [.b (held s)] [] := by
  refine acall_of_body (fn := Tryz.f150) [] Tryz.func150 rfl rfl (by simp) fun C => ?_
  rw [entry_eq]
  simp only [Tryz.ntmps150, List.length_cons, List.length_nil, Nat.reduceAdd, Nat.reduceSub, List.replicate_succ, List.replicate_zero, List.cons_append, List.nil_append, numL]
  refine AWp.seq ?_
  refine AWp.rgn [] (by simp (maxSteps := 1000000) only [go_sem, seval]; rfl) ?_ ?_
  · first | trivial | simp
  refine AWp.seq ?_
  refine AWp.rgn [call0 (l4Type_a s)] (by simp (maxSteps := 1000000) only [go_sem, seval]; rfl) ?_ ?_
  · first | trivial | simp
  refine AWp.ret (And.intro (.inr rfl) ?_)
  exact Out.plain (by simp only [Tryz.results150]; rfl) (by simp only [resCs, resC, go_sem, seval] <;> (split <;> rfl)) (by simp only [resV, go_sem, seval] <;> (simp only [held])) (by simp (maxSteps := 1000000) only [go_sem, seval])
end

section
set_option maxRecDepth 100000
set_option maxHeartbeats 4000000

theorem tw_len (p : UInt8 → Bool) : ∀ (s : Str) (k : Nat), k ≤ s.length → (s.take k).all p = true → (∀ c, s[k]? = some c → p c = false) → (s.takeWhile p).length = k
  | [], k, h, _, _ => by simp at h; simp [h]
  | c :: s, 0, _, _, h => by simp [h c (by simp)]
  | c :: s, k + 1, h, h1, h2 => by
    simp only [List.take_succ_cons, List.all_cons, Bool.and_eq_true] at h1
    rw [List.takeWhile_cons_of_pos h1.1, List.length_cons, tw_len p s k (by simpa using h) h1.2 (by simpa using h2)]
theorem take_all (p : UInt8 → Bool) (s : Str) (k : Nat) (h : k < s.length) : (s.take (k + 1)).all p = ((s.take k).all p && p (s.getD k 0)) := by
  rw [List.take_add_one, List.getElem?_eq_getElem h, List.all_append, List.getD_eq_getElem?_getD, List.getElem?_eq_getElem h]
  simp
theorem run_a (p : UInt8 → Bool) (F : Nat) (hF : ∀ c : UInt8, ACall En F [.i .u8 c.toNat] [] [.b (p c)] []) (s : Str) (hs : s.length < 4611686018427387904) : ACall En 89 [.s s, .fn (.func F) [] []] [] [.i .i64 (s.takeWhile p).length] [] := by
  refine acall_of_body (fn := Tryz.f89) [] Tryz.func89 rfl rfl (by simp) fun C => ?_
  rw [entry_eq]
  simp only [Tryz.ntmps89, List.length_cons, List.length_nil, Nat.reduceAdd, Nat.reduceSub, List.replicate_succ, List.replicate_zero, List.cons_append, List.nil_append, numL]
  refine AWp.seq ?_
  refine AWp.rgn [] (by simp only [go_sem, seval]; rfl) ?_ ?_
  · first | trivial | simp
  refine AWp.seq ?_
  refine AWp.rgn [] (by simp only [go_sem, seval]; rfl) ?_ ?_
  · first | trivial | simp
  refine AWp.seq ?_
  refine AWp.block ?_
  refine AWp.loopK (fun k : Nat => ⟨[.s s, .fn (.func F) [] [], .no, .no, .i .i64 0, .i .i64 k, .no, .no, .no, .no, .no, .no, .no, .no, .no, .no, .no, .no, .no, .no], memOf [], us []⟩) (fun k : Nat => k ≤ s.length ∧ (s.take k).all p = true) (fun k : Nat => s.length - k) (0) ?_ ?_ (fun k hI => ?_)
  · simp
  · exact Can.weak (Weak.lit (by simp only [go_sem, seval, subM, leV, inns, innr, V.inn, us, true_or, or_true] <;> (simp)) (by simp only [go_sem, seval, subM, leV, inns, innr, V.inn, us, true_or, or_true]) (by simp only [go_sem, seval, subM, leV, inns, innr, V.inn, us, true_or, or_true]))
  refine AWp.seq ?_
  refine AWp.seq ?_
  refine AWp.rgn [call0 (hF (s.getD k 0))] (by simp only [go_sem, seval]; rfl) ?_ ?_
  · first | trivial | simp
  refine AWp.condB (by simp only [go_sem, seval]; rfl) (by simp only [go_sem, seval]) (fun h16 => ?_) (fun h16 => ?_)
  · refine AWp.skip ?_
    refine AWp.block ?_
    refine AWp.rgn [] (by simp only [go_sem, seval]; rfl) ?_ ?_
    · first | trivial | simp
    refine Exists.intro (k + 1) ⟨?_, ?_, ?_⟩
    · have h2 : k < s.length ∧ p (s.getD k 0) = true := (by simpa using h16); exact ⟨by omega, by rw [take_all p s k h2.1, hI.2, h2.2]; rfl⟩
    · have h2 : k < s.length ∧ p (s.getD k 0) = true := (by simpa using h16); omega
    exact Can.weak (Weak.lit (by simp only [go_sem, seval, subM, leV, inns, innr, V.inn, us, true_or, or_true] <;> (rw [wrap64 (by omega) (by omega)]; simp)) (by simp only [go_sem, seval, subM, leV, inns, innr, V.inn, us, true_or, or_true]) (by simp only [go_sem, seval, subM, leV, inns, innr, V.inn, us, true_or, or_true]))
  · refine AWp.exit ?_
    refine AWp.seq ?_
    refine AWp.rgn [] (by simp only [go_sem, seval]; rfl) ?_ ?_
    · first | trivial | simp
    refine AWp.ret (And.intro (.inr rfl) ?_)
    exact Out.plain (by simp only [Tryz.results89]; rfl) (by simp only [resCs, resC, go_sem, seval] <;> (split <;> rfl)) (by simp only [resV, go_sem, seval] <;> (rw [tw_len p s k hI.1 hI.2]; intro c hc; have := (List.getElem?_eq_some_iff.1 hc).1; simp_all)) (by simp only [go_sem, seval])
end

section
set_option maxRecDepth 100000
set_option maxHeartbeats 4000000


theorem idxOf_at {l : List Str} {s : Str} {k : Nat} (h : k < l.length) (h1 : ∀ x ∈ l.take k, x ≠ s) (h2 : l.getD k [] = s) : s ∈ l ∧ l.idxOf s = k := by
  rw [List.getD_eq_getElem?_getD, List.getElem?_eq_getElem h] at h2
  simp only [Option.getD_some] at h2
  refine ⟨by rw [← h2]; exact List.getElem_mem h, ?_⟩
  have e := List.take_append_drop k l
  rw [List.drop_eq_getElem_cons h, h2] at e
  have hn : ¬ s ∈ l.take k := fun hm => h1 _ hm rfl
  rw [← e, List.idxOf_append, if_neg hn]
  simp [List.length_take, Nat.min_eq_left (Nat.le_of_lt h)]
theorem Index_a (l : List Str) (s : Str) (hl : l.length < 4611686018427387904) : ACall En 168 [.sl false (strR l), .s s] [] [.i .i64 (sidx l s)] [] := by
  refine acall_of_body (fn := Tryz.f168) [] Tryz.func168 rfl rfl (by simp) fun C => ?_
  rw [entry_eq]
  simp only [Tryz.ntmps168, List.length_cons, List.length_nil, Nat.reduceAdd, Nat.reduceSub, List.replicate_succ, List.replicate_zero, List.cons_append, List.nil_append, numL]
  refine AWp.seq ?_
  refine AWp.rgn [] (by simp only [go_sem, seval]; rfl) ?_ ?_
  · first | trivial | simp
  refine AWp.seq ?_
  refine AWp.seq ?_
  refine AWp.rgn [] (by simp only [go_sem, seval]; rfl) ?_ ?_
  · first | trivial | simp
  refine AWp.block ?_
  refine AWp.loopK (fun k : Nat => ⟨[.sl false (strR l), .s s, .no, .no, .i .i64 0, .no, .no, .i .i64 l.length, .i .i64 k, .no, .no, .no, .no, .no, .no, .no, .no, .no, .no], memOf [], us []⟩) (fun k : Nat => k ≤ l.length ∧ ∀ x ∈ l.take k, x ≠ s) (fun k : Nat => l.length - k) (0) ?_ ?_ (fun k hI => ?_)
  · simp
  · exact Can.weak (Weak.lit (by simp only [go_sem, seval, subM, leV, inns, innr, V.inn, us, true_or, or_true] <;> (simp)) (by simp only [go_sem, seval, subM, leV, inns, innr, V.inn, us, true_or, or_true]) (by simp only [go_sem, seval, subM, leV, inns, innr, V.inn, us, true_or, or_true]))
  refine AWp.seq ?_
  refine AWp.rgn [] (by simp only [go_sem, seval]; rfl) ?_ ?_
  · first | trivial | simp
  refine AWp.seq ?_
  refine AWp.condB (by simp only [go_sem, seval]; rfl) (by simp only [go_sem, seval]) (fun h9 => ?_) (fun h9 => ?_)
  · refine AWp.skip ?_
    refine AWp.seq ?_
    refine AWp.block ?_
    refine AWp.seq ?_
    refine AWp.rgn [] (by simp only [go_sem, seval]; rfl) ?_ ?_
    · first | trivial | simp
    refine AWp.seq ?_
    refine AWp.rgn [] (by simp only [go_sem, seval, strR_get (show k < l.length by simpa using h9)]; rfl) ?_ ?_
    · simp at h9; simp [strR_len, h9]
    refine AWp.condB (by simp only [go_sem, seval]; rfl) (by simp only [go_sem, seval]) (fun h16 => ?_) (fun h16 => ?_)
    · refine AWp.seq ?_
      refine AWp.rgn [] (by simp only [go_sem, seval]; rfl) ?_ ?_
      · first | trivial | simp
      refine AWp.ret (And.intro (.inr rfl) ?_)
      exact Out.plain (by simp only [Tryz.results168]; rfl) (by simp only [resCs, resC, go_sem, seval] <;> (split <;> rfl)) (by simp only [resV, go_sem, seval] <;> (simp at h9; obtain ⟨g1, g2⟩ := idxOf_at h9 hI.2 (by simpa using (eq_of_beq h16).symm); simp [sidx, g1, g2])) (by simp only [go_sem, seval])
    · refine AWp.skip ?_
      refine AWp.rgn [] (by simp only [go_sem, seval]; rfl) ?_ ?_
      · first | trivial | simp
      refine Exists.intro (k + 1) ⟨?_, ?_, ?_⟩
      · simp at h9; refine ⟨by omega, fun x hx => ?_⟩; rw [List.take_add_one, List.mem_append, List.getElem?_eq_getElem h9] at hx; rcases hx with hx | hx; exact hI.2 x hx; simp at hx; subst hx; simp [List.getD_eq_getElem?_getD, List.getElem?_eq_getElem h9] at h16; exact fun e => h16 e.symm
      · simp at h9; omega
      exact Can.weak (Weak.lit (by simp only [go_sem, seval, subM, leV, inns, innr, V.inn, us, true_or, or_true] <;> (rw [wrap64 (by omega) (by omega)]; simp)) (by simp only [go_sem, seval, subM, leV, inns, innr, V.inn, us, true_or, or_true]) (by simp only [go_sem, seval, subM, leV, inns, innr, V.inn, us, true_or, or_true]))
  · refine AWp.exit ?_
    refine AWp.seq ?_
    refine AWp.rgn [] (by simp only [go_sem, seval]; rfl) ?_ ?_
    · first | trivial | simp
    refine AWp.ret (And.intro (.inr rfl) ?_)
    exact Out.plain (by simp only [Tryz.results168]; rfl) (by simp only [resCs, resC, go_sem, seval] <;> (split <;> rfl)) (by simp only [resV, go_sem, seval] <;> (simp at h9; have : ¬ s ∈ l := fun hm => hI.2 s (by rw [List.take_of_length_le h9]; exact hm) rfl; simp [sidx, this])) (by simp only [go_sem, seval])
theorem Contains_a (l : List Str) (s : Str) (hl : l.length < 4611686018427387904) : ACall En 160 [.sl false (strR l), .s s] [] [.b (l.contains s)] [] := by
  refine acall_of_body (fn := Tryz.f160) [] Tryz.func160 rfl rfl (by simp) fun C => ?_
  rw [entry_eq]
  simp only [Tryz.ntmps160, List.length_cons, List.length_nil, Nat.reduceAdd, Nat.reduceSub, List.replicate_succ, List.replicate_zero, List.cons_append, List.nil_append, numL]
  refine AWp.seq ?_
  refine AWp.rgn [] (by simp only [go_sem, seval]; rfl) ?_ ?_
  · first | trivial | simp
  refine AWp.seq ?_
  refine AWp.rgn [call0 (Index_a l s hl)] (by simp only [go_sem, seval]; rfl) ?_ ?_
  · first | trivial | simp
  refine AWp.ret (And.intro (.inr rfl) ?_)
  exact Out.plain (by simp only [Tryz.results160]; rfl) (by simp only [resCs, resC, go_sem, seval] <;> (split <;> rfl)) (by simp only [resV, go_sem, seval] <;> (by_cases h : s ∈ l <;> simp [sidx, h])) (by simp only [go_sem, seval])
end

section
set_option maxRecDepth 100000
set_option maxHeartbeats 4000000

theorem zip_get {xs ys : List E} {k : Nat} (h1 : k < xs.length) (h2 : k < ys.length) : (xs.zip ys)[k]? = some (xs.getD k E0, ys.getD k E0) := by
  rw [List.getElem?_eq_getElem (by simp; omega)]
  simp [List.getD_eq_getElem?_getD, List.getElem?_eq_getElem h1, List.getElem?_eq_getElem h2]
theorem zip_take {xs ys : List E} {k : Nat} (f : E × E → Bool) (h1 : k < xs.length) (h2 : k < ys.length) : ((xs.zip ys).take (k + 1)).all f = (((xs.zip ys).take k).all f && f (xs.getD k E0, ys.getD k E0)) := by
  rw [List.take_add_one, zip_get h1 h2, List.all_append]; simp
theorem zip_bad {xs ys : List E} {k : Nat} (f : E × E → Bool) (h1 : k < xs.length) (h2 : k < ys.length) (h : f (xs.getD k E0, ys.getD k E0) = false) : (xs.zip ys).all f = false := by
  rw [List.all_eq_false]; exact ⟨_, List.mem_of_getElem? (zip_get h1 h2), by rw [h]; simp⟩
theorem EqualFunc_a (p : E → E → Bool) (F : Nat) (xs ys : List E) (hF : ∀ x ∈ xs, ∀ y ∈ ys, ACall En F [.ag (eC x), .ag (eC y)] [] [.b (p x y)] []) (hx : xs.length < 4611686018427387904) (hy : ys.length < 4611686018427387904) :
    ACall En 170 [.sl false (eR xs), .sl false (eR ys), .fn (.func F) [] []] [] [.b (decide (xs.length = ys.length) && (xs.zip ys).all fun q => p q.1 q.2)] [] := by
  refine acall_of_body (fn := Tryz.f170) [] Tryz.func170 rfl rfl (by simp) fun C => ?_
  rw [entry_eq]
  simp only [Tryz.ntmps170, List.length_cons, List.length_nil, Nat.reduceAdd, Nat.reduceSub, List.replicate_succ, List.replicate_zero, List.cons_append, List.nil_append, numL]
  refine AWp.seq ?_
  refine AWp.rgn [] (by simp only [go_sem, seval]; rfl) ?_ ?_
  · first | trivial | simp
  refine AWp.seq ?_
  refine AWp.seq ?_
  refine AWp.rgn [] (by simp only [go_sem, seval]; rfl) ?_ ?_
  · first | trivial | simp
  refine AWp.condB (by simp only [go_sem, seval]; rfl) (by simp only [go_sem, seval]) (fun h14 => ?_) (fun h14 => ?_)
  · refine AWp.seq ?_
    refine AWp.rgn [] (by simp only [go_sem, seval]; rfl) ?_ ?_
    · first | trivial | simp
    refine AWp.ret (And.intro (.inr rfl) ?_)
    exact Out.plain (by simp only [Tryz.results170]; rfl) (by simp only [resCs, resC, go_sem, seval] <;> (split <;> rfl)) (by simp only [resV, go_sem, seval] <;> (simp at h14; simp; omega)) (by simp only [go_sem, seval])
  · refine AWp.skip ?_
    refine AWp.seq ?_
    refine AWp.seq ?_
    refine AWp.rgn [] (by simp only [go_sem, seval]; rfl) ?_ ?_
    · first | trivial | simp
    refine AWp.block ?_
    refine AWp.loopK (fun k : Nat => ⟨[.sl false (eR xs), .sl false (eR ys), .fn (.func F) [] [], .no, .no, .no, .b false, .no, .no, .no, .no, .no, .no, .no, .no, .sl false (eR xs), .i .i64 xs.length, .i .i64 k, .no, .no, .no, .no, .no, .no, .no, .no, .no, .no, .no, .no, .no, .no], memOf [], us []⟩) (fun k : Nat => k ≤ xs.length ∧ ((xs.zip ys).take k).all (fun q => p q.1 q.2) = true) (fun k : Nat => xs.length - k) (0) ?_ ?_ (fun k hI => ?_)
    · simp
    · exact Can.weak (Weak.lit (by simp only [go_sem, seval, subM, leV, inns, innr, V.inn, us, true_or, or_true] <;> (simp)) (by simp only [go_sem, seval, subM, leV, inns, innr, V.inn, us, true_or, or_true]) (by simp only [go_sem, seval, subM, leV, inns, innr, V.inn, us, true_or, or_true]))
    refine AWp.seq ?_
    refine AWp.rgn [] (by simp only [go_sem, seval]; rfl) ?_ ?_
    · first | trivial | simp
    refine AWp.seq ?_
    refine AWp.condB (by simp only [go_sem, seval]; rfl) (by simp only [go_sem, seval]) (fun h18 => ?_) (fun h18 => ?_)
    · refine AWp.skip ?_
      refine AWp.seq ?_
      refine AWp.block ?_
      refine AWp.seq ?_
      refine AWp.rgn [] (by simp only [go_sem, seval, eR_get (show k < xs.length by simpa using h18)]; rfl) ?_ ?_
      · simp at h18; simp [h18]
      refine AWp.seq ?_
      refine AWp.rgn [] (by simp only [go_sem, seval, eR_get (show k < ys.length by simp at h14 h18; omega)]; rfl) ?_ ?_
      · simp at h14 h18; simp; omega
      refine AWp.seq ?_
      refine AWp.rgn [call0 (hF (xs.getD k E0) (getD_mem (by simpa using h18)) (ys.getD k E0) (getD_mem (by simp at h14 h18; omega)))] (by simp only [go_sem, seval]; rfl) ?_ ?_
      · first | trivial | simp
      refine AWp.condB (by simp only [go_sem, seval]; rfl) (by simp only [go_sem, seval]) (fun h30 => ?_) (fun h30 => ?_)
      · refine AWp.seq ?_
        refine AWp.rgn [] (by simp only [go_sem, seval]; rfl) ?_ ?_
        · first | trivial | simp
        refine AWp.ret (And.intro (.inr rfl) ?_)
        exact Out.plain (by simp only [Tryz.results170]; rfl) (by simp only [resCs, resC, go_sem, seval] <;> (split <;> rfl)) (by simp only [resV, go_sem, seval] <;> (simp at h14 h18; rw [zip_bad _ h18 (by omega) (by simpa using h30)]; simp)) (by simp only [go_sem, seval])
      · refine AWp.skip ?_
        refine AWp.rgn [] (by simp only [go_sem, seval]; rfl) ?_ ?_
        · first | trivial | simp
        refine Exists.intro (k + 1) ⟨?_, ?_, ?_⟩
        · simp at h14 h18; exact ⟨by omega, by rw [zip_take _ h18 (by omega), hI.2]; simpa using h30⟩
        · simp at h18; omega
        exact Can.weak (Weak.lit (by simp only [go_sem, seval, subM, leV, inns, innr, V.inn, us, true_or, or_true] <;> (rw [wrap64 (by simp at h18; omega) (by simp at h18; omega)]; simp)) (by simp only [go_sem, seval, subM, leV, inns, innr, V.inn, us, true_or, or_true]) (by simp only [go_sem, seval, subM, leV, inns, innr, V.inn, us, true_or, or_true]))
    · refine AWp.exit ?_
      refine AWp.seq ?_
      refine AWp.rgn [] (by simp only [go_sem, seval]; rfl) ?_ ?_
      · first | trivial | simp
      refine AWp.ret (And.intro (.inr rfl) ?_)
      exact Out.plain (by simp only [Tryz.results170]; rfl) (by simp only [resCs, resC, go_sem, seval] <;> (split <;> rfl)) (by simp only [resV, go_sem, seval] <;> (simp at h14 h18; have := hI.2; rw [List.take_of_length_le (by simp; omega)] at this; rw [this]; simp; omega)) (by simp only [go_sem, seval])
theorem sameL_zip : ∀ xs ys : List E, same.sameL xs ys = (decide (xs.length = ys.length) && (xs.zip ys).all fun q => same q.1 q.2)
  | [], [] => rfl
  | [], _ :: _ => by simp [same.sameL]
  | _ :: _, [] => by simp [same.sameL]
  | x :: xs, y :: ys => by
    simp only [same.sameL, sameL_zip xs ys, List.zip_cons_cons, List.all_cons, List.length_cons, Nat.add_right_cancel_iff]
    cases same x y <;> simp
end

section
set_option maxRecDepth 100000
set_option maxHeartbeats 4000000

theorem iExprSame_a (x : E) : ∀ y, sm x = true → sm y = true → ACall En 113 [.ag (eC x), .ag (eC y)] [] [.b (same x y)] [] := by
  induction x using E.ind' with
  | h x ih =>
  intro y hx hy
  obtain ⟨a1, a2, a3⟩ := sm_open hx
  obtain ⟨b1, b2, b3⟩ := sm_open hy
  refine acall_of_body (fn := Tryz.f113) [] Tryz.func113 rfl rfl (by simp) fun C => ?_
  rw [entry_eq]
  simp only [Tryz.ntmps113, List.length_cons, List.length_nil, Nat.reduceAdd, Nat.reduceSub, List.replicate_succ, List.replicate_zero, List.cons_append, List.nil_append, numL]
  refine AWp.seq ?_
  refine AWp.rgn [] (by simp only [go_sem, seval]; rfl) ?_ ?_
  · first | trivial | simp
  refine AWp.seq ?_
  refine AWp.rgn [call0 (EqualFunc_a same 113 x.kids y.kids (fun u hu v hv => ih u hu v (sms_mem a3 u hu) (sms_mem b3 v hv)) a2 b2)] (by simp only [go_sem, seval]; rfl) ?_ ?_
  · simp
  refine AWp.ret (And.intro (.inr rfl) ?_)
  exact Out.plain (by simp only [Tryz.results113]; rfl) (by simp only [resCs, resC, go_sem, seval] <;> (split <;> rfl)) (by simp only [resV, go_sem, seval] <;> (rw [same_eq, sameL_zip])) (by simp only [go_sem, seval])
theorem sExprSame_a (x : E) : ∀ y, sm x = true → sm y = true → ACall En 118 [.ag (eC x), .ag (eC y)] [] [.b (same x y)] [] := by
  induction x using E.ind' with
  | h x ih =>
  intro y hx hy
  obtain ⟨a1, a2, a3⟩ := sm_open hx
  obtain ⟨b1, b2, b3⟩ := sm_open hy
  refine acall_of_body (fn := Tryz.f118) [] Tryz.func118 rfl rfl (by simp) fun C => ?_
  rw [entry_eq]
  simp only [Tryz.ntmps118, List.length_cons, List.length_nil, Nat.reduceAdd, Nat.reduceSub, List.replicate_succ, List.replicate_zero, List.cons_append, List.nil_append, numL]
  refine AWp.seq ?_
  refine AWp.rgn [] (by simp only [go_sem, seval]; rfl) ?_ ?_
  · first | trivial | simp
  refine AWp.seq ?_
  refine AWp.seq ?_
  refine AWp.rgn [] (by simp only [go_sem, seval]; rfl) ?_ ?_
  · simp
  refine AWp.condB (by simp only [go_sem, seval]; rfl) (by simp only [go_sem, seval]) (fun h33 => ?_) (fun h33 => ?_)
  · refine AWp.seq ?_
    refine AWp.rgn [] (by simp only [go_sem, seval]; rfl) ?_ ?_
    · first | trivial | simp
    refine AWp.ret (And.intro (.inr rfl) ?_)
    exact Out.plain (by simp only [Tryz.results118]; rfl) (by simp only [resCs, resC, go_sem, seval] <;> (split <;> rfl)) (by simp only [resV, go_sem, seval] <;> (simp at h33; rw [same_eq, sameL_zip]; rcases h33 with ((h33 | h33) | h33) | h33 <;> simp [h33] <;> omega)) (by simp only [go_sem, seval])
  · refine AWp.skip ?_
    refine AWp.seq ?_
    refine AWp.seq ?_
    refine AWp.rgn [] (by simp only [go_sem, seval]; rfl) ?_ ?_
    · first | trivial | simp
    refine AWp.block ?_
    refine AWp.loopK (fun k : Nat => ⟨[.no, .no, .pt 12 4 0 0, .pt 13 4 0 0, .b false, .i .i64 k, .no, .no, .no, .no, .no, .no, .no, .no, .no, .no, .no, .no, .no, .no, .no, .no, .no, .no, .no, .no, .no, .no, .no, .no, .no, .no, .no, .no, .no, .no, .no, .no, .no, .no, .no, .no, .no, .no, .no, .no, .no, .no, .no, .no, .no, .no, .no], memOf [(12, ⟨30, 4, [eC x]⟩), (13, ⟨30, 4, [eC y]⟩)], us [12, 13]⟩) (fun k : Nat => k ≤ x.kids.length ∧ ((x.kids.zip y.kids).take k).all (fun q => same q.1 q.2) = true) (fun k : Nat => x.kids.length - k) (0) ?_ ?_ (fun k hI => ?_)
    · simp
    · exact Can.weak (Weak.lit (by simp only [go_sem, seval, subM, leV, inns, innr, V.inn, us, true_or, or_true] <;> (simp)) (by simp only [go_sem, seval, subM, leV, inns, innr, V.inn, us, true_or, or_true]) (by simp only [go_sem, seval, subM, leV, inns, innr, V.inn, us, true_or, or_true]))
    refine AWp.seq ?_
    refine AWp.seq ?_
    refine AWp.rgn [] (by simp only [go_sem, seval]; rfl) ?_ ?_
    · first | trivial | simp
    refine AWp.condB (by simp only [go_sem, seval]; rfl) (by simp only [go_sem, seval]) (fun h38 => ?_) (fun h38 => ?_)
    · refine AWp.skip ?_
      refine AWp.seq ?_
      refine AWp.block ?_
      refine AWp.seq ?_
      refine AWp.rgnD [call0 (ih (x.kids.getD k E0) (getD_mem (by simpa using h38)) (y.kids.getD k E0) (sms_mem a3 _ (getD_mem (by simpa using h38))) (sms_mem b3 _ (getD_mem (by simp at h33 h38; omega))))] enM (by simp only [go_sem, seval, eR_get (show k < x.kids.length by simpa using h38), eR_get (show k < y.kids.length by simp at h33 h38; omega)]; rfl) (by rfl) ?_ ?_
      · simp at h33 h38; simp; omega
      refine AWp.condB (by simp only [go_sem, seval]; rfl) (by simp only [go_sem, seval]) (fun h52 => ?_) (fun h52 => ?_)
      · refine AWp.seq ?_
        refine AWp.rgn [] (by simp only [go_sem, seval]; rfl) ?_ ?_
        · first | trivial | simp
        refine AWp.ret (And.intro (.inr rfl) ?_)
        exact Out.plain (by simp only [Tryz.results118]; rfl) (by simp only [resCs, resC, go_sem, seval] <;> (split <;> rfl)) (by simp only [resV, go_sem, seval] <;> (simp at h33 h38; rw [same_eq, sameL_zip, zip_bad _ h38 (by omega) (by simpa using h52)]; simp)) (by simp only [go_sem, seval])
      · refine AWp.skip ?_
        refine AWp.rgn [] (by simp only [go_sem, seval]; rfl) ?_ ?_
        · first | trivial | simp
        refine Exists.intro (k + 1) ⟨?_, ?_, ?_⟩
        · simp at h33 h38; exact ⟨by omega, by rw [zip_take _ h38 (by omega), hI.2]; simpa using h52⟩
        · simp at h38; omega
        exact Can.weak (Weak.lit (by simp only [go_sem, seval, subM, leV, inns, innr, V.inn, us, true_or, or_true] <;> (rw [wrap64 (by simp at h38; omega) (by simp at h38; omega)]; simp)) (by simp only [go_sem, seval, subM, leV, inns, innr, V.inn, us, true_or, or_true]) (by simp only [go_sem, seval, subM, leV, inns, innr, V.inn, us, true_or, or_true]))
    · refine AWp.exit ?_
      refine AWp.seq ?_
      refine AWp.rgn [] (by simp only [go_sem, seval]; rfl) ?_ ?_
      · first | trivial | simp
      refine AWp.ret (And.intro (.inr rfl) ?_)
      exact Out.plain (by simp only [Tryz.results118]; rfl) (by simp only [resCs, resC, go_sem, seval] <;> (split <;> rfl)) (by simp only [resV, go_sem, seval] <;> (simp at h33 h38; rw [same_eq, sameL_zip]; have e := hI.2; rw [List.take_of_length_le (by simp; omega)] at e; rw [e]; simp [h33]; omega)) (by simp only [go_sem, seval])
end

section
set_option maxRecDepth 100000
set_option maxHeartbeats 4000000

theorem all_false {p : UInt8 → Bool} {s : Str} {k : Nat} (h : k < s.length) (hp : p (s.getD k 0) = false) : s.all p = false := by
  rw [List.all_eq_false]; exact ⟨_, getD_mem h, by rw [hp]; simp⟩
theorem takeWhile_len (p : UInt8 → Bool) : ∀ s : Str, ((s.takeWhile p).length == s.length) = s.all p
  | [] => rfl
  | c :: s => by
    have := takeWhile_len p s
    simp only [List.takeWhile_cons, List.all_cons]
    cases p c <;> simp_all
theorem held_own (s : Str) : ownW.contains s = held s := by
  simp only [ownW, held, isTyp, List.contains_cons, List.contains_nil, Bool.or_false]
  simp only [Bool.or_assoc]
theorem word_len (s : Str) : (decide ((s.length : Int) ≥ 1) && decide ((s.length : Int) ≤ 8)) = (decide (1 ≤ s.length) && decide (s.length ≤ 8)) := by
  congr 1 <;> exact decide_eq_decide.2 (by omega)
theorem word_len' (s : Str) : (decide (1 ≤ (s.length : Int)) && decide ((s.length : Int) ≤ 8)) = (decide (1 ≤ s.length) && decide (s.length ≤ 8)) := by
  congr 1 <;> exact decide_eq_decide.2 (by omega)
theorem beq_cast (a b : Nat) : ((a : Int) == (b : Int)) = (a == b) := by
  cases h : a == b <;> simp_all <;> omega
theorem l3Word_a (s : Str) (hs : s.length < 4611686018427387904) : ACall En 149 [.s s] [] [.b (isWord s)] [] := by
  refine acall_of_body (fn := Tryz.f149) [] Tryz.func149 rfl rfl (by simp) fun C => ?_
  rw [entry_eq]
  simp only [Tryz.ntmps149, List.length_cons, List.length_nil, Nat.reduceAdd, Nat.reduceSub, List.replicate_succ, List.replicate_zero, List.cons_append, List.nil_append, numL]
  refine AWp.seq ?_
  refine AWp.rgn [] (by simp only [go_sem, seval]; rfl) ?_ ?_
  · first | trivial | simp
  refine AWp.seq ?_
  refine AWp.seq ?_
  refine AWp.rgn [] (by simp only [go_sem, seval]; rfl) ?_ ?_
  · first | trivial | simp
  refine AWp.block ?_
  refine AWp.loopK (fun k : Nat => ⟨[.s s, .no, .b false, .i .i64 k, .no, .no, .no, .no, .no, .no, .no, .no, .no, .no, .no, .no, .no, .no, .no, .no, .no, .no, .no, .no, .no, .no, .no, .no], memOf [], us []⟩) (fun k : Nat => k ≤ s.length ∧ (s.take k).all lower = true) (fun k : Nat => s.length - k) (0) ?_ ?_ (fun k hI => ?_)
  · simp
  · exact Can.weak (Weak.lit (by simp only [go_sem, seval, subM, leV, inns, innr, V.inn, us, true_or, or_true] <;> (simp)) (by simp only [go_sem, seval, subM, leV, inns, innr, V.inn, us, true_or, or_true]) (by simp only [go_sem, seval, subM, leV, inns, innr, V.inn, us, true_or, or_true]))
  refine AWp.seq ?_
  refine AWp.seq ?_
  refine AWp.rgn [] (by simp only [go_sem, seval]; rfl) ?_ ?_
  · first | trivial | simp
  refine AWp.condB (by simp only [go_sem, seval]; rfl) (by simp only [go_sem, seval]) (fun h7 => ?_) (fun h7 => ?_)
  · refine AWp.skip ?_
    refine AWp.seq ?_
    refine AWp.block ?_
    refine AWp.seq ?_
    refine AWp.rgn [] (by simp only [go_sem, seval]; rfl) ?_ ?_
    · simp at h7; simp; omega
    refine AWp.condB (by simp only [go_sem, seval]; rfl) (by simp only [go_sem, seval]) (fun h19 => ?_) (fun h19 => ?_)
    · refine AWp.seq ?_
      refine AWp.rgn [] (by simp only [go_sem, seval]; rfl) ?_ ?_
      · first | trivial | simp
      refine AWp.ret (And.intro (.inr rfl) ?_)
      exact Out.plain (by simp only [Tryz.results149]; rfl) (by simp only [resCs, resC, go_sem, seval] <;> (split <;> rfl)) (by simp only [resV, go_sem, seval] <;> (simp at h7; rw [isWord, all_false h7 (by rw [lower]; simp at h19 ⊢; omega)]; rfl)) (by simp only [go_sem, seval])
    · refine AWp.skip ?_
      refine AWp.rgn [] (by simp only [go_sem, seval]; rfl) ?_ ?_
      · first | trivial | simp
      refine Exists.intro (k + 1) ⟨?_, ?_, ?_⟩
      · simp at h7; exact ⟨by omega, by rw [take_all lower s k h7, hI.2, lower]; simp at h19 ⊢; omega⟩
      · simp at h7; omega
      exact Can.weak (Weak.lit (by simp only [go_sem, seval, subM, leV, inns, innr, V.inn, us, true_or, or_true] <;> (rw [wrap64 (by simp at h7; omega) (by simp at h7; omega)]; simp)) (by simp only [go_sem, seval, subM, leV, inns, innr, V.inn, us, true_or, or_true]) (by simp only [go_sem, seval, subM, leV, inns, innr, V.inn, us, true_or, or_true]))
  · refine AWp.exit ?_
    refine AWp.seq ?_
    refine AWp.rgn [] (by simp only [go_sem, seval]; rfl) ?_ ?_
    · first | trivial | simp
    refine AWp.ret (And.intro (.inr rfl) ?_)
    exact Out.plain (by simp only [Tryz.results149]; rfl) (by simp only [resCs, resC, go_sem, seval] <;> (split <;> rfl)) (by simp only [resV, go_sem, seval] <;> (simp at h7; have e := hI.2; rw [List.take_of_length_le h7] at e; rw [isWord, e, word_len]; simp)) (by simp only [go_sem, seval])
theorem l4Name_a (s : Str) (hs : s.length < 4611686018427387904) : ACall En 82 [.s s] [] [.b (isNm s)] [] := by
  refine acall_of_body (fn := Tryz.f82) [] Tryz.func82 rfl rfl (by simp) fun C => ?_
  rw [entry_eq]
  simp only [Tryz.ntmps82, List.length_cons, List.length_nil, Nat.reduceAdd, Nat.reduceSub, List.replicate_succ, List.replicate_zero, List.cons_append, List.nil_append, numL]
  refine AWp.seq ?_
  refine AWp.rgn [] (by simp only [go_sem, seval]; rfl) ?_ ?_
  · simp
  refine AWp.seq ?_
  refine AWp.rgn [call0 (l3Word_a s hs), call0 (l4Held_a s)] (by simp only [go_sem, seval]; rfl) ?_ ?_
  · simp
  refine AWp.ret (And.intro (.inr rfl) ?_)
  exact Out.plain (by simp only [Tryz.results82]; rfl) (by simp only [resCs, resC, go_sem, seval] <;> (split <;> rfl)) (by simp only [resV, go_sem, seval] <;> (rfl)) (by simp only [go_sem, seval])
theorem TokOk1_a (s : Str) (hs : s.length < 4611686018427387904) : ACall En 154 [.i .i64 1, .s s] [] [.b (isWord s)] [] := by
  refine acall_of_body (fn := Tryz.f154) [] Tryz.func154 rfl rfl (by simp) fun C => ?_
  rw [entry_eq]
  simp only [Tryz.ntmps154, List.length_cons, List.length_nil, Nat.reduceAdd, Nat.reduceSub, List.replicate_succ, List.replicate_zero, List.cons_append, List.nil_append, numL]
  refine AWp.seq ?_
  refine AWp.rgn [] (by simp only [go_sem, seval]; rfl) ?_ ?_
  · simp
  refine AWp.seq ?_
  refine AWp.seq ?_
  refine AWp.rgn [] (by simp only [go_sem, seval]; rfl) ?_ ?_
  · simp
  refine AWp.block ?_
  refine AWp.seq ?_
  refine AWp.rgn [] (by simp only [go_sem, seval]; rfl) ?_ ?_
  · simp
  refine AWp.condB (by simp only [go_sem, seval]; rfl) (by simp only [go_sem, seval]) (fun h8 => ?_) (fun h8 => ?_)
  · refine AWp.seq ?_
    refine AWp.rgn [call0 (in_a s.length 1 8), call0 (run_a lower 90 isLetter_a s hs)] (by simp only [go_sem, seval]; rfl) ?_ ?_
    · simp
    refine AWp.ret (And.intro (.inr rfl) ?_)
    exact Out.plain (by simp only [Tryz.results154]; rfl) (by simp only [resCs, resC, go_sem, seval] <;> (split <;> rfl)) (by simp only [resV, go_sem, seval] <;> (rw [isWord, word_len', beq_cast, takeWhile_len]; cases s.all lower <;> simp)) (by simp only [go_sem, seval])
  · exact absurd h8 (by simp)
theorem isName_a (s : Str) (hs : s.length < 4611686018427387904) : ACall En 101 [.s s] [] [.b (isNm s)] [] := by
  refine acall_of_body (fn := Tryz.f101) [] Tryz.func101 rfl rfl (by simp) fun C => ?_
  rw [entry_eq]
  simp only [Tryz.ntmps101, List.length_cons, List.length_nil, Nat.reduceAdd, Nat.reduceSub, List.replicate_succ, List.replicate_zero, List.cons_append, List.nil_append, numL]
  refine AWp.seq ?_
  refine AWp.rgn [] (by simp only [go_sem, seval]; rfl) ?_ ?_
  · first | trivial | simp
  refine AWp.seq ?_
  refine AWp.rgn [call0 (TokOk1_a s hs), call0 (Contains_a ownW s (by decide))] (by simp only [go_sem, seval]; rfl) ?_ ?_
  · simp
  refine AWp.ret (And.intro (.inr rfl) ?_)
  exact Out.plain (by simp only [Tryz.results101]; rfl) (by simp only [resCs, resC, go_sem, seval] <;> (split <;> rfl)) (by simp only [resV, go_sem, seval] <;> (rw [held_own]; rfl)) (by simp only [go_sem, seval])
end

section
set_option maxRecDepth 100000
set_option maxHeartbeats 4000000

theorem l4Form_a (e : E) : ∀ d : Int, -4611686018427387904 < d → d < 4611686018427387904 → sm e = true → ACall En 151 [.ag (eC e), .i .i64 d] [] [.b (form e d)] [] := by
  induction e using E.ind' with
  | h e ih =>
  intro d hd1 hd2 hs
  obtain ⟨a1, a2, a3⟩ := sm_open hs
  refine acall_of_body (fn := Tryz.f151) [] Tryz.func151 rfl rfl (by simp) fun C => ?_
  rw [entry_eq]
  simp only [Tryz.ntmps151, List.length_cons, List.length_nil, Nat.reduceAdd, Nat.reduceSub, List.replicate_succ, List.replicate_zero, List.cons_append, List.nil_append, numL]
  refine AWp.seq ?_
  refine AWp.rgn [] (by simp only [go_sem, seval]; rfl) ?_ ?_
  · first | trivial | simp
  refine AWp.seq ?_
  refine AWp.seq ?_
  refine AWp.rgn [] (by simp only [go_sem, seval]; rfl) ?_ ?_
  · first | trivial | simp
  refine AWp.condB (by simp only [go_sem, seval]; rfl) (by simp only [go_sem, seval]) (fun h9 => ?_) (fun h9 => ?_)
  · refine AWp.seq ?_
    refine AWp.rgn [] (by simp only [go_sem, seval]; rfl) ?_ ?_
    · first | trivial | simp
    refine AWp.ret (And.intro (.inr rfl) ?_)
    exact Out.plain (by simp only [Tryz.results151]; rfl) (by simp only [resCs, resC, go_sem, seval] <;> (split <;> rfl)) (by simp only [resV, go_sem, seval] <;> (rw [form_eq]; simp at h9; simp; omega)) (by simp only [go_sem, seval])
  · refine AWp.skip ?_
    refine AWp.seq ?_
    refine AWp.rgn [] (by simp only [go_sem, seval]; rfl) ?_ ?_
    · first | trivial | simp
    refine AWp.seq ?_
    refine AWp.rgn [] (by simp only [go_sem, seval]; rfl) ?_ ?_
    · first | trivial | simp
    refine AWp.seqJ (fun q : Bool × Nat => ⟨[.no, .i .i64 d, .pt 12 4 0 0, .no, .b false, .b q.1, .i .i64 q.2, .no, .no, .no, .no, .no, .no, .no, .no, .no, .no, .no, .no, .no, .no, .no, .no, .no, .no, .no, .no, .no, .no, .no, .no, .no, .no, .no, .no, .no, .no, .no, .no, .no, .no, .no, .no, .no, .no, .no, .no, .no, .no, .no, .no, .no, .no, .no, .no, .no, .no, .no, .no, .no, .no, .no, .no, .no, .no, .no, .no, .no, .no, .no, .no, .no, .no, .no, .no, .no, .no, .no, .no, .no], memOf [(12, ⟨30, 4, [eC e]⟩)], us [12]⟩) (fun q : Bool × Nat => (q.1 && (e.kids.length == q.2)) = shape e.kind e.n e.s e.kids.length) ?_ (fun q hJ => ?_)
    · refine AWp.seq ?_
      refine AWp.rgn [] (by simp only [go_sem, seval]; rfl) ?_ ?_
      · first | trivial | simp
      refine AWp.block ?_
      refine AWp.seq ?_
      refine AWp.rgn [] (by simp only [go_sem, seval]; rfl) ?_ ?_
      · first | trivial | simp
      refine AWp.condB (by simp only [go_sem, seval]; rfl) (by simp only [go_sem, seval]) (fun h12 => ?_) (fun h12 => ?_)
      · refine AWp.rgn [] (by simp only [go_sem, seval]; rfl) ?_ ?_
        · simp
        refine Exists.intro ((decide (e.n ≥ 0) && decide (e.n ≤ 1000000) && e.s == [], 0)) ⟨?_, ?_⟩
        · simp_all [shape]
        exact Can.weak (Weak.lit (by simp only [go_sem, seval, subM, leV, inns, innr, V.inn, us, true_or, or_true] <;> (simp)) (by simp only [go_sem, seval, subM, leV, inns, innr, V.inn, us, true_or, or_true]) (by simp only [go_sem, seval, subM, leV, inns, innr, V.inn, us, true_or, or_true]))
      · refine AWp.seq ?_
        refine AWp.rgn [] (by simp only [go_sem, seval]; rfl) ?_ ?_
        · first | trivial | simp
        refine AWp.condB (by simp only [go_sem, seval]; rfl) (by simp only [go_sem, seval]) (fun h27 => ?_) (fun h27 => ?_)
        · refine AWp.rgn [call0 (l4Name_a e.s a1)] (by simp only [go_sem, seval]; rfl) ?_ ?_
          · simp
          refine Exists.intro ((e.n == 0 && isNm e.s, 0)) ⟨?_, ?_⟩
          · simp_all [shape]
          exact Can.weak (Weak.lit (by simp only [go_sem, seval, subM, leV, inns, innr, V.inn, us, true_or, or_true] <;> (simp)) (by simp only [go_sem, seval, subM, leV, inns, innr, V.inn, us, true_or, or_true]) (by simp only [go_sem, seval, subM, leV, inns, innr, V.inn, us, true_or, or_true]))
        · refine AWp.seq ?_
          refine AWp.rgn [] (by simp only [go_sem, seval]; rfl) ?_ ?_
          · first | trivial | simp
          refine AWp.condB (by simp only [go_sem, seval]; rfl) (by simp only [go_sem, seval]) (fun h37 => ?_) (fun h37 => ?_)
          · refine AWp.seq ?_
            refine AWp.rgn [call0 (l4Op_a e.s)] (by simp only [go_sem, seval]; rfl) ?_ ?_
            · simp
            refine AWp.rgn [] (by simp only [go_sem, seval]; rfl) ?_ ?_
            · first | trivial | simp
            refine Exists.intro ((e.n == 0 && isOp e.s, 2)) ⟨?_, ?_⟩
            · simp_all [shape]
            exact Can.weak (Weak.lit (by simp only [go_sem, seval, subM, leV, inns, innr, V.inn, us, true_or, or_true] <;> (simp)) (by simp only [go_sem, seval, subM, leV, inns, innr, V.inn, us, true_or, or_true]) (by simp only [go_sem, seval, subM, leV, inns, innr, V.inn, us, true_or, or_true]))
          · refine AWp.seq ?_
            refine AWp.rgn [] (by simp only [go_sem, seval]; rfl) ?_ ?_
            · first | trivial | simp
            refine AWp.condB (by simp only [go_sem, seval]; rfl) (by simp only [go_sem, seval]) (fun h47 => ?_) (fun h47 => ?_)
            · refine AWp.seq ?_
              refine AWp.rgn [call0 (l4Type_a e.s)] (by simp only [go_sem, seval]; rfl) ?_ ?_
              · simp
              refine AWp.rgn [] (by simp only [go_sem, seval]; rfl) ?_ ?_
              · first | trivial | simp
              refine Exists.intro ((e.n == 0 && isTyp e.s, 1)) ⟨?_, ?_⟩
              · simp_all [shape]
              exact Can.weak (Weak.lit (by simp only [go_sem, seval, subM, leV, inns, innr, V.inn, us, true_or, or_true] <;> (simp)) (by simp only [go_sem, seval, subM, leV, inns, innr, V.inn, us, true_or, or_true]) (by simp only [go_sem, seval, subM, leV, inns, innr, V.inn, us, true_or, or_true]))
            · refine AWp.skip ?_
              refine Exists.intro ((false, 0)) ⟨?_, ?_⟩
              · simp_all [shape]
              exact Can.weak (Weak.lit (by simp only [go_sem, seval, subM, leV, inns, innr, V.inn, us, true_or, or_true] <;> (simp)) (by simp only [go_sem, seval, subM, leV, inns, innr, V.inn, us, true_or, or_true]) (by simp only [go_sem, seval, subM, leV, inns, innr, V.inn, us, true_or, or_true]))
    refine AWp.seq ?_
    refine AWp.seq ?_
    refine AWp.rgn [] (by simp only [go_sem, seval]; rfl) ?_ ?_
    · simp
    refine AWp.condB (by simp only [go_sem, seval]; rfl) (by simp only [go_sem, seval]) (fun h65 => ?_) (fun h65 => ?_)
    · refine AWp.seq ?_
      refine AWp.rgn [] (by simp only [go_sem, seval]; rfl) ?_ ?_
      · first | trivial | simp
      refine AWp.ret (And.intro (.inr rfl) ?_)
      exact Out.plain (by simp only [Tryz.results151]; rfl) (by simp only [resCs, resC, go_sem, seval] <;> (split <;> rfl)) (by simp only [resV, go_sem, seval] <;> (rw [form_eq, ← hJ]; simp at h65; cases hq : q.1 <;> simp_all; intro h; rw [← hJ] at h; simp at h; omega)) (by simp only [go_sem, seval])
    · refine AWp.skip ?_
      refine AWp.seq ?_
      refine AWp.seq ?_
      refine AWp.rgn [] (by simp only [go_sem, seval]; rfl) ?_ ?_
      · first | trivial | simp
      refine AWp.block ?_
      refine AWp.loopK (fun k : Nat => ⟨[.no, .i .i64 d, .pt 12 4 0 0, .no, .b false, .no, .i .i64 e.kids.length, .i .i64 k, .no, .no, .no, .no, .no, .no, .no, .no, .no, .no, .no, .no, .no, .no, .no, .no, .no, .no, .no, .no, .no, .no, .no, .no, .no, .no, .no, .no, .no, .no, .no, .no, .no, .no, .no, .no, .no, .no, .no, .no, .no, .no, .no, .no, .no, .no, .no, .no, .no, .no, .no, .no, .no, .no, .no, .no, .no, .no, .no, .no, .no, .no, .no, .no, .no, .no, .no, .no, .no, .no, .no, .no], memOf [(12, ⟨30, 4, [eC e]⟩)], us [12]⟩) (fun k : Nat => k ≤ e.kids.length ∧ forms e.kids (d - 1) = forms (e.kids.drop k) (d - 1)) (fun k : Nat => e.kids.length - k) (0) ?_ ?_ (fun k hI => ?_)
      · simp
      · exact Can.weak (Weak.lit (by simp only [go_sem, seval, subM, leV, inns, innr, V.inn, us, true_or, or_true] <;> (simp at h65; (try simp); omega)) (by simp only [go_sem, seval, subM, leV, inns, innr, V.inn, us, true_or, or_true]) (by simp only [go_sem, seval, subM, leV, inns, innr, V.inn, us, true_or, or_true]))
      refine AWp.seq ?_
      refine AWp.seq ?_
      refine AWp.rgn [] (by simp only [go_sem, seval]; rfl) ?_ ?_
      · first | trivial | simp
      refine AWp.condB (by simp only [go_sem, seval]; rfl) (by simp only [go_sem, seval]) (fun h68 => ?_) (fun h68 => ?_)
      · refine AWp.skip ?_
        refine AWp.seq ?_
        refine AWp.block ?_
        refine AWp.seq ?_
        refine AWp.rgn [call0 (ih (e.kids.getD k E0) (getD_mem (by simpa using h68)) (d - 1) (by simp at h9; omega) (by omega) (sms_mem a3 _ (getD_mem (by simpa using h68))))] (by simp only [go_sem, seval, eR_get (show k < e.kids.length by simpa using h68), wrap64 (show -9223372036854775808 ≤ d - 1 by omega) (by omega)]; rfl) ?_ ?_
        · simp at h68; simp; omega
        refine AWp.condB (by simp only [go_sem, seval]; rfl) (by simp only [go_sem, seval]) (fun h79 => ?_) (fun h79 => ?_)
        · refine AWp.seq ?_
          refine AWp.rgn [] (by simp only [go_sem, seval]; rfl) ?_ ?_
          · first | trivial | simp
          refine AWp.ret (And.intro (.inr rfl) ?_)
          exact Out.plain (by simp only [Tryz.results151]; rfl) (by simp only [resCs, resC, go_sem, seval] <;> (split <;> rfl)) (by simp only [resV, go_sem, seval] <;> (simp at h68; rw [form_eq, hI.2, forms_step h68, ← getD_at h68]; simp_all)) (by simp only [go_sem, seval])
        · refine AWp.skip ?_
          refine AWp.rgn [] (by simp only [go_sem, seval]; rfl) ?_ ?_
          · first | trivial | simp
          refine Exists.intro (k + 1) ⟨?_, ?_, ?_⟩
          · simp at h68; refine ⟨by omega, ?_⟩; rw [hI.2, forms_step h68, ← getD_at h68]; simp_all
          · simp at h68; omega
          exact Can.weak (Weak.lit (by simp only [go_sem, seval, subM, leV, inns, innr, V.inn, us, true_or, or_true] <;> (rw [wrap64 (by simp at h68; omega) (by simp at h68; omega)]; simp)) (by simp only [go_sem, seval, subM, leV, inns, innr, V.inn, us, true_or, or_true]) (by simp only [go_sem, seval, subM, leV, inns, innr, V.inn, us, true_or, or_true]))
      · refine AWp.exit ?_
        refine AWp.seq ?_
        refine AWp.rgn [] (by simp only [go_sem, seval]; rfl) ?_ ?_
        · first | trivial | simp
        refine AWp.ret (And.intro (.inr rfl) ?_)
        exact Out.plain (by simp only [Tryz.results151]; rfl) (by simp only [resCs, resC, go_sem, seval] <;> (split <;> rfl)) (by simp only [resV, go_sem, seval] <;> (simp at h68; rw [form_eq, ← hJ, hI.2, forms_end h68]; simp at h9; simp_all; omega)) (by simp only [go_sem, seval])
theorem many_eq (e : E) (d : Int) : many e d = 1 + if 0 < d then manys e.kids (d - 1) else 0 := by cases e; simp only [many, E.kids]
theorem forms_of {e : E} {d : Int} (h : form e d = true) : forms e.kids (d - 1) = true ∧ 1 ≤ d := by
  rw [form_eq] at h; simp at h; exact ⟨h.2, h.1.1⟩
theorem l4Many_a (e : E) : ∀ d : Nat, d ≤ 5 → form e d = true → sm e = true → ACall En 152 [.ag (eC e), .i .i64 d] [] [.i .i64 (many e d)] [] := by
  induction e using E.ind' with
  | h e ih =>
  intro d hd hf hs
  obtain ⟨a1, a2, a3⟩ := sm_open hs
  obtain ⟨f1, f2⟩ := forms_of hf
  have hm := many_le e d hf
  have hp : (2 : Int) ^ d ≤ 32 := by
    have : d = 0 ∨ d = 1 ∨ d = 2 ∨ d = 3 ∨ d = 4 ∨ d = 5 := by omega
    rcases this with rfl | rfl | rfl | rfl | rfl | rfl <;> decide
  have hb : many e d ≤ 31 := by omega
  clear hp
  have hd1 : ((d - 1 : Nat) : Int) = d - 1 := by omega
  have hdr : ∀ k, 0 ≤ manys (e.kids.drop k) (d - 1) := fun k => by
    have := (manys_le (e.kids.drop k) (d - 1) (by rw [hd1]; exact forms_drop k f1)).1
    rwa [hd1] at this
  have hmy : ∀ x ∈ e.kids, 1 ≤ many x (d - 1) := fun x hx => by
    have := (many_le x (d - 1) (by rw [hd1]; exact forms_mem f1 x hx)).1
    rwa [hd1] at this
  refine acall_of_body (fn := Tryz.f152) [] Tryz.func152 rfl rfl (by simp) fun C => ?_
  rw [entry_eq]
  simp only [Tryz.ntmps152, List.length_cons, List.length_nil, Nat.reduceAdd, Nat.reduceSub, List.replicate_succ, List.replicate_zero, List.cons_append, List.nil_append, numL]
  refine AWp.seq ?_
  refine AWp.rgn [] (by simp only [go_sem, seval]; rfl) ?_ ?_
  · first | trivial | simp
  refine AWp.seq ?_
  refine AWp.rgn [] (by simp only [go_sem, seval]; rfl) ?_ ?_
  · first | trivial | simp
  refine AWp.seq ?_
  refine AWp.seq ?_
  refine AWp.rgn [] (by simp only [go_sem, seval]; rfl) ?_ ?_
  · first | trivial | simp
  refine AWp.block ?_
  refine AWp.loopK (fun k : Nat × Int => ⟨[.no, .i .i64 d, .pt 12 4 0 0, .no, .i .i64 0, .i .i64 k.2, .i .i64 k.1, .no, .no, .no, .no, .no, .no, .no, .no, .no, .no, .no, .no, .no, .no, .no, .no, .no, .no, .no, .no, .no, .no], memOf [(12, ⟨30, 4, [eC e]⟩)], us [12]⟩) (fun k : Nat × Int => k.1 ≤ e.kids.length ∧ k.2 + manys (e.kids.drop k.1) (d - 1) = many e d ∧ 1 ≤ k.2) (fun k : Nat × Int => e.kids.length - k.1) ((0, 1)) ?_ ?_ (fun k hI => ?_)
  · simp [many_eq]; omega
  · exact Can.weak (Weak.lit (by simp only [go_sem, seval, subM, leV, inns, innr, V.inn, us, true_or, or_true] <;> (simp)) (by simp only [go_sem, seval, subM, leV, inns, innr, V.inn, us, true_or, or_true]) (by simp only [go_sem, seval, subM, leV, inns, innr, V.inn, us, true_or, or_true]))
  refine AWp.seq ?_
  refine AWp.seq ?_
  refine AWp.rgn [] (by simp only [go_sem, seval]; rfl) ?_ ?_
  · simp
  refine AWp.condB (by simp only [go_sem, seval]; rfl) (by simp only [go_sem, seval]) (fun h15 => ?_) (fun h15 => ?_)
  · refine AWp.skip ?_
    refine AWp.seq ?_
    refine AWp.block ?_
    refine AWp.rgn [call0 (hd1 ▸ ih (e.kids.getD k.1 E0) (getD_mem (by simp at h15; omega)) (d - 1) (by omega) (by rw [hd1]; exact forms_mem f1 _ (getD_mem (by simp at h15; omega))) (sms_mem a3 _ (getD_mem (by simp at h15; omega))))] (by simp only [go_sem, seval, eR_get (show k.1 < e.kids.length by simp at h15; omega), wrap64 (show -9223372036854775808 ≤ (d : Int) - 1 by omega) (by omega)]; rfl) ?_ ?_
    · simp at h15; simp; omega
    refine AWp.rgn [] (by simp only [go_sem, seval]; rfl) ?_ ?_
    · first | trivial | simp
    refine Exists.intro ((k.1 + 1, k.2 + many (e.kids.getD k.1 E0) (d - 1))) ⟨?_, ?_, ?_⟩
    · simp at h15; have e1 := manys_step h15.1 ((d : Int) - 1); rw [← getD_at h15.1] at e1; have b2 := hmy _ (getD_mem h15.1 (d := E0)); dsimp only; omega
    · simp at h15; simp; omega
    exact Can.weak (Weak.lit (by simp only [go_sem, seval, subM, leV, inns, innr, V.inn, us, true_or, or_true] <;> (simp at h15; have e1 := manys_step h15.1 ((d : Int) - 1); rw [← getD_at h15.1] at e1; have b1 := hdr (k.1 + 1); have b2 := hmy _ (getD_mem h15.1 (d := E0)); exact ⟨wrap64 (by omega) (by omega), by rw [wrap64 (by omega) (by omega)]; omega⟩)) (by simp only [go_sem, seval, subM, leV, inns, innr, V.inn, us, true_or, or_true]) (by simp only [go_sem, seval, subM, leV, inns, innr, V.inn, us, true_or, or_true]))
  · refine AWp.exit ?_
    refine AWp.seq ?_
    refine AWp.rgn [] (by simp only [go_sem, seval]; rfl) ?_ ?_
    · first | trivial | simp
    refine AWp.ret (And.intro (.inr rfl) ?_)
    exact Out.plain (by simp only [Tryz.results152]; rfl) (by simp only [resCs, resC, go_sem, seval] <;> (split <;> rfl)) (by simp only [resV, go_sem, seval] <;> (simp at h15; have : e.kids.length ≤ k.1 := (by omega); have e1 := manys_end this ((d : Int) - 1); simp; omega)) (by simp only [go_sem, seval])
def E1 : E := .mk 1 0 [] []
theorem sExprOk_a (e : E) (hs : sm e = true) : ACall En 84 [.ag (eC e)] [] [.b (eok e)] [] := by
  cases hf : form e 5 with
  | true =>
  refine acall_of_body (fn := Tryz.f84) [] Tryz.func84 rfl rfl (by simp) fun C => ?_
  rw [entry_eq]
  simp only [Tryz.ntmps84, List.length_cons, List.length_nil, Nat.reduceAdd, Nat.reduceSub, List.replicate_succ, List.replicate_zero, List.cons_append, List.nil_append, numL]
  refine AWp.seq ?_
  refine AWp.rgn [] (by simp only [go_sem, seval]; rfl) ?_ ?_
  · first | trivial | simp
  refine AWp.seq ?_
  refine AWp.rgn [call0 (l4Form_a e 5 (by decide) (by decide) hs), call0 (l4Many_a e 5 (by decide) hf hs)] (by simp only [go_sem, seval]; rfl) ?_ ?_
  · first | trivial | simp
  refine AWp.ret (And.intro (.inr rfl) ?_)
  exact Out.plain (by simp only [Tryz.results84]; rfl) (by simp only [resCs, resC, go_sem, seval] <;> (split <;> rfl)) (by simp only [resV, go_sem, seval] <;> (simp [eok, hf])) (by simp only [go_sem, seval])
  | false =>
  refine acall_of_body (fn := Tryz.f84) [] Tryz.func84 rfl rfl (by simp) fun C => ?_
  rw [entry_eq]
  simp only [Tryz.ntmps84, List.length_cons, List.length_nil, Nat.reduceAdd, Nat.reduceSub, List.replicate_succ, List.replicate_zero, List.cons_append, List.nil_append, numL]
  refine AWp.seq ?_
  refine AWp.rgn [] (by simp only [go_sem, seval]; rfl) ?_ ?_
  · first | trivial | simp
  refine AWp.seq ?_
  refine AWp.rgn [call0 (l4Form_a e 5 (by decide) (by decide) hs), call0 (l4Many_a E1 1 (by decide) rfl rfl)] (by simp only [go_sem, seval, hf]; rfl) ?_ ?_
  · first | trivial | simp
  refine AWp.ret (And.intro (.inr rfl) ?_)
  exact Out.plain (by simp only [Tryz.results84]; rfl) (by simp only [resCs, resC, go_sem, seval] <;> (split <;> rfl)) (by simp only [resV, go_sem, seval] <;> (simp [eok, hf])) (by simp only [go_sem, seval])
end

section
set_option maxRecDepth 100000
set_option maxHeartbeats 4000000

def WalkA (e : E) : Prop := ∀ d p : Int, 0 ≤ d → d ≤ 6 → 0 ≤ p → p ≤ 12 → ACall En 182 [.ag (eC e), .i .i64 d, .pt 0 1 0 0] [⟨3, 1, [[.i .i64 p]]⟩] [.b (wlk e d p).1] [⟨3, 1, [[.i .i64 (wlk e d p).2]]⟩]
theorem walk1_a (e : E) (h : WalkA e) (d p : Int) (h1 : 0 ≤ d) (h2 : d ≤ 5) (h3 : 0 ≤ p) (h4 : p ≤ 12) :
    ACall En 213 [.ag (eC e), .pt 0 1 0 0, .pt 1 1 0 0] [⟨3, 1, [[.i .i64 d]]⟩, ⟨181, 1, [[.pt 2 1 0 0]]⟩, ⟨3, 1, [[.i .i64 p]]⟩]
      [.b (!(wlk e (d + 1) p).1)] [⟨3, 1, [[.i .i64 d]]⟩, ⟨181, 1, [[.pt 2 1 0 0]]⟩, ⟨3, 1, [[.i .i64 (wlk e (d + 1) p).2]]⟩] := by
  refine acall_of_body (fn := Tryz.f213) [0, 1, 2] Tryz.func213 rfl rfl (by simp) fun C => ?_
  rw [entry_eq]
  simp only [Tryz.ntmps213, List.length_cons, List.length_nil, Nat.reduceAdd, Nat.reduceSub, List.replicate_succ, List.replicate_zero, List.cons_append, List.nil_append, numL]
  refine AWp.seq ?_
  refine AWp.rgn [] (by simp only [go_sem, seval]; rfl) ?_ ?_
  · first | trivial | simp
  refine AWp.seq ?_
  refine AWp.rgn [callN [2] [] (h (d + 1) p (by omega) (by omega) h3 h4)] (by simp only [go_sem, seval, wrap64 (show -9223372036854775808 ≤ d + 1 by omega) (by omega), memEq, clrs]; rfl) ?_ ?_
  · simp
  refine AWp.ret (And.intro (.inr rfl) ?_)
  exact Out.mem' (by simp only [Tryz.results213]; rfl) (by simp only [resCs, resC, go_sem, seval]) (by simp only [resV, rns, rn, go_sem, seval] <;> (simp_all)) (by simp) rfl (by decide) (by simp only [go_sem, seval]) (by simp only [clrs, go_sem, seval]) (by simp only [memEq, go_sem, seval] <;> (simp))
def wix : List E → Int → Int → Int → Int
  | [], _, _, _ => -1
  | e :: r, d, p, k => if (wlk e d p).1 then wix r d (wlk e d p).2 (k + 1) else k
theorem wix_step {kids : List E} {k : Nat} (h : k < kids.length) (d p j : Int) : wix (kids.drop k) d p j = if (wlk kids[k] d p).1 then wix (kids.drop (k + 1)) d (wlk kids[k] d p).2 (j + 1) else j := by
  rw [List.drop_eq_getElem_cons h]; simp only [wix]
theorem wix_pos : ∀ (l : List E) (d p j : Int), 0 ≤ j → decide (wix l d p j ≥ 0) = !(wlks l d p).1
  | [], d, p, j, h => by simp [wix, wlks]
  | e :: r, d, p, j, h => by
    have ih := wix_pos r d (wlk e d p).2 (j + 1) (by omega)
    have e1 : wix (e :: r) d p j = bif (wlk e d p).1 then wix r d (wlk e d p).2 (j + 1) else j := by simp only [wix]; cases (wlk e d p).1 <;> rfl
    have e2 : wlks (e :: r) d p = bif (wlk e d p).1 then wlks r d (wlk e d p).2 else (false, (wlk e d p).2) := by simp only [wlks]; cases (wlk e d p).1 <;> rfl
    rw [e2]
    simp only [e1]
    cases hc : (wlk e d p).1
    · simp [h]
    · exact ih
theorem IndexW_a (kids : List E) (ih : ∀ e ∈ kids, WalkA e) (d p : Int) (h1 : 0 ≤ d) (h2 : d ≤ 5) (h3 : 0 ≤ p) (h4 : p ≤ 12) (hl : kids.length < 4611686018427387904) :
    ACall En 232 [.sl false (eR kids), .fn (.func 213) [] [.pt 0 1 0 0, .pt 1 1 0 0]] [⟨3, 1, [[.i .i64 d]]⟩, ⟨181, 1, [[.pt 2 1 0 0]]⟩, ⟨3, 1, [[.i .i64 p]]⟩]
      [.i .i64 (wix kids (d + 1) p 0)] [⟨3, 1, [[.i .i64 d]]⟩, ⟨181, 1, [[.pt 2 1 0 0]]⟩, ⟨3, 1, [[.i .i64 (wlks kids (d + 1) p).2]]⟩] := by
  refine acall_of_body (fn := Tryz.f232) [0, 1, 2] Tryz.func232 rfl rfl (by simp) fun C => ?_
  rw [entry_eq]
  simp only [Tryz.ntmps232, List.length_cons, List.length_nil, Nat.reduceAdd, Nat.reduceSub, List.replicate_succ, List.replicate_zero, List.cons_append, List.nil_append, numL]
  refine AWp.seq ?_
  refine AWp.rgn [] (by simp only [go_sem, seval]; rfl) ?_ ?_
  · first | trivial | simp
  refine AWp.seq ?_
  refine AWp.seq ?_
  refine AWp.rgn [] (by simp only [go_sem, seval]; rfl) ?_ ?_
  · first | trivial | simp
  refine AWp.block ?_
  refine AWp.loopK (fun k : Nat × Int => ⟨[.sl false (eR kids), .fn (.func 213) [] [.pt 0 1 0 0, .pt 1 1 0 0], .no, .no, .i .i64 0, .no, .no, .i .i64 kids.length, .i .i64 k.1, .no, .no, .no, .no, .no, .no, .no, .no, .no, .no], memOf [(0, ⟨3, 1, [[.i .i64 d]]⟩), (1, ⟨181, 1, [[.pt 2 1 0 0]]⟩), (2, ⟨3, 1, [[.i .i64 k.2]]⟩)], us []⟩) (fun k : Nat × Int => k.1 ≤ kids.length ∧ 0 ≤ k.2 ∧ k.2 ≤ 12 ∧ wlks kids (d + 1) p = wlks (kids.drop k.1) (d + 1) k.2 ∧ wix kids (d + 1) p 0 = wix (kids.drop k.1) (d + 1) k.2 k.1) (fun k : Nat × Int => kids.length - k.1) ((0, p)) ?_ ?_ (fun k hI => ?_)
  · simp; omega
  · exact Can.weak (Weak.lit (by simp only [go_sem, seval, subM, leV, inns, innr, V.inn, us, true_or, or_true] <;> (simp)) (by simp only [go_sem, seval, subM, leV, inns, innr, V.inn, us, true_or, or_true]) (by simp only [go_sem, seval, subM, leV, inns, innr, V.inn, us, true_or, or_true]))
  refine AWp.seq ?_
  refine AWp.rgn [] (by simp only [go_sem, seval]; rfl) ?_ ?_
  · first | trivial | simp
  refine AWp.seq ?_
  refine AWp.condB (by simp only [go_sem, seval]; rfl) (by simp only [go_sem, seval]) (fun h9 => ?_) (fun h9 => ?_)
  · refine AWp.skip ?_
    refine AWp.seq ?_
    refine AWp.block ?_
    refine AWp.seq ?_
    refine AWp.rgn [] (by simp only [go_sem, seval]; rfl) ?_ ?_
    · first | trivial | simp
    refine AWp.seq ?_
    refine AWp.rgn [callN [0, 1, 2] [] (walk1_a (kids.getD k.1 E0) (ih _ (getD_mem (by simpa using h9))) d k.2 h1 h2 (by omega) (by omega))] (by simp only [go_sem, seval, memEq, clrs, eR_get (show k.1 < kids.length by simpa using h9)]; rfl) ?_ ?_
    · simp at h9; simp; omega
    refine AWp.condB (by simp only [go_sem, seval]; rfl) (by simp only [go_sem, seval]) (fun h16 => ?_) (fun h16 => ?_)
    · refine AWp.seq ?_
      refine AWp.rgn [] (by simp only [go_sem, seval]; rfl) ?_ ?_
      · first | trivial | simp
      refine AWp.ret (And.intro (.inr rfl) ?_)
      exact Out.mem' (by simp only [Tryz.results232]; rfl) (by simp only [resCs, resC, go_sem, seval]) (by simp only [resV, rns, rn, go_sem, seval] <;> (simp at h9; have hw : (wlk (kids.getD k.1 E0) (d + 1) k.2).1 = false := (by simpa using h16); rw [hI.2.2.2.2, wix_step h9, ← getD_at h9, hw]; simp)) (by simp) rfl (by decide) (by simp only [go_sem, seval]) (by simp only [clrs, go_sem, seval]) (by simp only [memEq, go_sem, seval] <;> (simp at h9; have hw : (wlk (kids.getD k.1 E0) (d + 1) k.2).1 = false := (by simpa using h16); rw [hI.2.2.2.1, wlks_step h9, ← getD_at h9, hw]; simp))
    · refine AWp.skip ?_
      refine AWp.rgn [] (by simp only [go_sem, seval]; rfl) ?_ ?_
      · first | trivial | simp
      refine Exists.intro ((k.1 + 1, (wlk (kids.getD k.1 E0) (d + 1) k.2).2)) ⟨?_, ?_, ?_⟩
      · simp at h9; obtain ⟨g0, g1, g2, g3, g4⟩ := hI; rw [wlks_step h9, ← getD_at h9] at g3; rw [wix_step h9, ← getD_at h9] at g4; have hw : (wlk (kids.getD k.1 E0) (d + 1) k.2).1 = true := (by simpa using h16); rw [hw] at g3 g4; have := wlk_le _ _ _ hw; exact ⟨by dsimp only; omega, by dsimp only; omega, by dsimp only; omega, by simpa using g3, by simpa using g4⟩
      · simp at h9; simp; omega
      exact Can.weak (Weak.lit (by simp only [go_sem, seval, subM, leV, inns, innr, V.inn, us, true_or, or_true] <;> (rw [wrap64 (by simp at h9; omega) (by simp at h9; omega)]; simp)) (by simp only [go_sem, seval, subM, leV, inns, innr, V.inn, us, true_or, or_true]) (by simp only [go_sem, seval, subM, leV, inns, innr, V.inn, us, true_or, or_true]))
  · refine AWp.exit ?_
    refine AWp.seq ?_
    refine AWp.rgn [] (by simp only [go_sem, seval]; rfl) ?_ ?_
    · first | trivial | simp
    refine AWp.ret (And.intro (.inr rfl) ?_)
    exact Out.mem' (by simp only [Tryz.results232]; rfl) (by simp only [resCs, resC, go_sem, seval]) (by simp only [resV, rns, rn, go_sem, seval] <;> (simp at h9; rw [hI.2.2.2.2, List.drop_of_length_le h9]; simp [wix])) (by simp) rfl (by decide) (by simp only [go_sem, seval]) (by simp only [clrs, go_sem, seval]) (by simp only [memEq, go_sem, seval] <;> (simp at h9; rw [hI.2.2.2.1, wlks_end h9]))
theorem ContainsW_a (kids : List E) (ih : ∀ e ∈ kids, WalkA e) (d p : Int) (h1 : 0 ≤ d) (h2 : d ≤ 5) (h3 : 0 ≤ p) (h4 : p ≤ 12) (hl : kids.length < 4611686018427387904) :
    ACall En 212 [.sl false (eR kids), .fn (.func 213) [] [.pt 0 1 0 0, .pt 1 1 0 0]] [⟨3, 1, [[.i .i64 d]]⟩, ⟨181, 1, [[.pt 2 1 0 0]]⟩, ⟨3, 1, [[.i .i64 p]]⟩]
      [.b (!(wlks kids (d + 1) p).1)] [⟨3, 1, [[.i .i64 d]]⟩, ⟨181, 1, [[.pt 2 1 0 0]]⟩, ⟨3, 1, [[.i .i64 (wlks kids (d + 1) p).2]]⟩] := by
  refine acall_of_body (fn := Tryz.f212) [0, 1, 2] Tryz.func212 rfl rfl (by simp) fun C => ?_
  rw [entry_eq]
  simp only [Tryz.ntmps212, List.length_cons, List.length_nil, Nat.reduceAdd, Nat.reduceSub, List.replicate_succ, List.replicate_zero, List.cons_append, List.nil_append, numL]
  refine AWp.seq ?_
  refine AWp.rgn [] (by simp only [go_sem, seval]; rfl) ?_ ?_
  · first | trivial | simp
  refine AWp.seq ?_
  refine AWp.rgn [callN [0, 1, 2] [] (IndexW_a kids ih d p h1 h2 h3 h4 hl)] (by simp only [go_sem, seval, memEq, clrs]; rfl) ?_ ?_
  · simp
  refine AWp.ret (And.intro (.inr rfl) ?_)
  exact Out.mem' (by simp only [Tryz.results212]; rfl) (by simp only [resCs, resC, go_sem, seval]) (by simp only [resV, rns, rn, go_sem, seval] <;> (rw [wix_pos _ _ _ _ (by decide)])) (by simp) rfl (by decide) (by simp only [go_sem, seval]) (by simp only [clrs, go_sem, seval]) (by simp only [memEq, go_sem, seval] <;> (simp))
theorem wlk_eq (e : E) (d p : Int) : wlk e d p = if 5 < d ∨ 12 < p + 1 then (false, p + 1) else if shape e.kind e.n e.s e.kids.length then wlks e.kids (d + 1) (p + 1) else (false, p + 1) := by cases e; simp only [wlk, E.kind, E.n, E.s, E.kids]; rfl
theorem tight_gt (s : Str) : decide (tight s > 0) = isOp s := tight_pos s
theorem beq_c0 (n : Nat) : ((n : Int) == 0) = (n == 0) := beq_cast n 0
theorem beq_c1 (n : Nat) : ((n : Int) == 1) = (n == 1) := beq_cast n 1
theorem beq_c2 (n : Nat) : ((n : Int) == 2) = (n == 2) := beq_cast n 2
theorem walk_a (e : E) (hs : sm e = true) : WalkA e := by
  induction e using E.ind' with
  | h e ih =>
  intro d p hd hd6 hp hp12
  obtain ⟨a1, a2, a3⟩ := sm_open hs
  refine acall_of_body (fn := Tryz.f182) [0] Tryz.func182 rfl rfl (by simp) fun C => ?_
  rw [entry_eq]
  simp only [Tryz.ntmps182, List.length_cons, List.length_nil, Nat.reduceAdd, Nat.reduceSub, List.replicate_succ, List.replicate_zero, List.cons_append, List.nil_append, numL]
  refine AWp.seq ?_
  refine AWp.rgn [] (by simp only [go_sem, seval]; rfl) ?_ ?_
  · simp
  refine AWp.seq ?_
  refine AWp.rgn [] (by simp only [go_sem, seval, wrap64 (show -9223372036854775808 ≤ p + 1 by omega) (by omega)]; rfl) ?_ ?_
  · simp
  refine AWp.seq ?_
  refine AWp.seq ?_
  refine AWp.rgn [] (by simp only [go_sem, seval]; rfl) ?_ ?_
  · simp
  refine AWp.condB (by simp only [go_sem, seval]; rfl) (by simp only [go_sem, seval]) (fun h20 => ?_) (fun h20 => ?_)
  · refine AWp.seq ?_
    refine AWp.rgn [] (by simp only [go_sem, seval]; rfl) ?_ ?_
    · simp
    refine AWp.ret (And.intro (.inr rfl) ?_)
    exact Out.mem' (by simp only [Tryz.results182]; rfl) (by simp only [resCs, resC, go_sem, seval]) (by simp only [resV, rns, rn, go_sem, seval] <;> (have g : 5 < d ∨ 12 < p + 1 := (by simp at h20; omega); rw [wlk_eq, if_pos g])) (by simp) rfl (by decide) (by simp only [go_sem, seval]) (by simp only [clrs, go_sem, seval]) (by simp only [memEq, go_sem, seval] <;> (have g : 5 < d ∨ 12 < p + 1 := (by simp at h20; omega); rw [wlk_eq, if_pos g]))
  · refine AWp.skip ?_
    refine AWp.seq ?_
    refine AWp.rgn [] (by simp only [go_sem, seval]; rfl) ?_ ?_
    · simp
    refine AWp.seqJ (fun q : Bool => ⟨[.no, .no, .no, .pt 13 4 0 0, .pt 14 1 0 0, .pt 15 1 0 0, .b false, .b q, .no, .no, .no, .no, .no, .no, .no, .no, .no, .no, .no, .no, .no, .no, .no, .no, .no, .no, .no, .no, .no, .no, .no, .no, .no, .no, .no, .no, .no, .no, .no, .no, .no, .no, .no, .no, .no, .no, .no, .no, .no, .no, .no, .no, .no, .no, .no, .no, .no, .no, .no, .no, .no, .no, .no, .no, .no, .no, .no, .no, .no, .no, .no, .no, .no, .no, .no, .no, .no, .no, .no, .no, .no, .no, .no, .no, .no, .no, .no, .no, .no, .no, .no, .no, .no, .no, .no, .no], memOf [(0, ⟨3, 1, [[.i .i64 (p + 1)]]⟩), (13, ⟨30, 4, [eC e]⟩), (14, ⟨3, 1, [[.i .i64 d]]⟩), (15, ⟨181, 1, [[.pt 0 1 0 0]]⟩)], us [13, 14, 15]⟩) (fun q : Bool => q = shape e.kind e.n e.s e.kids.length) ?_ (fun q hJ => ?_)
    · refine AWp.seq ?_
      refine AWp.rgn [] (by simp only [go_sem, seval]; rfl) ?_ ?_
      · simp
      refine AWp.block ?_
      refine AWp.seq ?_
      refine AWp.rgn [] (by simp only [go_sem, seval]; rfl) ?_ ?_
      · simp
      refine AWp.condB (by simp only [go_sem, seval]; rfl) (by simp only [go_sem, seval]) (fun h23 => ?_) (fun h23 => ?_)
      · refine AWp.rgn [call0 (in_a e.n 0 1000000)] (by simp only [go_sem, seval]; rfl) ?_ ?_
        · simp
        refine Exists.intro (decide (0 ≤ e.n) && decide (e.n ≤ 1000000) && e.s == [] && (e.kids.length : Int) == 0) ⟨?_, ?_⟩
        · (first | rw [beq_c0] | rw [beq_c1] | rw [beq_c2] | skip); simp_all [shape]
        exact Can.weak (Weak.lit (by simp only [go_sem, seval, subM, leV, inns, innr, V.inn, us, true_or, or_true]) (by simp only [go_sem, seval, subM, leV, inns, innr, V.inn, us, true_or, or_true]) (by simp only [go_sem, seval, subM, leV, inns, innr, V.inn, us, true_or, or_true]))
      · refine AWp.seq ?_
        refine AWp.rgn [] (by simp only [go_sem, seval]; rfl) ?_ ?_
        · simp
        refine AWp.condB (by simp only [go_sem, seval]; rfl) (by simp only [go_sem, seval]) (fun h39 => ?_) (fun h39 => ?_)
        · refine AWp.rgn [call0 (isName_a e.s a1)] (by simp only [go_sem, seval]; rfl) ?_ ?_
          · simp
          refine Exists.intro (e.n == 0 && isNm e.s && (e.kids.length : Int) == 0) ⟨?_, ?_⟩
          · (first | rw [beq_c0] | rw [beq_c1] | rw [beq_c2] | skip); simp_all [shape]
          exact Can.weak (Weak.lit (by simp only [go_sem, seval, subM, leV, inns, innr, V.inn, us, true_or, or_true]) (by simp only [go_sem, seval, subM, leV, inns, innr, V.inn, us, true_or, or_true]) (by simp only [go_sem, seval, subM, leV, inns, innr, V.inn, us, true_or, or_true]))
        · refine AWp.seq ?_
          refine AWp.rgn [] (by simp only [go_sem, seval]; rfl) ?_ ?_
          · simp
          refine AWp.condB (by simp only [go_sem, seval]; rfl) (by simp only [go_sem, seval]) (fun h55 => ?_) (fun h55 => ?_)
          · refine AWp.rgn [call0 (tightness_a e.s)] (by simp only [go_sem, seval, tight_gt]; rfl) ?_ ?_
            · simp
            refine Exists.intro (e.n == 0 && isOp e.s && (e.kids.length : Int) == 2) ⟨?_, ?_⟩
            · (first | rw [beq_c0] | rw [beq_c1] | rw [beq_c2] | skip); simp_all [shape]
            exact Can.weak (Weak.lit (by simp only [go_sem, seval, subM, leV, inns, innr, V.inn, us, true_or, or_true]) (by simp only [go_sem, seval, subM, leV, inns, innr, V.inn, us, true_or, or_true]) (by simp only [go_sem, seval, subM, leV, inns, innr, V.inn, us, true_or, or_true]))
          · refine AWp.seq ?_
            refine AWp.rgn [] (by simp only [go_sem, seval]; rfl) ?_ ?_
            · simp
            refine AWp.condB (by simp only [go_sem, seval]; rfl) (by simp only [go_sem, seval]) (fun h72 => ?_) (fun h72 => ?_)
            · refine AWp.rgn [call0 (isType_a e.s)] (by simp only [go_sem, seval]; rfl) ?_ ?_
              · simp
              refine Exists.intro (e.n == 0 && isTyp e.s && (e.kids.length : Int) == 1) ⟨?_, ?_⟩
              · (first | rw [beq_c0] | rw [beq_c1] | rw [beq_c2] | skip); simp_all [shape]
              exact Can.weak (Weak.lit (by simp only [go_sem, seval, subM, leV, inns, innr, V.inn, us, true_or, or_true]) (by simp only [go_sem, seval, subM, leV, inns, innr, V.inn, us, true_or, or_true]) (by simp only [go_sem, seval, subM, leV, inns, innr, V.inn, us, true_or, or_true]))
            · refine AWp.skip ?_
              refine Exists.intro (false) ⟨?_, ?_⟩
              · (first | rw [beq_c0] | rw [beq_c1] | rw [beq_c2] | skip); simp_all [shape]
              exact Can.weak (Weak.lit (by simp only [go_sem, seval, subM, leV, inns, innr, V.inn, us, true_or, or_true]) (by simp only [go_sem, seval, subM, leV, inns, innr, V.inn, us, true_or, or_true]) (by simp only [go_sem, seval, subM, leV, inns, innr, V.inn, us, true_or, or_true]))
    cases q
    · refine AWp.seq ?_
      refine AWp.rgn [callN [14, 15, 0] [] (ContainsW_a e.kids (fun x hx => ih x hx (sms_mem a3 x hx)) d (p + 1) hd (by simp at h20; omega) (by omega) (by simp at h20; omega) a2)] (by simp only [go_sem, seval, memEq, clrs]; rfl) ?_ ?_
      · simp
      refine AWp.ret (And.intro (.inr rfl) ?_)
      exact Out.mem' (by simp only [Tryz.results182]; rfl) (by simp only [resCs, resC, go_sem, seval]) (by simp only [resV, rns, rn, go_sem, seval] <;> (have g : ¬ (5 < d ∨ 12 < p + 1) := (by simp at h20; omega); rw [wlk_eq, if_neg g, ← hJ]; rfl)) (by simp) rfl (by decide) (by simp only [go_sem, seval]) (by simp only [clrs, go_sem, seval]) (by simp only [memEq, go_sem, seval] <;> (have g : ¬ (5 < d ∨ 12 < p + 1) := (by simp at h20; omega); rw [wlk_eq, if_neg g, ← hJ]; rfl))
    · refine AWp.seq ?_
      refine AWp.rgn [callN [14, 15, 0] [] (ContainsW_a e.kids (fun x hx => ih x hx (sms_mem a3 x hx)) d (p + 1) hd (by simp at h20; omega) (by omega) (by simp at h20; omega) a2)] (by simp only [go_sem, seval, memEq, clrs]; rfl) ?_ ?_
      · simp
      refine AWp.ret (And.intro (.inr rfl) ?_)
      exact Out.mem' (by simp only [Tryz.results182]; rfl) (by simp only [resCs, resC, go_sem, seval]) (by simp only [resV, rns, rn, go_sem, seval] <;> (have g : ¬ (5 < d ∨ 12 < p + 1) := (by simp at h20; omega); rw [wlk_eq, if_neg g, ← hJ]; simp)) (by simp) rfl (by decide) (by simp only [go_sem, seval]) (by simp only [clrs, go_sem, seval]) (by simp only [memEq, go_sem, seval] <;> (have g : ¬ (5 < d ∨ 12 < p + 1) := (by simp at h20; omega); rw [wlk_eq, if_neg g, ← hJ]; rfl))
theorem iExprOk_a (e : E) (hs : sm e = true) : ACall En 139 [.ag (eC e)] [] [.b (eok e)] [] := by
  refine acall_of_body (fn := Tryz.f139) [] Tryz.func139 rfl rfl (by simp) fun C => ?_
  rw [entry_eq]
  simp only [Tryz.ntmps139, List.length_cons, List.length_nil, Nat.reduceAdd, Nat.reduceSub, List.replicate_succ, List.replicate_zero, List.cons_append, List.nil_append, numL]
  refine AWp.seq ?_
  refine AWp.rgn [] (by simp only [go_sem, seval]; rfl) ?_ ?_
  · first | trivial | simp
  refine AWp.seq ?_
  refine AWp.rgn [] (by simp only [go_sem, seval]; rfl) ?_ ?_
  · first | trivial | simp
  refine AWp.seq ?_
  refine AWp.rgn [callN [13] [] (walk_a e hs 1 0 (by decide) (by decide) (by decide) (by decide))] (by simp only [go_sem, seval, memEq, clrs]; rfl) ?_ ?_
  · first | trivial | simp
  refine AWp.ret (And.intro (.inr rfl) ?_)
  exact Out.plain (by simp only [Tryz.results139]; rfl) (by simp only [resCs, resC, go_sem, seval] <;> (split <;> rfl)) (by simp only [resV, go_sem, seval] <;> (rw [wlk_eok])) (by simp only [go_sem, seval])
end
end Go.Proofs.YteihfmnmpdbkiaaGreatDoor
