/- What the leaves answer. Conditions: none. -/
import Derived.Test.YtefmbmafdgedmaaGreatDoorMe
import Derived.Test.YtefmbmafdgedmaaGreatDoorMc
set_option linter.unusedVariables false
set_option linter.unusedSimpArgs false
namespace Go.Proofs.YtefmbmafdgedmaaGreatDoor
section
set_option maxRecDepth 100000
set_option maxHeartbeats 4000000
theorem s6_ (n lo hi : Int) : ACall En 86 [.i .i64 n, .i .i64 lo, .i .i64 hi] [] [.b (decide (lo ≤ n) && decide (n ≤ hi))] [] := by
 refine ap_ (fn := Tryz.f86) [] Tryz.func86 rfl rfl (by simp) fun C => ?_
 rw [a0_]
 simp only [Tryz.ntmps86, List.length_cons, List.length_nil, Nat.reduceAdd, Nat.reduceSub, List.replicate_succ, List.replicate_zero, List.cons_append, List.nil_append, bq_]
 refine .seq (.rgn [] (by simp only [go_sem, seval]; rfl) ?_ ?_)
 ·first | trivial | simp
 refine .seq (.rgn [] (by simp only [go_sem, seval]; rfl) ?_ ?_)
 ·first | trivial | simp
 refine .ret ⟨.inr rfl, ?_⟩
 exact Out.plain (by simp only [Tryz.results86]; rfl) (by simp only [a1_, bc_, go_sem, seval] <;> (split <;> rfl)) (by simp only [ba_, go_sem, seval] <;> (rfl)) (by simp only [go_sem, seval])
theorem md_ (c : UInt8) : ACall En 51 [.i .u8 c.toNat] [] [.b (cf_ c)] [] := by
 refine ap_ (fn := Tryz.f51) [] Tryz.func51 rfl rfl (by simp) fun C => ?_
 rw [a0_]
 simp only [Tryz.ntmps51, List.length_cons, List.length_nil, Nat.reduceAdd, Nat.reduceSub, List.replicate_succ, List.replicate_zero, List.cons_append, List.nil_append, bq_]
 refine .seq (.rgn [] (by simp only [go_sem, seval]; rfl) ?_ ?_)
 ·first | trivial | simp
 refine .seq (.rgn [] (by simp only [go_sem, seval]; rfl) ?_ ?_)
 ·first | trivial | simp
 refine .ret ⟨.inr rfl, ?_⟩
 exact Out.plain (by simp only [Tryz.results51]; rfl) (by simp only [a1_, bc_, go_sem, seval] <;> (split <;> rfl)) (by simp only [ba_, go_sem, seval] <;> (simp only [cf_])) (by simp only [go_sem, seval])
theorem v7_ (c : UInt8) : ACall En 52 [.i .u8 c.toNat] [] [.b (b7_ c)] [] := by
 refine ap_ (fn := Tryz.f52) [] Tryz.func52 rfl rfl (by simp) fun C => ?_
 rw [a0_]
 simp only [Tryz.ntmps52, List.length_cons, List.length_nil, Nat.reduceAdd, Nat.reduceSub, List.replicate_succ, List.replicate_zero, List.cons_append, List.nil_append, bq_]
 refine .seq (.rgn [] (by simp only [go_sem, seval]; rfl) ?_ ?_)
 ·first | trivial | simp
 refine .seq (.rgn [] (by simp only [go_sem, seval]; rfl) ?_ ?_)
 ·first | trivial | simp
 refine .ret ⟨.inr rfl, ?_⟩
 exact Out.plain (by simp only [Tryz.results52]; rfl) (by simp only [a1_, bc_, go_sem, seval] <;> (split <;> rfl)) (by simp only [ba_, go_sem, seval] <;> (simp only [b7_])) (by simp only [go_sem, seval])
theorem qc_ (s : Str) : ACall En 141 [.s s] [] [.b (ef_ s)] [] := by
 refine ap_ (fn := Tryz.f141) [] Tryz.func141 rfl rfl (by simp) fun C => ?_
 rw [a0_]
 simp only [Tryz.ntmps141, List.length_cons, List.length_nil, Nat.reduceAdd, Nat.reduceSub, List.replicate_succ, List.replicate_zero, List.cons_append, List.nil_append, bq_]
 refine .seq (.rgn [] (by simp only [go_sem, seval]; rfl) ?_ ?_)
 ·first | trivial | simp
 refine .seq (.rgn [] (by simp only [go_sem, seval]; rfl) ?_ ?_)
 ·first | trivial | simp
 refine .ret ⟨.inr rfl, ?_⟩
 exact Out.plain (by simp only [Tryz.results141]; rfl) (by simp only [a1_, bc_, go_sem, seval] <;> (split <;> rfl)) (by simp only [ba_, go_sem, seval] <;> (simp only [ef_])) (by simp only [go_sem, seval])
theorem ko_ (s : Str) : ACall En 191 [.s s] [] [.i .i64 (bb_ s)] [] := by
 refine ap_ (fn := Tryz.f191) [] Tryz.func191 rfl rfl (by simp) fun C => ?_
 rw [a0_]
 simp only [Tryz.ntmps191, List.length_cons, List.length_nil, Nat.reduceAdd, Nat.reduceSub, List.replicate_succ, List.replicate_zero, List.cons_append, List.nil_append, bq_]
 refine .seq (.rgn [] (by simp only [go_sem, seval]; rfl) ?_ ?_)
 ·first | trivial | simp
 refine .seq (.seq (.rgn [] (by simp only [go_sem, seval]; rfl) ?_ ?_))
 ·first | trivial | simp
 refine .block (.seq (.rgn [] (by simp only [go_sem, seval]; rfl) ?_ ?_))
 ·first | trivial | simp
 refine .condB (by simp only [go_sem, seval]; rfl) (by simp only [go_sem, seval]) (fun h4 => ?_) (fun h4 => ?_)
 ·refine .seq (.rgn [] (by simp only [go_sem, seval]; rfl) ?_ ?_)
  ·first | trivial | simp
  refine .ret ⟨.inr rfl, ?_⟩
  exact Out.plain (by simp only [Tryz.results191]; rfl) (by simp only [a1_, bc_, go_sem, seval] <;> (split <;> rfl)) (by simp only [ba_, go_sem, seval] <;> (simp only [bb_]; simp_all)) (by simp only [go_sem, seval])
 ·refine .seq (.seq (.rgn [] (by simp only [go_sem, seval]; rfl) ?_ ?_))
  ·first | trivial | simp
  refine .condB (by simp only [go_sem, seval]; rfl) (by simp only [go_sem, seval]) (fun h6 => ?_) (fun h6 => ?_)
  ·refine .skip (.condB (by simp only [go_sem, seval]; rfl) (by simp only [go_sem, seval]) (fun h6 => ?_) (fun h6 => ?_))
   ·refine .seq (.rgn [] (by simp only [go_sem, seval]; rfl) ?_ ?_)
    ·first | trivial | simp
    refine .ret ⟨.inr rfl, ?_⟩
    exact Out.plain (by simp only [Tryz.results191]; rfl) (by simp only [a1_, bc_, go_sem, seval] <;> (split <;> rfl)) (by simp only [ba_, go_sem, seval] <;> (simp only [bb_]; simp_all)) (by simp only [go_sem, seval])
   ·refine .seq (.rgn [] (by simp only [go_sem, seval]; rfl) ?_ ?_)
    ·first | trivial | simp
    refine .condB (by simp only [go_sem, seval]; rfl) (by simp only [go_sem, seval]) (fun h9 => ?_) (fun h9 => ?_)
    ·refine .seq (.rgn [] (by simp only [go_sem, seval]; rfl) ?_ ?_)
     ·first | trivial | simp
     refine .ret ⟨.inr rfl, ?_⟩
     exact Out.plain (by simp only [Tryz.results191]; rfl) (by simp only [a1_, bc_, go_sem, seval] <;> (split <;> rfl)) (by simp only [ba_, go_sem, seval] <;> (simp only [bb_]; simp_all)) (by simp only [go_sem, seval])
    ·refine .skip (.seq (.rgn [] (by simp only [go_sem, seval]; rfl) ?_ ?_))
     ·first | trivial | simp
     refine .ret ⟨.inr rfl, ?_⟩
     exact Out.plain (by simp only [Tryz.results191]; rfl) (by simp only [a1_, bc_, go_sem, seval] <;> (split <;> rfl)) (by simp only [ba_, go_sem, seval] <;> (simp only [bb_]; simp_all)) (by simp only [go_sem, seval])
  ·refine .rgn [] (by simp only [go_sem, seval]; rfl) ?_ ?_
   ·first | trivial | simp
   refine .condB (by simp only [go_sem, seval]; rfl) (by simp only [go_sem, seval]) (fun h6 => ?_) (fun h6 => ?_)
   ·refine .seq (.rgn [] (by simp only [go_sem, seval]; rfl) ?_ ?_)
    ·first | trivial | simp
    refine .ret ⟨.inr rfl, ?_⟩
    exact Out.plain (by simp only [Tryz.results191]; rfl) (by simp only [a1_, bc_, go_sem, seval] <;> (split <;> rfl)) (by simp only [ba_, go_sem, seval] <;> (simp only [bb_]; simp_all)) (by simp only [go_sem, seval])
   ·refine .seq (.rgn [] (by simp only [go_sem, seval]; rfl) ?_ ?_)
    ·first | trivial | simp
    refine .condB (by simp only [go_sem, seval]; rfl) (by simp only [go_sem, seval]) (fun h9 => ?_) (fun h9 => ?_)
    ·refine .seq (.rgn [] (by simp only [go_sem, seval]; rfl) ?_ ?_)
     ·first | trivial | simp
     refine .ret ⟨.inr rfl, ?_⟩
     exact Out.plain (by simp only [Tryz.results191]; rfl) (by simp only [a1_, bc_, go_sem, seval] <;> (split <;> rfl)) (by simp only [ba_, go_sem, seval] <;> (simp only [bb_]; simp_all)) (by simp only [go_sem, seval])
    ·refine .skip (.seq (.rgn [] (by simp only [go_sem, seval]; rfl) ?_ ?_))
     ·first | trivial | simp
     refine .ret ⟨.inr rfl, ?_⟩
     exact Out.plain (by simp only [Tryz.results191]; rfl) (by simp only [a1_, bc_, go_sem, seval] <;> (split <;> rfl)) (by simp only [ba_, go_sem, seval] <;> (simp only [bb_]; simp_all)) (by simp only [go_sem, seval])
theorem mw_ (s : Str) : ACall En 101 [.s s] [] [.b (ef_ s)] [] := by
 refine ap_ (fn := Tryz.f101) [] Tryz.func101 rfl rfl (by simp) fun C => ?_
 rw [a0_]
 simp only [Tryz.ntmps101, List.length_cons, List.length_nil, Nat.reduceAdd, Nat.reduceSub, List.replicate_succ, List.replicate_zero, List.cons_append, List.nil_append, bq_]
 refine .seq (.rgn [] (by simp only [go_sem, seval]; rfl) ?_ ?_)
 ·first | trivial | simp
 refine .seq (.rgn [] (by simp only [go_sem, seval]; rfl) ?_ ?_)
 ·first | trivial | simp
 refine .ret ⟨.inr rfl, ?_⟩
 exact Out.plain (by simp only [Tryz.results101]; rfl) (by simp only [a1_, bc_, go_sem, seval] <;> (split <;> rfl)) (by simp only [ba_, go_sem, seval] <;> (simp only [ef_])) (by simp only [go_sem, seval])
theorem aef_ (s : Str) : ACall En 203 [.s s] [] [.b (gn_ s)] [] := by
 refine ap_ (fn := Tryz.f203) [] Tryz.func203 rfl rfl (by simp) fun C => ?_
 rw [a0_]
 simp only [Tryz.ntmps203, List.length_cons, List.length_nil, Nat.reduceAdd, Nat.reduceSub, List.replicate_succ, List.replicate_zero, List.cons_append, List.nil_append, bq_]
 refine .seq (.rgn [] (by simp only [go_sem, seval]; rfl) ?_ ?_)
 ·first | trivial | simp
 refine .seq (.rgn [] (by simp only [go_sem, seval]; rfl) ?_ ?_)
 ·first | trivial | simp
 refine .ret ⟨.inr rfl, ?_⟩
 exact Out.plain (by simp only [Tryz.results203]; rfl) (by simp only [a1_, bc_, go_sem, seval] <;> (split <;> rfl)) (by simp only [ba_, go_sem, seval] <;> (simp only [gn_])) (by simp only [go_sem, seval])
theorem xu_ (s : Str) : ACall En 160 [.s s] [] [.b (ku_ s)] [] := by
 refine ap_ (fn := Tryz.f160) [] Tryz.func160 rfl rfl (by simp) fun C => ?_
 rw [a0_]
 simp only [Tryz.ntmps160, List.length_cons, List.length_nil, Nat.reduceAdd, Nat.reduceSub, List.replicate_succ, List.replicate_zero, List.cons_append, List.nil_append, bq_]
 refine .seq (.rgn [] (by simp (maxSteps := 1000000) only [go_sem, seval]; rfl) ?_ ?_)
 ·first | trivial | simp
 refine .seq (.rgn [a5_ (mw_ s)] (by simp (maxSteps := 1000000) only [go_sem, seval]; rfl) ?_ ?_)
 ·first | trivial | simp
 refine .ret ⟨.inr rfl, ?_⟩
 exact Out.plain (by simp only [Tryz.results160]; rfl) (by simp only [a1_, bc_, go_sem, seval] <;> (split <;> rfl)) (by simp only [ba_, go_sem, seval] <;> (simp only [ku_])) (by simp (maxSteps := 1000000) only [go_sem, seval])
end
section
set_option maxRecDepth 100000
set_option maxHeartbeats 4000000
theorem xp_ (p : UInt8 → Bool) : ∀ (s : Str) (k : Nat), k ≤ s.length → (s.take k).all p = true → (∀ c, s[k]? = some c → p c = false) → (s.takeWhile p).length = k
 | [], k, h, _, _ => by simp at h; simp [h]
 | c :: s, 0, _, _, h => by simp [h c (by simp)]
 | c :: s, k + 1, h, h1, h2 => by
  simp only [List.take_succ_cons, List.all_cons, Bool.and_eq_true] at h1
  rw [List.takeWhile_cons_of_pos h1.1, List.length_cons, xp_ p s k (by simpa using h) h1.2 (by simpa using h2)]
theorem sd_ (p : UInt8 → Bool) (s : Str) (k : Nat) (h : k < s.length) : (s.take (k + 1)).all p = ((s.take k).all p && p (s.getD k 0)) := by
 rw [List.take_add_one, List.getElem?_eq_getElem h, List.all_append, List.getD_eq_getElem?_getD, List.getElem?_eq_getElem h]
 simp
theorem zn_ (p : UInt8 → Bool) (F : Nat) (hF : ∀ c : UInt8, ACall En F [.i .u8 c.toNat] [] [.b (p c)] []) (s : Str) (hs : s.length < 4611686018427387904) : ACall En 50 [.s s, .fn (.func F) [] []] [] [.i .i64 (s.takeWhile p).length] [] := by
 refine ap_ (fn := Tryz.f50) [] Tryz.func50 rfl rfl (by simp) fun C => ?_
 rw [a0_]
 simp only [Tryz.ntmps50, List.length_cons, List.length_nil, Nat.reduceAdd, Nat.reduceSub, List.replicate_succ, List.replicate_zero, List.cons_append, List.nil_append, bq_]
 refine .seq (.rgn [] (by simp only [go_sem, seval]; rfl) ?_ ?_)
 ·first | trivial | simp
 refine .seq (.rgn [] (by simp only [go_sem, seval]; rfl) ?_ ?_)
 ·first | trivial | simp
 refine .seq (.block (.loopK (fun k : Nat => ⟨[.s s, .fn (.func F) [] [], .no, .no, .i .i64 0, .i .i64 k, .no, .no, .no, .no, .no, .no, .no, .no, .no, .no, .no, .no, .no, .no], a6_ [], us []⟩) (fun k : Nat => k ≤ s.length ∧ (s.take k).all p = true) (fun k : Nat => s.length - k) (0) ?_ ?_ (fun k hI => ?_)))
 ·simp
 ·exact Can.weak (Weak.lit (by simp only [go_sem, seval, aw_, leV, at_, au_, V.inn, us, true_or, or_true] <;> (simp)) (by simp only [go_sem, seval, aw_, leV, at_, au_, V.inn, us, true_or, or_true]) (by simp only [go_sem, seval, aw_, leV, at_, au_, V.inn, us, true_or, or_true]))
 refine .seq (.seq (.rgn [a5_ (hF (s.getD k 0))] (by simp only [go_sem, seval]; rfl) ?_ ?_))
 ·first | trivial | simp
 refine .condB (by simp only [go_sem, seval]; rfl) (by simp only [go_sem, seval]) (fun h16 => ?_) (fun h16 => ?_)
 ·refine .skip (.block (.rgn [] (by simp only [go_sem, seval]; rfl) ?_ ?_))
  ·first | trivial | simp
  refine Exists.intro (k + 1) ⟨?_, ?_, ?_⟩
  ·have h2 : k < s.length ∧ p (s.getD k 0) = true := (by simpa using h16); exact ⟨by omega, by rw [sd_ p s k h2.1, hI.2, h2.2]; rfl⟩
  ·have h2 : k < s.length ∧ p (s.getD k 0) = true := (by simpa using h16); omega
  exact Can.weak (Weak.lit (by simp only [go_sem, seval, aw_, leV, at_, au_, V.inn, us, true_or, or_true] <;> (rw [a7_ (by omega) (by omega)]; simp)) (by simp only [go_sem, seval, aw_, leV, at_, au_, V.inn, us, true_or, or_true]) (by simp only [go_sem, seval, aw_, leV, at_, au_, V.inn, us, true_or, or_true]))
 ·refine .exit (.seq (.rgn [] (by simp only [go_sem, seval]; rfl) ?_ ?_))
  ·first | trivial | simp
  refine .ret ⟨.inr rfl, ?_⟩
  exact Out.plain (by simp only [Tryz.results50]; rfl) (by simp only [a1_, bc_, go_sem, seval] <;> (split <;> rfl)) (by simp only [ba_, go_sem, seval] <;> (rw [xp_ p s k hI.1 hI.2]; intro c hc; have := (List.getElem?_eq_some_iff.1 hc).1; simp_all)) (by simp only [go_sem, seval])
end
section
set_option maxRecDepth 100000
set_option maxHeartbeats 4000000
theorem w0_ {l : List Str} {s : Str} {k : Nat} (h : k < l.length) (h1 : ∀ x ∈ l.take k, x ≠ s) (h2 : l.getD k [] = s) : s ∈ l ∧ l.idxOf s = k := by
 rw [List.getD_eq_getElem?_getD, List.getElem?_eq_getElem h] at h2
 simp only [Option.getD_some] at h2
 refine ⟨by rw [← h2]; exact List.getElem_mem h, ?_⟩
 have e := List.take_append_drop k l
 rw [List.drop_eq_getElem_cons h, h2] at e
 have hn : ¬ s ∈ l.take k := fun hm => h1 _ hm rfl
 rw [← e, List.idxOf_append, if_neg hn]
 simp [List.length_take, Nat.min_eq_left (Nat.le_of_lt h)]
theorem aaz_ (l : List Str) (s : Str) (hl : l.length < 4611686018427387904) : ACall En 114 [.sl false (b1_ l), .s s] [] [.i .i64 (sidx l s)] [] := by
 refine ap_ (fn := Tryz.f114) [] Tryz.func114 rfl rfl (by simp) fun C => ?_
 rw [a0_]
 simp only [Tryz.ntmps114, List.length_cons, List.length_nil, Nat.reduceAdd, Nat.reduceSub, List.replicate_succ, List.replicate_zero, List.cons_append, List.nil_append, bq_]
 refine .seq (.rgn [] (by simp only [go_sem, seval]; rfl) ?_ ?_)
 ·first | trivial | simp
 refine .seq (.seq (.rgn [] (by simp only [go_sem, seval]; rfl) ?_ ?_))
 ·first | trivial | simp
 refine .block (.loopK (fun k : Nat => ⟨[.sl false (b1_ l), .s s, .no, .no, .i .i64 0, .no, .no, .i .i64 l.length, .i .i64 k, .no, .no, .no, .no, .no, .no, .no, .no, .no, .no], a6_ [], us []⟩) (fun k : Nat => k ≤ l.length ∧ ∀ x ∈ l.take k, x ≠ s) (fun k : Nat => l.length - k) (0) ?_ ?_ (fun k hI => ?_))
 ·simp
 ·exact Can.weak (Weak.lit (by simp only [go_sem, seval, aw_, leV, at_, au_, V.inn, us, true_or, or_true] <;> (simp)) (by simp only [go_sem, seval, aw_, leV, at_, au_, V.inn, us, true_or, or_true]) (by simp only [go_sem, seval, aw_, leV, at_, au_, V.inn, us, true_or, or_true]))
 refine .seq (.rgn [] (by simp only [go_sem, seval]; rfl) ?_ ?_)
 ·first | trivial | simp
 refine .seq (.condB (by simp only [go_sem, seval]; rfl) (by simp only [go_sem, seval]) (fun h9 => ?_) (fun h9 => ?_))
 ·refine .skip (.seq (.block (.seq (.rgn [] (by simp only [go_sem, seval]; rfl) ?_ ?_))))
  ·first | trivial | simp
  refine .seq (.rgn [] (by simp only [go_sem, seval, gh_ (show k < l.length by simpa using h9)]; rfl) ?_ ?_)
  ·simp at h9; simp [ac_, h9]
  refine .condB (by simp only [go_sem, seval]; rfl) (by simp only [go_sem, seval]) (fun h16 => ?_) (fun h16 => ?_)
  ·refine .seq (.rgn [] (by simp only [go_sem, seval]; rfl) ?_ ?_)
   ·first | trivial | simp
   refine .ret ⟨.inr rfl, ?_⟩
   exact Out.plain (by simp only [Tryz.results114]; rfl) (by simp only [a1_, bc_, go_sem, seval] <;> (split <;> rfl)) (by simp only [ba_, go_sem, seval] <;> (simp at h9; obtain ⟨g1, g2⟩ := w0_ h9 hI.2 (by simpa using (eq_of_beq h16).symm); simp [sidx, g1, g2])) (by simp only [go_sem, seval])
  ·refine .skip (.rgn [] (by simp only [go_sem, seval]; rfl) ?_ ?_)
   ·first | trivial | simp
   refine Exists.intro (k + 1) ⟨?_, ?_, ?_⟩
   ·simp at h9; refine ⟨by omega, fun x hx => ?_⟩; rw [List.take_add_one, List.mem_append, List.getElem?_eq_getElem h9] at hx; rcases hx with hx | hx; exact hI.2 x hx; simp at hx; subst hx; simp [List.getD_eq_getElem?_getD, List.getElem?_eq_getElem h9] at h16; exact fun e => h16 e.symm
   ·simp at h9; omega
   exact Can.weak (Weak.lit (by simp only [go_sem, seval, aw_, leV, at_, au_, V.inn, us, true_or, or_true] <;> (rw [a7_ (by omega) (by omega)]; simp)) (by simp only [go_sem, seval, aw_, leV, at_, au_, V.inn, us, true_or, or_true]) (by simp only [go_sem, seval, aw_, leV, at_, au_, V.inn, us, true_or, or_true]))
 ·refine .exit (.seq (.rgn [] (by simp only [go_sem, seval]; rfl) ?_ ?_))
  ·first | trivial | simp
  refine .ret ⟨.inr rfl, ?_⟩
  exact Out.plain (by simp only [Tryz.results114]; rfl) (by simp only [a1_, bc_, go_sem, seval] <;> (split <;> rfl)) (by simp only [ba_, go_sem, seval] <;> (simp at h9; have : ¬ s ∈ l := fun hm => hI.2 s (by rw [List.take_of_length_le h9]; exact hm) rfl; simp [sidx, this])) (by simp only [go_sem, seval])
theorem sp_ (l : List Str) (s : Str) (hl : l.length < 4611686018427387904) : ACall En 175 [.sl false (b1_ l), .s s] [] [.b (l.contains s)] [] := by
 refine ap_ (fn := Tryz.f175) [] Tryz.func175 rfl rfl (by simp) fun C => ?_
 rw [a0_]
 simp only [Tryz.ntmps175, List.length_cons, List.length_nil, Nat.reduceAdd, Nat.reduceSub, List.replicate_succ, List.replicate_zero, List.cons_append, List.nil_append, bq_]
 refine .seq (.rgn [] (by simp only [go_sem, seval]; rfl) ?_ ?_)
 ·first | trivial | simp
 refine .seq (.rgn [a5_ (aaz_ l s hl)] (by simp only [go_sem, seval]; rfl) ?_ ?_)
 ·first | trivial | simp
 refine .ret ⟨.inr rfl, ?_⟩
 exact Out.plain (by simp only [Tryz.results175]; rfl) (by simp only [a1_, bc_, go_sem, seval] <;> (split <;> rfl)) (by simp only [ba_, go_sem, seval] <;> (by_cases h : s ∈ l <;> simp [sidx, h])) (by simp only [go_sem, seval])
end
section
set_option maxRecDepth 100000
set_option maxHeartbeats 4000000
theorem tz_ {xs ys : List E} {k : Nat} (h1 : k < xs.length) (h2 : k < ys.length) : (xs.zip ys)[k]? = some (xs.getD k E0, ys.getD k E0) := by
 rw [List.getElem?_eq_getElem (by simp; omega)]
 simp [List.getD_eq_getElem?_getD, List.getElem?_eq_getElem h1, List.getElem?_eq_getElem h2]
theorem r5_ {xs ys : List E} {k : Nat} (f : E × E → Bool) (h1 : k < xs.length) (h2 : k < ys.length) : ((xs.zip ys).take (k + 1)).all f = (((xs.zip ys).take k).all f && f (xs.getD k E0, ys.getD k E0)) := by
 rw [List.take_add_one, tz_ h1 h2, List.all_append]; simp
theorem t5_ {xs ys : List E} {k : Nat} (f : E × E → Bool) (h1 : k < xs.length) (h2 : k < ys.length) (h : f (xs.getD k E0, ys.getD k E0) = false) : (xs.zip ys).all f = false := by
 rw [List.all_eq_false]; exact ⟨_, List.mem_of_getElem? (tz_ h1 h2), by rw [h]; simp⟩
theorem q3_ (p : E → E → Bool) (F : Nat) (xs ys : List E) (hF : ∀ x ∈ xs, ∀ y ∈ ys, ACall En F [.ag (eC x), .ag (eC y)] [] [.b (p x y)] []) (hx : xs.length < 4611686018427387904) (hy : ys.length < 4611686018427387904) :
  ACall En 208 [.sl false (eR xs), .sl false (eR ys), .fn (.func F) [] []] [] [.b (decide (xs.length = ys.length) && (xs.zip ys).all fun q => p q.1 q.2)] [] := by
 refine ap_ (fn := Tryz.f208) [] Tryz.func208 rfl rfl (by simp) fun C => ?_
 rw [a0_]
 simp only [Tryz.ntmps208, List.length_cons, List.length_nil, Nat.reduceAdd, Nat.reduceSub, List.replicate_succ, List.replicate_zero, List.cons_append, List.nil_append, bq_]
 refine .seq (.rgn [] (by simp only [go_sem, seval]; rfl) ?_ ?_)
 ·first | trivial | simp
 refine .seq (.seq (.rgn [] (by simp only [go_sem, seval]; rfl) ?_ ?_))
 ·first | trivial | simp
 refine .condB (by simp only [go_sem, seval]; rfl) (by simp only [go_sem, seval]) (fun h14 => ?_) (fun h14 => ?_)
 ·refine .seq (.rgn [] (by simp only [go_sem, seval]; rfl) ?_ ?_)
  ·first | trivial | simp
  refine .ret ⟨.inr rfl, ?_⟩
  exact Out.plain (by simp only [Tryz.results208]; rfl) (by simp only [a1_, bc_, go_sem, seval] <;> (split <;> rfl)) (by simp only [ba_, go_sem, seval] <;> (simp at h14; simp; omega)) (by simp only [go_sem, seval])
 ·refine .skip (.seq (.seq (.rgn [] (by simp only [go_sem, seval]; rfl) ?_ ?_)))
  ·first | trivial | simp
  refine .block (.loopK (fun k : Nat => ⟨[.sl false (eR xs), .sl false (eR ys), .fn (.func F) [] [], .no, .no, .no, .b false, .no, .no, .no, .no, .no, .no, .no, .no, .sl false (eR xs), .i .i64 xs.length, .i .i64 k, .no, .no, .no, .no, .no, .no, .no, .no, .no, .no, .no, .no, .no, .no], a6_ [], us []⟩) (fun k : Nat => k ≤ xs.length ∧ ((xs.zip ys).take k).all (fun q => p q.1 q.2) = true) (fun k : Nat => xs.length - k) (0) ?_ ?_ (fun k hI => ?_))
  ·simp
  ·exact Can.weak (Weak.lit (by simp only [go_sem, seval, aw_, leV, at_, au_, V.inn, us, true_or, or_true] <;> (simp)) (by simp only [go_sem, seval, aw_, leV, at_, au_, V.inn, us, true_or, or_true]) (by simp only [go_sem, seval, aw_, leV, at_, au_, V.inn, us, true_or, or_true]))
  refine .seq (.rgn [] (by simp only [go_sem, seval]; rfl) ?_ ?_)
  ·first | trivial | simp
  refine .seq (.condB (by simp only [go_sem, seval]; rfl) (by simp only [go_sem, seval]) (fun h18 => ?_) (fun h18 => ?_))
  ·refine .skip (.seq (.block (.seq (.rgn [] (by simp only [go_sem, seval, c8_ (show k < xs.length by simpa using h18)]; rfl) ?_ ?_))))
   ·simp at h18; simp [h18]
   refine .seq (.rgn [] (by simp only [go_sem, seval, c8_ (show k < ys.length by simp at h14 h18; omega)]; rfl) ?_ ?_)
   ·simp at h14 h18; simp; omega
   refine .seq (.rgn [a5_ (hF (xs.getD k E0) (bh_ (by simpa using h18)) (ys.getD k E0) (bh_ (by simp at h14 h18; omega)))] (by simp only [go_sem, seval]; rfl) ?_ ?_)
   ·first | trivial | simp
   refine .condB (by simp only [go_sem, seval]; rfl) (by simp only [go_sem, seval]) (fun h30 => ?_) (fun h30 => ?_)
   ·refine .seq (.rgn [] (by simp only [go_sem, seval]; rfl) ?_ ?_)
    ·first | trivial | simp
    refine .ret ⟨.inr rfl, ?_⟩
    exact Out.plain (by simp only [Tryz.results208]; rfl) (by simp only [a1_, bc_, go_sem, seval] <;> (split <;> rfl)) (by simp only [ba_, go_sem, seval] <;> (simp at h14 h18; rw [t5_ _ h18 (by omega) (by simpa using h30)]; simp)) (by simp only [go_sem, seval])
   ·refine .skip (.rgn [] (by simp only [go_sem, seval]; rfl) ?_ ?_)
    ·first | trivial | simp
    refine Exists.intro (k + 1) ⟨?_, ?_, ?_⟩
    ·simp at h14 h18; exact ⟨by omega, by rw [r5_ _ h18 (by omega), hI.2]; simpa using h30⟩
    ·simp at h18; omega
    exact Can.weak (Weak.lit (by simp only [go_sem, seval, aw_, leV, at_, au_, V.inn, us, true_or, or_true] <;> (rw [a7_ (by simp at h18; omega) (by simp at h18; omega)]; simp)) (by simp only [go_sem, seval, aw_, leV, at_, au_, V.inn, us, true_or, or_true]) (by simp only [go_sem, seval, aw_, leV, at_, au_, V.inn, us, true_or, or_true]))
  ·refine .exit (.seq (.rgn [] (by simp only [go_sem, seval]; rfl) ?_ ?_))
   ·first | trivial | simp
   refine .ret ⟨.inr rfl, ?_⟩
   exact Out.plain (by simp only [Tryz.results208]; rfl) (by simp only [a1_, bc_, go_sem, seval] <;> (split <;> rfl)) (by simp only [ba_, go_sem, seval] <;> (simp at h14 h18; have := hI.2; rw [List.take_of_length_le (by simp; omega)] at this; rw [this]; simp; omega)) (by simp only [go_sem, seval])
theorem f9_ : ∀ xs ys : List E, same.sameL xs ys = (decide (xs.length = ys.length) && (xs.zip ys).all fun q => same q.1 q.2)
 | [], [] => rfl
 | [], _ :: _ => by simp [same.sameL]
 | _ :: _, [] => by simp [same.sameL]
 | x :: xs, y :: ys => by
  simp only [same.sameL, f9_ xs ys, List.zip_cons_cons, List.all_cons, List.length_cons, Nat.add_right_cancel_iff]
  cases same x y <;> simp
end
section
set_option maxRecDepth 100000
set_option maxHeartbeats 4000000
theorem qv_ (x : E) : ∀ y, sm x = true → sm y = true → ACall En 174 [.ag (eC x), .ag (eC y)] [] [.b (same x y)] [] := by
 induction x using E.ind' with
 | h x ih =>
 intro y hx hy
 obtain ⟨a1, a2, a3⟩ := dx_ hx
 obtain ⟨b1, b2, b3⟩ := dx_ hy
 refine ap_ (fn := Tryz.f174) [] Tryz.func174 rfl rfl (by simp) fun C => ?_
 rw [a0_]
 simp only [Tryz.ntmps174, List.length_cons, List.length_nil, Nat.reduceAdd, Nat.reduceSub, List.replicate_succ, List.replicate_zero, List.cons_append, List.nil_append, bq_]
 refine .seq (.rgn [] (by simp only [go_sem, seval]; rfl) ?_ ?_)
 ·first | trivial | simp
 refine .seq (.rgn [a5_ (q3_ same 174 x.kids y.kids (fun u hu v hv => ih u hu v (ch_ a3 u hu) (ch_ b3 v hv)) a2 b2)] (by simp only [go_sem, seval]; rfl) ?_ ?_)
 ·simp
 refine .ret ⟨.inr rfl, ?_⟩
 exact Out.plain (by simp only [Tryz.results174]; rfl) (by simp only [a1_, bc_, go_sem, seval] <;> (split <;> rfl)) (by simp only [ba_, go_sem, seval] <;> (rw [k2_, f9_])) (by simp only [go_sem, seval])
theorem sh_ (x : E) : ∀ y, sm x = true → sm y = true → ACall En 158 [.ag (eC x), .ag (eC y)] [] [.b (same x y)] [] := by
 induction x using E.ind' with
 | h x ih =>
 intro y hx hy
 obtain ⟨a1, a2, a3⟩ := dx_ hx
 obtain ⟨b1, b2, b3⟩ := dx_ hy
 refine ap_ (fn := Tryz.f158) [] Tryz.func158 rfl rfl (by simp) fun C => ?_
 rw [a0_]
 simp only [Tryz.ntmps158, List.length_cons, List.length_nil, Nat.reduceAdd, Nat.reduceSub, List.replicate_succ, List.replicate_zero, List.cons_append, List.nil_append, bq_]
 refine .seq (.rgn [] (by simp only [go_sem, seval]; rfl) ?_ ?_)
 ·first | trivial | simp
 refine .seq (.seq (.rgn [] (by simp only [go_sem, seval]; rfl) ?_ ?_))
 ·simp
 refine .condB (by simp only [go_sem, seval]; rfl) (by simp only [go_sem, seval]) (fun h33 => ?_) (fun h33 => ?_)
 ·refine .seq (.rgn [] (by simp only [go_sem, seval]; rfl) ?_ ?_)
  ·first | trivial | simp
  refine .ret ⟨.inr rfl, ?_⟩
  exact Out.plain (by simp only [Tryz.results158]; rfl) (by simp only [a1_, bc_, go_sem, seval] <;> (split <;> rfl)) (by simp only [ba_, go_sem, seval] <;> (simp at h33; rw [k2_, f9_]; rcases h33 with ((h33 | h33) | h33) | h33 <;> simp [h33] <;> omega)) (by simp only [go_sem, seval])
 ·refine .skip (.seq (.seq (.rgn [] (by simp only [go_sem, seval]; rfl) ?_ ?_)))
  ·first | trivial | simp
  refine .block (.loopK (fun k : Nat => ⟨[.no, .no, .pt 12 4 0 0, .pt 13 4 0 0, .b false, .i .i64 k, .no, .no, .no, .no, .no, .no, .no, .no, .no, .no, .no, .no, .no, .no, .no, .no, .no, .no, .no, .no, .no, .no, .no, .no, .no, .no, .no, .no, .no, .no, .no, .no, .no, .no, .no, .no, .no, .no, .no, .no, .no, .no, .no, .no, .no, .no, .no], a6_ [(12, ⟨48, 4, [eC x]⟩), (13, ⟨48, 4, [eC y]⟩)], us [12, 13]⟩) (fun k : Nat => k ≤ x.kids.length ∧ ((x.kids.zip y.kids).take k).all (fun q => same q.1 q.2) = true) (fun k : Nat => x.kids.length - k) (0) ?_ ?_ (fun k hI => ?_))
  ·simp
  ·exact Can.weak (Weak.lit (by simp only [go_sem, seval, aw_, leV, at_, au_, V.inn, us, true_or, or_true] <;> (simp)) (by simp only [go_sem, seval, aw_, leV, at_, au_, V.inn, us, true_or, or_true]) (by simp only [go_sem, seval, aw_, leV, at_, au_, V.inn, us, true_or, or_true]))
  refine .seq (.seq (.rgn [] (by simp only [go_sem, seval]; rfl) ?_ ?_))
  ·first | trivial | simp
  refine .condB (by simp only [go_sem, seval]; rfl) (by simp only [go_sem, seval]) (fun h38 => ?_) (fun h38 => ?_)
  ·refine .skip (.seq (.block (.seq (.rgnD [a5_ (ih (x.kids.getD k E0) (bh_ (by simpa using h38)) (y.kids.getD k E0) (ch_ a3 _ (bh_ (by simpa using h38))) (ch_ b3 _ (bh_ (by simp at h33 h38; omega))))] enM (by simp only [go_sem, seval, c8_ (show k < x.kids.length by simpa using h38), c8_ (show k < y.kids.length by simp at h33 h38; omega)]; rfl) (by rfl) ?_ ?_))))
   ·simp at h33 h38; simp; omega
   refine .condB (by simp only [go_sem, seval]; rfl) (by simp only [go_sem, seval]) (fun h52 => ?_) (fun h52 => ?_)
   ·refine .seq (.rgn [] (by simp only [go_sem, seval]; rfl) ?_ ?_)
    ·first | trivial | simp
    refine .ret ⟨.inr rfl, ?_⟩
    exact Out.plain (by simp only [Tryz.results158]; rfl) (by simp only [a1_, bc_, go_sem, seval] <;> (split <;> rfl)) (by simp only [ba_, go_sem, seval] <;> (simp at h33 h38; rw [k2_, f9_, t5_ _ h38 (by omega) (by simpa using h52)]; simp)) (by simp only [go_sem, seval])
   ·refine .skip (.rgn [] (by simp only [go_sem, seval]; rfl) ?_ ?_)
    ·first | trivial | simp
    refine Exists.intro (k + 1) ⟨?_, ?_, ?_⟩
    ·simp at h33 h38; exact ⟨by omega, by rw [r5_ _ h38 (by omega), hI.2]; simpa using h52⟩
    ·simp at h38; omega
    exact Can.weak (Weak.lit (by simp only [go_sem, seval, aw_, leV, at_, au_, V.inn, us, true_or, or_true] <;> (rw [a7_ (by simp at h38; omega) (by simp at h38; omega)]; simp)) (by simp only [go_sem, seval, aw_, leV, at_, au_, V.inn, us, true_or, or_true]) (by simp only [go_sem, seval, aw_, leV, at_, au_, V.inn, us, true_or, or_true]))
  ·refine .exit (.seq (.rgn [] (by simp only [go_sem, seval]; rfl) ?_ ?_))
   ·first | trivial | simp
   refine .ret ⟨.inr rfl, ?_⟩
   exact Out.plain (by simp only [Tryz.results158]; rfl) (by simp only [a1_, bc_, go_sem, seval] <;> (split <;> rfl)) (by simp only [ba_, go_sem, seval] <;> (simp at h33 h38; rw [k2_, f9_]; have e := hI.2; rw [List.take_of_length_le (by simp; omega)] at e; rw [e]; simp [h33]; omega)) (by simp only [go_sem, seval])
end
section
set_option maxRecDepth 100000
set_option maxHeartbeats 4000000
theorem v4_ {p : UInt8 → Bool} {s : Str} {k : Nat} (h : k < s.length) (hp : p (s.getD k 0) = false) : s.all p = false := by
 rw [List.all_eq_false]; exact ⟨_, bh_ h, by rw [hp]; simp⟩
theorem h0_ (p : UInt8 → Bool) : ∀ s : Str, ((s.takeWhile p).length == s.length) = s.all p
 | [] => rfl
 | c :: s => by
  have := h0_ p s
  simp only [List.takeWhile_cons, List.all_cons]
  cases p c <;> simp_all
theorem w7_ (s : Str) : ownW.contains s = ku_ s := by
 simp only [ownW, ku_, ef_, List.contains_cons, List.contains_nil, Bool.or_false]
 simp only [Bool.or_assoc]
theorem w9_ (s : Str) : (decide ((s.length : Int) ≥ 1) && decide ((s.length : Int) ≤ 8)) = (decide (1 ≤ s.length) && decide (s.length ≤ 8)) := by
 congr 1 <;> exact decide_eq_decide.2 (by omega)
theorem vh_ (s : Str) : (decide (1 ≤ (s.length : Int)) && decide ((s.length : Int) ≤ 8)) = (decide (1 ≤ s.length) && decide (s.length ≤ 8)) := by
 congr 1 <;> exact decide_eq_decide.2 (by omega)
theorem iw_ (a b : Nat) : ((a : Int) == (b : Int)) = (a == b) := by
 cases h : a == b <;> simp_all <;> omega
theorem rw_ (s : Str) (hs : s.length < 4611686018427387904) : ACall En 159 [.s s] [] [.b (dq_ s)] [] := by
 refine ap_ (fn := Tryz.f159) [] Tryz.func159 rfl rfl (by simp) fun C => ?_
 rw [a0_]
 simp only [Tryz.ntmps159, List.length_cons, List.length_nil, Nat.reduceAdd, Nat.reduceSub, List.replicate_succ, List.replicate_zero, List.cons_append, List.nil_append, bq_]
 refine .seq (.rgn [] (by simp only [go_sem, seval]; rfl) ?_ ?_)
 ·first | trivial | simp
 refine .seq (.seq (.rgn [] (by simp only [go_sem, seval]; rfl) ?_ ?_))
 ·first | trivial | simp
 refine .block (.loopK (fun k : Nat => ⟨[.s s, .no, .b false, .i .i64 k, .no, .no, .no, .no, .no, .no, .no, .no, .no, .no, .no, .no, .no, .no, .no, .no, .no, .no, .no, .no, .no, .no, .no, .no], a6_ [], us []⟩) (fun k : Nat => k ≤ s.length ∧ (s.take k).all cf_ = true) (fun k : Nat => s.length - k) (0) ?_ ?_ (fun k hI => ?_))
 ·simp
 ·exact Can.weak (Weak.lit (by simp only [go_sem, seval, aw_, leV, at_, au_, V.inn, us, true_or, or_true] <;> (simp)) (by simp only [go_sem, seval, aw_, leV, at_, au_, V.inn, us, true_or, or_true]) (by simp only [go_sem, seval, aw_, leV, at_, au_, V.inn, us, true_or, or_true]))
 refine .seq (.seq (.rgn [] (by simp only [go_sem, seval]; rfl) ?_ ?_))
 ·first | trivial | simp
 refine .condB (by simp only [go_sem, seval]; rfl) (by simp only [go_sem, seval]) (fun h7 => ?_) (fun h7 => ?_)
 ·refine .skip (.seq (.block (.seq (.rgn [] (by simp only [go_sem, seval]; rfl) ?_ ?_))))
  ·simp at h7; simp; omega
  refine .condB (by simp only [go_sem, seval]; rfl) (by simp only [go_sem, seval]) (fun h19 => ?_) (fun h19 => ?_)
  ·refine .seq (.rgn [] (by simp only [go_sem, seval]; rfl) ?_ ?_)
   ·first | trivial | simp
   refine .ret ⟨.inr rfl, ?_⟩
   exact Out.plain (by simp only [Tryz.results159]; rfl) (by simp only [a1_, bc_, go_sem, seval] <;> (split <;> rfl)) (by simp only [ba_, go_sem, seval] <;> (simp at h7; rw [dq_, v4_ h7 (by rw [cf_]; simp at h19 ⊢; omega)]; rfl)) (by simp only [go_sem, seval])
  ·refine .skip (.rgn [] (by simp only [go_sem, seval]; rfl) ?_ ?_)
   ·first | trivial | simp
   refine Exists.intro (k + 1) ⟨?_, ?_, ?_⟩
   ·simp at h7; exact ⟨by omega, by rw [sd_ cf_ s k h7, hI.2, cf_]; simp at h19 ⊢; omega⟩
   ·simp at h7; omega
   exact Can.weak (Weak.lit (by simp only [go_sem, seval, aw_, leV, at_, au_, V.inn, us, true_or, or_true] <;> (rw [a7_ (by simp at h7; omega) (by simp at h7; omega)]; simp)) (by simp only [go_sem, seval, aw_, leV, at_, au_, V.inn, us, true_or, or_true]) (by simp only [go_sem, seval, aw_, leV, at_, au_, V.inn, us, true_or, or_true]))
 ·refine .exit (.seq (.rgn [] (by simp only [go_sem, seval]; rfl) ?_ ?_))
  ·first | trivial | simp
  refine .ret ⟨.inr rfl, ?_⟩
  exact Out.plain (by simp only [Tryz.results159]; rfl) (by simp only [a1_, bc_, go_sem, seval] <;> (split <;> rfl)) (by simp only [ba_, go_sem, seval] <;> (simp at h7; have e := hI.2; rw [List.take_of_length_le h7] at e; rw [dq_, e, w9_]; simp)) (by simp only [go_sem, seval])
theorem r3_ (s : Str) (hs : s.length < 4611686018427387904) : ACall En 100 [.s s] [] [.b (hy_ s)] [] := by
 refine ap_ (fn := Tryz.f100) [] Tryz.func100 rfl rfl (by simp) fun C => ?_
 rw [a0_]
 simp only [Tryz.ntmps100, List.length_cons, List.length_nil, Nat.reduceAdd, Nat.reduceSub, List.replicate_succ, List.replicate_zero, List.cons_append, List.nil_append, bq_]
 refine .seq (.rgn [] (by simp only [go_sem, seval]; rfl) ?_ ?_)
 ·simp
 refine .seq (.rgn [a5_ (rw_ s hs), a5_ (xu_ s)] (by simp only [go_sem, seval]; rfl) ?_ ?_)
 ·simp
 refine .ret ⟨.inr rfl, ?_⟩
 exact Out.plain (by simp only [Tryz.results100]; rfl) (by simp only [a1_, bc_, go_sem, seval] <;> (split <;> rfl)) (by simp only [ba_, go_sem, seval] <;> (rfl)) (by simp only [go_sem, seval])
theorem qh_ (s : Str) (hs : s.length < 4611686018427387904) : ACall En 104 [.i .i64 1, .s s] [] [.b (dq_ s)] [] := by
 refine ap_ (fn := Tryz.f104) [] Tryz.func104 rfl rfl (by simp) fun C => ?_
 rw [a0_]
 simp only [Tryz.ntmps104, List.length_cons, List.length_nil, Nat.reduceAdd, Nat.reduceSub, List.replicate_succ, List.replicate_zero, List.cons_append, List.nil_append, bq_]
 refine .seq (.rgn [] (by simp only [go_sem, seval]; rfl) ?_ ?_)
 ·simp
 refine .seq (.seq (.rgn [] (by simp only [go_sem, seval]; rfl) ?_ ?_))
 ·simp
 refine .block (.seq (.rgn [] (by simp only [go_sem, seval]; rfl) ?_ ?_))
 ·simp
 refine .condB (by simp only [go_sem, seval]; rfl) (by simp only [go_sem, seval]) (fun h8 => ?_) (fun h8 => ?_)
 ·refine .seq (.rgn [a5_ (s6_ s.length 1 8), a5_ (zn_ cf_ 51 md_ s hs)] (by simp only [go_sem, seval]; rfl) ?_ ?_)
  ·simp
  refine .ret ⟨.inr rfl, ?_⟩
  exact Out.plain (by simp only [Tryz.results104]; rfl) (by simp only [a1_, bc_, go_sem, seval] <;> (split <;> rfl)) (by simp only [ba_, go_sem, seval] <;> (rw [dq_, vh_, iw_, h0_]; cases s.all cf_ <;> simp)) (by simp only [go_sem, seval])
 ·exact absurd h8 (by simp)
theorem sa_ (s : Str) (hs : s.length < 4611686018427387904) : ACall En 116 [.s s] [] [.b (hy_ s)] [] := by
 refine ap_ (fn := Tryz.f116) [] Tryz.func116 rfl rfl (by simp) fun C => ?_
 rw [a0_]
 simp only [Tryz.ntmps116, List.length_cons, List.length_nil, Nat.reduceAdd, Nat.reduceSub, List.replicate_succ, List.replicate_zero, List.cons_append, List.nil_append, bq_]
 refine .seq (.rgn [] (by simp only [go_sem, seval]; rfl) ?_ ?_)
 ·first | trivial | simp
 refine .seq (.rgn [a5_ (qh_ s hs), a5_ (sp_ ownW s (by decide))] (by simp only [go_sem, seval]; rfl) ?_ ?_)
 ·simp
 refine .ret ⟨.inr rfl, ?_⟩
 exact Out.plain (by simp only [Tryz.results116]; rfl) (by simp only [a1_, bc_, go_sem, seval] <;> (split <;> rfl)) (by simp only [ba_, go_sem, seval] <;> (rw [w7_]; rfl)) (by simp only [go_sem, seval])
end
section
set_option maxRecDepth 100000
set_option maxHeartbeats 4000000
theorem r9_ (e : E) : ∀ d : Int, -4611686018427387904 < d → d < 4611686018427387904 → sm e = true → ACall En 161 [.ag (eC e), .i .i64 d] [] [.b (form e d)] [] := by
 induction e using E.ind' with
 | h e ih =>
 intro d hd1 hd2 hs
 obtain ⟨a1, a2, a3⟩ := dx_ hs
 refine ap_ (fn := Tryz.f161) [] Tryz.func161 rfl rfl (by simp) fun C => ?_
 rw [a0_]
 simp only [Tryz.ntmps161, List.length_cons, List.length_nil, Nat.reduceAdd, Nat.reduceSub, List.replicate_succ, List.replicate_zero, List.cons_append, List.nil_append, bq_]
 refine .seq (.rgn [] (by simp only [go_sem, seval]; rfl) ?_ ?_)
 ·first | trivial | simp
 refine .seq (.seq (.rgn [] (by simp only [go_sem, seval]; rfl) ?_ ?_))
 ·first | trivial | simp
 refine .condB (by simp only [go_sem, seval]; rfl) (by simp only [go_sem, seval]) (fun h9 => ?_) (fun h9 => ?_)
 ·refine .seq (.rgn [] (by simp only [go_sem, seval]; rfl) ?_ ?_)
  ·first | trivial | simp
  refine .ret ⟨.inr rfl, ?_⟩
  exact Out.plain (by simp only [Tryz.results161]; rfl) (by simp only [a1_, bc_, go_sem, seval] <;> (split <;> rfl)) (by simp only [ba_, go_sem, seval] <;> (rw [it_]; simp at h9; simp; omega)) (by simp only [go_sem, seval])
 ·refine .skip (.seq (.rgn [] (by simp only [go_sem, seval]; rfl) ?_ ?_))
  ·first | trivial | simp
  refine .seq (.rgn [] (by simp only [go_sem, seval]; rfl) ?_ ?_)
  ·first | trivial | simp
  refine .seqJ (fun q : Bool × Nat => ⟨[.no, .i .i64 d, .pt 12 4 0 0, .no, .b false, .b q.1, .i .i64 q.2, .no, .no, .no, .no, .no, .no, .no, .no, .no, .no, .no, .no, .no, .no, .no, .no, .no, .no, .no, .no, .no, .no, .no, .no, .no, .no, .no, .no, .no, .no, .no, .no, .no, .no, .no, .no, .no, .no, .no, .no, .no, .no, .no, .no, .no, .no, .no, .no, .no, .no, .no, .no, .no, .no, .no, .no, .no, .no, .no, .no, .no, .no, .no, .no, .no, .no, .no, .no, .no, .no, .no, .no, .no], a6_ [(12, ⟨48, 4, [eC e]⟩)], us [12]⟩) (fun q : Bool × Nat => (q.1 && (e.kids.length == q.2)) = shape e.kind e.n e.s e.kids.length) ?_ (fun q hJ => ?_)
  ·refine .seq (.rgn [] (by simp only [go_sem, seval]; rfl) ?_ ?_)
   ·first | trivial | simp
   refine .block (.seq (.rgn [] (by simp only [go_sem, seval]; rfl) ?_ ?_))
   ·first | trivial | simp
   refine .condB (by simp only [go_sem, seval]; rfl) (by simp only [go_sem, seval]) (fun h12 => ?_) (fun h12 => ?_)
   ·refine .rgn [] (by simp only [go_sem, seval]; rfl) ?_ ?_
    ·simp
    refine Exists.intro ((decide (e.n ≥ 0) && decide (e.n ≤ 1000000) && e.s == [], 0)) ⟨?_, ?_⟩
    ·simp_all [shape]
    exact Can.weak (Weak.lit (by simp only [go_sem, seval, aw_, leV, at_, au_, V.inn, us, true_or, or_true] <;> (simp)) (by simp only [go_sem, seval, aw_, leV, at_, au_, V.inn, us, true_or, or_true]) (by simp only [go_sem, seval, aw_, leV, at_, au_, V.inn, us, true_or, or_true]))
   ·refine .seq (.rgn [] (by simp only [go_sem, seval]; rfl) ?_ ?_)
    ·first | trivial | simp
    refine .condB (by simp only [go_sem, seval]; rfl) (by simp only [go_sem, seval]) (fun h27 => ?_) (fun h27 => ?_)
    ·refine .rgn [a5_ (r3_ e.s a1)] (by simp only [go_sem, seval]; rfl) ?_ ?_
     ·simp
     refine Exists.intro ((e.n == 0 && hy_ e.s, 0)) ⟨?_, ?_⟩
     ·simp_all [shape]
     exact Can.weak (Weak.lit (by simp only [go_sem, seval, aw_, leV, at_, au_, V.inn, us, true_or, or_true] <;> (simp)) (by simp only [go_sem, seval, aw_, leV, at_, au_, V.inn, us, true_or, or_true]) (by simp only [go_sem, seval, aw_, leV, at_, au_, V.inn, us, true_or, or_true]))
    ·refine .seq (.rgn [] (by simp only [go_sem, seval]; rfl) ?_ ?_)
     ·first | trivial | simp
     refine .condB (by simp only [go_sem, seval]; rfl) (by simp only [go_sem, seval]) (fun h37 => ?_) (fun h37 => ?_)
     ·refine .seq (.rgn [a5_ (aef_ e.s)] (by simp only [go_sem, seval]; rfl) ?_ ?_)
      ·simp
      refine .rgn [] (by simp only [go_sem, seval]; rfl) ?_ ?_
      ·first | trivial | simp
      refine Exists.intro ((e.n == 0 && gn_ e.s, 2)) ⟨?_, ?_⟩
      ·simp_all [shape]
      exact Can.weak (Weak.lit (by simp only [go_sem, seval, aw_, leV, at_, au_, V.inn, us, true_or, or_true] <;> (simp)) (by simp only [go_sem, seval, aw_, leV, at_, au_, V.inn, us, true_or, or_true]) (by simp only [go_sem, seval, aw_, leV, at_, au_, V.inn, us, true_or, or_true]))
     ·refine .seq (.rgn [] (by simp only [go_sem, seval]; rfl) ?_ ?_)
      ·first | trivial | simp
      refine .condB (by simp only [go_sem, seval]; rfl) (by simp only [go_sem, seval]) (fun h47 => ?_) (fun h47 => ?_)
      ·refine .seq (.rgn [a5_ (mw_ e.s)] (by simp only [go_sem, seval]; rfl) ?_ ?_)
       ·simp
       refine .rgn [] (by simp only [go_sem, seval]; rfl) ?_ ?_
       ·first | trivial | simp
       refine Exists.intro ((e.n == 0 && ef_ e.s, 1)) ⟨?_, ?_⟩
       ·simp_all [shape]
       exact Can.weak (Weak.lit (by simp only [go_sem, seval, aw_, leV, at_, au_, V.inn, us, true_or, or_true] <;> (simp)) (by simp only [go_sem, seval, aw_, leV, at_, au_, V.inn, us, true_or, or_true]) (by simp only [go_sem, seval, aw_, leV, at_, au_, V.inn, us, true_or, or_true]))
      ·refine .skip ?_
       refine Exists.intro ((false, 0)) ⟨?_, ?_⟩
       ·simp_all [shape]
       exact Can.weak (Weak.lit (by simp only [go_sem, seval, aw_, leV, at_, au_, V.inn, us, true_or, or_true] <;> (simp)) (by simp only [go_sem, seval, aw_, leV, at_, au_, V.inn, us, true_or, or_true]) (by simp only [go_sem, seval, aw_, leV, at_, au_, V.inn, us, true_or, or_true]))
  refine .seq (.seq (.rgn [] (by simp only [go_sem, seval]; rfl) ?_ ?_))
  ·simp
  refine .condB (by simp only [go_sem, seval]; rfl) (by simp only [go_sem, seval]) (fun h65 => ?_) (fun h65 => ?_)
  ·refine .seq (.rgn [] (by simp only [go_sem, seval]; rfl) ?_ ?_)
   ·first | trivial | simp
   refine .ret ⟨.inr rfl, ?_⟩
   exact Out.plain (by simp only [Tryz.results161]; rfl) (by simp only [a1_, bc_, go_sem, seval] <;> (split <;> rfl)) (by simp only [ba_, go_sem, seval] <;> (rw [it_, ← hJ]; simp at h65; cases hq : q.1 <;> simp_all; intro h; rw [← hJ] at h; simp at h; omega)) (by simp only [go_sem, seval])
  ·refine .skip (.seq (.seq (.rgn [] (by simp only [go_sem, seval]; rfl) ?_ ?_)))
   ·first | trivial | simp
   refine .block (.loopK (fun k : Nat => ⟨[.no, .i .i64 d, .pt 12 4 0 0, .no, .b false, .no, .i .i64 e.kids.length, .i .i64 k, .no, .no, .no, .no, .no, .no, .no, .no, .no, .no, .no, .no, .no, .no, .no, .no, .no, .no, .no, .no, .no, .no, .no, .no, .no, .no, .no, .no, .no, .no, .no, .no, .no, .no, .no, .no, .no, .no, .no, .no, .no, .no, .no, .no, .no, .no, .no, .no, .no, .no, .no, .no, .no, .no, .no, .no, .no, .no, .no, .no, .no, .no, .no, .no, .no, .no, .no, .no, .no, .no, .no, .no], a6_ [(12, ⟨48, 4, [eC e]⟩)], us [12]⟩) (fun k : Nat => k ≤ e.kids.length ∧ ce_ e.kids (d - 1) = ce_ (e.kids.drop k) (d - 1)) (fun k : Nat => e.kids.length - k) (0) ?_ ?_ (fun k hI => ?_))
   ·simp
   ·exact Can.weak (Weak.lit (by simp only [go_sem, seval, aw_, leV, at_, au_, V.inn, us, true_or, or_true] <;> (simp at h65; (try simp); omega)) (by simp only [go_sem, seval, aw_, leV, at_, au_, V.inn, us, true_or, or_true]) (by simp only [go_sem, seval, aw_, leV, at_, au_, V.inn, us, true_or, or_true]))
   refine .seq (.seq (.rgn [] (by simp only [go_sem, seval]; rfl) ?_ ?_))
   ·first | trivial | simp
   refine .condB (by simp only [go_sem, seval]; rfl) (by simp only [go_sem, seval]) (fun h68 => ?_) (fun h68 => ?_)
   ·refine .skip (.seq (.block (.seq (.rgn [a5_ (ih (e.kids.getD k E0) (bh_ (by simpa using h68)) (d - 1) (by simp at h9; omega) (by omega) (ch_ a3 _ (bh_ (by simpa using h68))))] (by simp only [go_sem, seval, c8_ (show k < e.kids.length by simpa using h68), a7_ (show -9223372036854775808 ≤ d - 1 by omega) (by omega)]; rfl) ?_ ?_))))
    ·simp at h68; simp; omega
    refine .condB (by simp only [go_sem, seval]; rfl) (by simp only [go_sem, seval]) (fun h79 => ?_) (fun h79 => ?_)
    ·refine .seq (.rgn [] (by simp only [go_sem, seval]; rfl) ?_ ?_)
     ·first | trivial | simp
     refine .ret ⟨.inr rfl, ?_⟩
     exact Out.plain (by simp only [Tryz.results161]; rfl) (by simp only [a1_, bc_, go_sem, seval] <;> (split <;> rfl)) (by simp only [ba_, go_sem, seval] <;> (simp at h68; rw [it_, hI.2, m4_ h68, ← fs_ h68]; simp_all)) (by simp only [go_sem, seval])
    ·refine .skip (.rgn [] (by simp only [go_sem, seval]; rfl) ?_ ?_)
     ·first | trivial | simp
     refine Exists.intro (k + 1) ⟨?_, ?_, ?_⟩
     ·simp at h68; refine ⟨by omega, ?_⟩; rw [hI.2, m4_ h68, ← fs_ h68]; simp_all
     ·simp at h68; omega
     exact Can.weak (Weak.lit (by simp only [go_sem, seval, aw_, leV, at_, au_, V.inn, us, true_or, or_true] <;> (rw [a7_ (by simp at h68; omega) (by simp at h68; omega)]; simp)) (by simp only [go_sem, seval, aw_, leV, at_, au_, V.inn, us, true_or, or_true]) (by simp only [go_sem, seval, aw_, leV, at_, au_, V.inn, us, true_or, or_true]))
   ·refine .exit (.seq (.rgn [] (by simp only [go_sem, seval]; rfl) ?_ ?_))
    ·first | trivial | simp
    refine .ret ⟨.inr rfl, ?_⟩
    exact Out.plain (by simp only [Tryz.results161]; rfl) (by simp only [a1_, bc_, go_sem, seval] <;> (split <;> rfl)) (by simp only [ba_, go_sem, seval] <;> (simp at h68; rw [it_, ← hJ, hI.2, wn_ h68]; simp at h9; simp_all; omega)) (by simp only [go_sem, seval])
theorem ab7_ (e : E) (d : Int) : many e d = 1 + if 0 < d then cb_ e.kids (d - 1) else 0 := by cases e; simp only [many, E.kids]
theorem zx_ {e : E} {d : Int} (h : form e d = true) : ce_ e.kids (d - 1) = true ∧ 1 ≤ d := by
 rw [it_] at h; simp at h; exact ⟨h.2, h.1.1⟩
theorem qi_ (e : E) : ∀ d : Nat, d ≤ 5 → form e d = true → sm e = true → ACall En 162 [.ag (eC e), .i .i64 d] [] [.i .i64 (many e d)] [] := by
 induction e using E.ind' with
 | h e ih =>
 intro d hd hf hs
 obtain ⟨a1, a2, a3⟩ := dx_ hs
 obtain ⟨f1, f2⟩ := zx_ hf
 have hm := ig_ e d hf
 have hp : (2 : Int) ^ d ≤ 32 := by
  have : d = 0 ∨ d = 1 ∨ d = 2 ∨ d = 3 ∨ d = 4 ∨ d = 5 := by omega
  rcases this with rfl | rfl | rfl | rfl | rfl | rfl <;> decide
 have hb : many e d ≤ 31 := by omega
 clear hp
 have hd1 : ((d - 1 : Nat) : Int) = d - 1 := by omega
 have hdr : ∀ k, 0 ≤ cb_ (e.kids.drop k) (d - 1) := fun k => by
  have := (i5_ (e.kids.drop k) (d - 1) (by rw [hd1]; exact so_ k f1)).1
  rwa [hd1] at this
 have hmy : ∀ x ∈ e.kids, 1 ≤ many x (d - 1) := fun x hx => by
  have := (ig_ x (d - 1) (by rw [hd1]; exact jw_ f1 x hx)).1
  rwa [hd1] at this
 refine ap_ (fn := Tryz.f162) [] Tryz.func162 rfl rfl (by simp) fun C => ?_
 rw [a0_]
 simp only [Tryz.ntmps162, List.length_cons, List.length_nil, Nat.reduceAdd, Nat.reduceSub, List.replicate_succ, List.replicate_zero, List.cons_append, List.nil_append, bq_]
 refine .seq (.rgn [] (by simp only [go_sem, seval]; rfl) ?_ ?_)
 ·first | trivial | simp
 refine .seq (.rgn [] (by simp only [go_sem, seval]; rfl) ?_ ?_)
 ·first | trivial | simp
 refine .seq (.seq (.rgn [] (by simp only [go_sem, seval]; rfl) ?_ ?_))
 ·first | trivial | simp
 refine .block (.loopK (fun k : Nat × Int => ⟨[.no, .i .i64 d, .pt 12 4 0 0, .no, .i .i64 0, .i .i64 k.2, .i .i64 k.1, .no, .no, .no, .no, .no, .no, .no, .no, .no, .no, .no, .no, .no, .no, .no, .no, .no, .no, .no, .no, .no, .no], a6_ [(12, ⟨48, 4, [eC e]⟩)], us [12]⟩) (fun k : Nat × Int => k.1 ≤ e.kids.length ∧ k.2 + cb_ (e.kids.drop k.1) (d - 1) = many e d ∧ 1 ≤ k.2) (fun k : Nat × Int => e.kids.length - k.1) ((0, 1)) ?_ ?_ (fun k hI => ?_))
 ·simp [ab7_]; omega
 ·exact Can.weak (Weak.lit (by simp only [go_sem, seval, aw_, leV, at_, au_, V.inn, us, true_or, or_true] <;> (simp)) (by simp only [go_sem, seval, aw_, leV, at_, au_, V.inn, us, true_or, or_true]) (by simp only [go_sem, seval, aw_, leV, at_, au_, V.inn, us, true_or, or_true]))
 refine .seq (.seq (.rgn [] (by simp only [go_sem, seval]; rfl) ?_ ?_))
 ·simp
 refine .condB (by simp only [go_sem, seval]; rfl) (by simp only [go_sem, seval]) (fun h15 => ?_) (fun h15 => ?_)
 ·refine .skip (.seq (.block (.rgn [a5_ (hd1 ▸ ih (e.kids.getD k.1 E0) (bh_ (by simp at h15; omega)) (d - 1) (by omega) (by rw [hd1]; exact jw_ f1 _ (bh_ (by simp at h15; omega))) (ch_ a3 _ (bh_ (by simp at h15; omega))))] (by simp only [go_sem, seval, c8_ (show k.1 < e.kids.length by simp at h15; omega), a7_ (show -9223372036854775808 ≤ (d : Int) - 1 by omega) (by omega)]; rfl) ?_ ?_)))
  ·simp at h15; simp; omega
  refine .rgn [] (by simp only [go_sem, seval]; rfl) ?_ ?_
  ·first | trivial | simp
  refine Exists.intro ((k.1 + 1, k.2 + many (e.kids.getD k.1 E0) (d - 1))) ⟨?_, ?_, ?_⟩
  ·simp at h15; have e1 := lk_ h15.1 ((d : Int) - 1); rw [← fs_ h15.1] at e1; have b2 := hmy _ (bh_ h15.1 (d := E0)); dsimp only; omega
  ·simp at h15; simp; omega
  exact Can.weak (Weak.lit (by simp only [go_sem, seval, aw_, leV, at_, au_, V.inn, us, true_or, or_true] <;> (simp at h15; have e1 := lk_ h15.1 ((d : Int) - 1); rw [← fs_ h15.1] at e1; have b1 := hdr (k.1 + 1); have b2 := hmy _ (bh_ h15.1 (d := E0)); exact ⟨a7_ (by omega) (by omega), by rw [a7_ (by omega) (by omega)]; omega⟩)) (by simp only [go_sem, seval, aw_, leV, at_, au_, V.inn, us, true_or, or_true]) (by simp only [go_sem, seval, aw_, leV, at_, au_, V.inn, us, true_or, or_true]))
 ·refine .exit (.seq (.rgn [] (by simp only [go_sem, seval]; rfl) ?_ ?_))
  ·first | trivial | simp
  refine .ret ⟨.inr rfl, ?_⟩
  exact Out.plain (by simp only [Tryz.results162]; rfl) (by simp only [a1_, bc_, go_sem, seval] <;> (split <;> rfl)) (by simp only [ba_, go_sem, seval] <;> (simp at h15; have : e.kids.length ≤ k.1 := (by omega); have e1 := vy_ this ((d : Int) - 1); simp; omega)) (by simp only [go_sem, seval])
def E1 : E := .mk 1 0 [] []
theorem f7_ (e : E) (hs : sm e = true) : ACall En 102 [.ag (eC e)] [] [.b (eok e)] [] := by
 cases hf : form e 5 with
 | true =>
 refine ap_ (fn := Tryz.f102) [] Tryz.func102 rfl rfl (by simp) fun C => ?_
 rw [a0_]
 simp only [Tryz.ntmps102, List.length_cons, List.length_nil, Nat.reduceAdd, Nat.reduceSub, List.replicate_succ, List.replicate_zero, List.cons_append, List.nil_append, bq_]
 refine .seq (.rgn [] (by simp only [go_sem, seval]; rfl) ?_ ?_)
 ·first | trivial | simp
 refine .seq (.rgn [a5_ (r9_ e 5 (by decide) (by decide) hs), a5_ (qi_ e 5 (by decide) hf hs)] (by simp only [go_sem, seval]; rfl) ?_ ?_)
 ·first | trivial | simp
 refine .ret ⟨.inr rfl, ?_⟩
 exact Out.plain (by simp only [Tryz.results102]; rfl) (by simp only [a1_, bc_, go_sem, seval] <;> (split <;> rfl)) (by simp only [ba_, go_sem, seval] <;> (simp [eok, hf])) (by simp only [go_sem, seval])
 | false =>
 refine ap_ (fn := Tryz.f102) [] Tryz.func102 rfl rfl (by simp) fun C => ?_
 rw [a0_]
 simp only [Tryz.ntmps102, List.length_cons, List.length_nil, Nat.reduceAdd, Nat.reduceSub, List.replicate_succ, List.replicate_zero, List.cons_append, List.nil_append, bq_]
 refine .seq (.rgn [] (by simp only [go_sem, seval]; rfl) ?_ ?_)
 ·first | trivial | simp
 refine .seq (.rgn [a5_ (r9_ e 5 (by decide) (by decide) hs), a5_ (qi_ E1 1 (by decide) rfl rfl)] (by simp only [go_sem, seval, hf]; rfl) ?_ ?_)
 ·first | trivial | simp
 refine .ret ⟨.inr rfl, ?_⟩
 exact Out.plain (by simp only [Tryz.results102]; rfl) (by simp only [a1_, bc_, go_sem, seval] <;> (split <;> rfl)) (by simp only [ba_, go_sem, seval] <;> (simp [eok, hf])) (by simp only [go_sem, seval])
end
section
set_option maxRecDepth 100000
set_option maxHeartbeats 4000000
def uy_ (e : E) : Prop := ∀ d p : Int, 0 ≤ d → d ≤ 6 → 0 ≤ p → p ≤ 12 → ACall En 189 [.ag (eC e), .i .i64 d, .pt 0 1 0 0] [⟨3, 1, [[.i .i64 p]]⟩] [.b (wlk e d p).1] [⟨3, 1, [[.i .i64 (wlk e d p).2]]⟩]
theorem abu_ (e : E) (h : uy_ e) (d p : Int) (h1 : 0 ≤ d) (h2 : d ≤ 5) (h3 : 0 ≤ p) (h4 : p ≤ 12) :
  ACall En 215 [.ag (eC e), .pt 0 1 0 0, .pt 1 1 0 0] [⟨3, 1, [[.i .i64 d]]⟩, ⟨154, 1, [[.pt 2 1 0 0]]⟩, ⟨3, 1, [[.i .i64 p]]⟩]
   [.b (!(wlk e (d + 1) p).1)] [⟨3, 1, [[.i .i64 d]]⟩, ⟨154, 1, [[.pt 2 1 0 0]]⟩, ⟨3, 1, [[.i .i64 (wlk e (d + 1) p).2]]⟩] := by
 refine ap_ (fn := Tryz.f215) [0, 1, 2] Tryz.func215 rfl rfl (by simp) fun C => ?_
 rw [a0_]
 simp only [Tryz.ntmps215, List.length_cons, List.length_nil, Nat.reduceAdd, Nat.reduceSub, List.replicate_succ, List.replicate_zero, List.cons_append, List.nil_append, bq_]
 refine .seq (.rgn [] (by simp only [go_sem, seval]; rfl) ?_ ?_)
 ·first | trivial | simp
 refine .seq (.rgn [bv_ [2] [] (h (d + 1) p (by omega) (by omega) h3 h4)] (by simp only [go_sem, seval, a7_ (show -9223372036854775808 ≤ d + 1 by omega) (by omega), al_, ar_]; rfl) ?_ ?_)
 ·simp
 refine .ret ⟨.inr rfl, ?_⟩
 exact Out.mem' (by simp only [Tryz.results215]; rfl) (by simp only [a1_, bc_, go_sem, seval]) (by simp only [ba_, rns, rn, go_sem, seval] <;> (simp_all)) (by simp) rfl (by decide) (by simp only [go_sem, seval]) (by simp only [ar_, go_sem, seval]) (by simp only [al_, go_sem, seval] <;> (simp))
def wix : List E → Int → Int → Int → Int
 | [], _, _, _ => -1
 | e :: r, d, p, k => if (wlk e d p).1 then wix r d (wlk e d p).2 (k + 1) else k
theorem p8_ {kids : List E} {k : Nat} (h : k < kids.length) (d p j : Int) : wix (kids.drop k) d p j = if (wlk kids[k] d p).1 then wix (kids.drop (k + 1)) d (wlk kids[k] d p).2 (j + 1) else j := by
 rw [List.drop_eq_getElem_cons h]; simp only [wix]
theorem tw_ : ∀ (l : List E) (d p j : Int), 0 ≤ j → decide (wix l d p j ≥ 0) = !(d6_ l d p).1
 | [], d, p, j, h => by simp [wix, d6_]
 | e :: r, d, p, j, h => by
  have ih := tw_ r d (wlk e d p).2 (j + 1) (by omega)
  have e1 : wix (e :: r) d p j = bif (wlk e d p).1 then wix r d (wlk e d p).2 (j + 1) else j := by simp only [wix]; cases (wlk e d p).1 <;> rfl
  have e2 : d6_ (e :: r) d p = bif (wlk e d p).1 then d6_ r d (wlk e d p).2 else (false, (wlk e d p).2) := by simp only [d6_]; cases (wlk e d p).1 <;> rfl
  rw [e2]
  simp only [e1]
  cases hc : (wlk e d p).1
  ·simp [h]
  ·exact ih
theorem yr_ (kids : List E) (ih : ∀ e ∈ kids, uy_ e) (d p : Int) (h1 : 0 ≤ d) (h2 : d ≤ 5) (h3 : 0 ≤ p) (h4 : p ≤ 12) (hl : kids.length < 4611686018427387904) :
  ACall En 234 [.sl false (eR kids), .fn (.func 215) [] [.pt 0 1 0 0, .pt 1 1 0 0]] [⟨3, 1, [[.i .i64 d]]⟩, ⟨154, 1, [[.pt 2 1 0 0]]⟩, ⟨3, 1, [[.i .i64 p]]⟩]
   [.i .i64 (wix kids (d + 1) p 0)] [⟨3, 1, [[.i .i64 d]]⟩, ⟨154, 1, [[.pt 2 1 0 0]]⟩, ⟨3, 1, [[.i .i64 (d6_ kids (d + 1) p).2]]⟩] := by
 refine ap_ (fn := Tryz.f234) [0, 1, 2] Tryz.func234 rfl rfl (by simp) fun C => ?_
 rw [a0_]
 simp only [Tryz.ntmps234, List.length_cons, List.length_nil, Nat.reduceAdd, Nat.reduceSub, List.replicate_succ, List.replicate_zero, List.cons_append, List.nil_append, bq_]
 refine .seq (.rgn [] (by simp only [go_sem, seval]; rfl) ?_ ?_)
 ·first | trivial | simp
 refine .seq (.seq (.rgn [] (by simp only [go_sem, seval]; rfl) ?_ ?_))
 ·first | trivial | simp
 refine .block (.loopK (fun k : Nat × Int => ⟨[.sl false (eR kids), .fn (.func 215) [] [.pt 0 1 0 0, .pt 1 1 0 0], .no, .no, .i .i64 0, .no, .no, .i .i64 kids.length, .i .i64 k.1, .no, .no, .no, .no, .no, .no, .no, .no, .no, .no], a6_ [(0, ⟨3, 1, [[.i .i64 d]]⟩), (1, ⟨154, 1, [[.pt 2 1 0 0]]⟩), (2, ⟨3, 1, [[.i .i64 k.2]]⟩)], us []⟩) (fun k : Nat × Int => k.1 ≤ kids.length ∧ 0 ≤ k.2 ∧ k.2 ≤ 12 ∧ d6_ kids (d + 1) p = d6_ (kids.drop k.1) (d + 1) k.2 ∧ wix kids (d + 1) p 0 = wix (kids.drop k.1) (d + 1) k.2 k.1) (fun k : Nat × Int => kids.length - k.1) ((0, p)) ?_ ?_ (fun k hI => ?_))
 ·simp; omega
 ·exact Can.weak (Weak.lit (by simp only [go_sem, seval, aw_, leV, at_, au_, V.inn, us, true_or, or_true] <;> (simp)) (by simp only [go_sem, seval, aw_, leV, at_, au_, V.inn, us, true_or, or_true]) (by simp only [go_sem, seval, aw_, leV, at_, au_, V.inn, us, true_or, or_true]))
 refine .seq (.rgn [] (by simp only [go_sem, seval]; rfl) ?_ ?_)
 ·first | trivial | simp
 refine .seq (.condB (by simp only [go_sem, seval]; rfl) (by simp only [go_sem, seval]) (fun h9 => ?_) (fun h9 => ?_))
 ·refine .skip (.seq (.block (.seq (.rgn [] (by simp only [go_sem, seval]; rfl) ?_ ?_))))
  ·first | trivial | simp
  refine .seq (.rgn [bv_ [0, 1, 2] [] (abu_ (kids.getD k.1 E0) (ih _ (bh_ (by simpa using h9))) d k.2 h1 h2 (by omega) (by omega))] (by simp only [go_sem, seval, al_, ar_, c8_ (show k.1 < kids.length by simpa using h9)]; rfl) ?_ ?_)
  ·simp at h9; simp; omega
  refine .condB (by simp only [go_sem, seval]; rfl) (by simp only [go_sem, seval]) (fun h16 => ?_) (fun h16 => ?_)
  ·refine .seq (.rgn [] (by simp only [go_sem, seval]; rfl) ?_ ?_)
   ·first | trivial | simp
   refine .ret ⟨.inr rfl, ?_⟩
   exact Out.mem' (by simp only [Tryz.results234]; rfl) (by simp only [a1_, bc_, go_sem, seval]) (by simp only [ba_, rns, rn, go_sem, seval] <;> (simp at h9; have hw : (wlk (kids.getD k.1 E0) (d + 1) k.2).1 = false := (by simpa using h16); rw [hI.2.2.2.2, p8_ h9, ← fs_ h9, hw]; simp)) (by simp) rfl (by decide) (by simp only [go_sem, seval]) (by simp only [ar_, go_sem, seval]) (by simp only [al_, go_sem, seval] <;> (simp at h9; have hw : (wlk (kids.getD k.1 E0) (d + 1) k.2).1 = false := (by simpa using h16); rw [hI.2.2.2.1, nf_ h9, ← fs_ h9, hw]; simp))
  ·refine .skip (.rgn [] (by simp only [go_sem, seval]; rfl) ?_ ?_)
   ·first | trivial | simp
   refine Exists.intro ((k.1 + 1, (wlk (kids.getD k.1 E0) (d + 1) k.2).2)) ⟨?_, ?_, ?_⟩
   ·simp at h9; obtain ⟨g0, g1, g2, g3, g4⟩ := hI; rw [nf_ h9, ← fs_ h9] at g3; rw [p8_ h9, ← fs_ h9] at g4; have hw : (wlk (kids.getD k.1 E0) (d + 1) k.2).1 = true := (by simpa using h16); rw [hw] at g3 g4; have := yp_ _ _ _ hw; exact ⟨by dsimp only; omega, by dsimp only; omega, by dsimp only; omega, by simpa using g3, by simpa using g4⟩
   ·simp at h9; simp; omega
   exact Can.weak (Weak.lit (by simp only [go_sem, seval, aw_, leV, at_, au_, V.inn, us, true_or, or_true] <;> (rw [a7_ (by simp at h9; omega) (by simp at h9; omega)]; simp)) (by simp only [go_sem, seval, aw_, leV, at_, au_, V.inn, us, true_or, or_true]) (by simp only [go_sem, seval, aw_, leV, at_, au_, V.inn, us, true_or, or_true]))
 ·refine .exit (.seq (.rgn [] (by simp only [go_sem, seval]; rfl) ?_ ?_))
  ·first | trivial | simp
  refine .ret ⟨.inr rfl, ?_⟩
  exact Out.mem' (by simp only [Tryz.results234]; rfl) (by simp only [a1_, bc_, go_sem, seval]) (by simp only [ba_, rns, rn, go_sem, seval] <;> (simp at h9; rw [hI.2.2.2.2, List.drop_of_length_le h9]; simp [wix])) (by simp) rfl (by decide) (by simp only [go_sem, seval]) (by simp only [ar_, go_sem, seval]) (by simp only [al_, go_sem, seval] <;> (simp at h9; rw [hI.2.2.2.1, zs_ h9]))
theorem kk_ (kids : List E) (ih : ∀ e ∈ kids, uy_ e) (d p : Int) (h1 : 0 ≤ d) (h2 : d ≤ 5) (h3 : 0 ≤ p) (h4 : p ≤ 12) (hl : kids.length < 4611686018427387904) :
  ACall En 214 [.sl false (eR kids), .fn (.func 215) [] [.pt 0 1 0 0, .pt 1 1 0 0]] [⟨3, 1, [[.i .i64 d]]⟩, ⟨154, 1, [[.pt 2 1 0 0]]⟩, ⟨3, 1, [[.i .i64 p]]⟩]
   [.b (!(d6_ kids (d + 1) p).1)] [⟨3, 1, [[.i .i64 d]]⟩, ⟨154, 1, [[.pt 2 1 0 0]]⟩, ⟨3, 1, [[.i .i64 (d6_ kids (d + 1) p).2]]⟩] := by
 refine ap_ (fn := Tryz.f214) [0, 1, 2] Tryz.func214 rfl rfl (by simp) fun C => ?_
 rw [a0_]
 simp only [Tryz.ntmps214, List.length_cons, List.length_nil, Nat.reduceAdd, Nat.reduceSub, List.replicate_succ, List.replicate_zero, List.cons_append, List.nil_append, bq_]
 refine .seq (.rgn [] (by simp only [go_sem, seval]; rfl) ?_ ?_)
 ·first | trivial | simp
 refine .seq (.rgn [bv_ [0, 1, 2] [] (yr_ kids ih d p h1 h2 h3 h4 hl)] (by simp only [go_sem, seval, al_, ar_]; rfl) ?_ ?_)
 ·simp
 refine .ret ⟨.inr rfl, ?_⟩
 exact Out.mem' (by simp only [Tryz.results214]; rfl) (by simp only [a1_, bc_, go_sem, seval]) (by simp only [ba_, rns, rn, go_sem, seval] <;> (rw [tw_ _ _ _ _ (by decide)])) (by simp) rfl (by decide) (by simp only [go_sem, seval]) (by simp only [ar_, go_sem, seval]) (by simp only [al_, go_sem, seval] <;> (simp))
theorem j0_ (e : E) (d p : Int) : wlk e d p = if 5 < d ∨ 12 < p + 1 then (false, p + 1) else if shape e.kind e.n e.s e.kids.length then d6_ e.kids (d + 1) (p + 1) else (false, p + 1) := by cases e; simp only [wlk, E.kind, E.n, E.s, E.kids]; rfl
theorem wp_ (s : Str) : decide (bb_ s > 0) = gn_ s := v2_ s
theorem mt_ (n : Nat) : ((n : Int) == 0) = (n == 0) := iw_ n 0
theorem mh_ (n : Nat) : ((n : Int) == 1) = (n == 1) := iw_ n 1
theorem lp_ (n : Nat) : ((n : Int) == 2) = (n == 2) := iw_ n 2
theorem ael_ (e : E) (hs : sm e = true) : uy_ e := by
 induction e using E.ind' with
 | h e ih =>
 intro d p hd hd6 hp hp12
 obtain ⟨a1, a2, a3⟩ := dx_ hs
 refine ap_ (fn := Tryz.f189) [0] Tryz.func189 rfl rfl (by simp) fun C => ?_
 rw [a0_]
 simp only [Tryz.ntmps189, List.length_cons, List.length_nil, Nat.reduceAdd, Nat.reduceSub, List.replicate_succ, List.replicate_zero, List.cons_append, List.nil_append, bq_]
 refine .seq (.rgn [] (by simp only [go_sem, seval]; rfl) ?_ ?_)
 ·simp
 refine .seq (.rgn [] (by simp only [go_sem, seval, a7_ (show -9223372036854775808 ≤ p + 1 by omega) (by omega)]; rfl) ?_ ?_)
 ·simp
 refine .seq (.seq (.rgn [] (by simp only [go_sem, seval]; rfl) ?_ ?_))
 ·simp
 refine .condB (by simp only [go_sem, seval]; rfl) (by simp only [go_sem, seval]) (fun h20 => ?_) (fun h20 => ?_)
 ·refine .seq (.rgn [] (by simp only [go_sem, seval]; rfl) ?_ ?_)
  ·simp
  refine .ret ⟨.inr rfl, ?_⟩
  exact Out.mem' (by simp only [Tryz.results189]; rfl) (by simp only [a1_, bc_, go_sem, seval]) (by simp only [ba_, rns, rn, go_sem, seval] <;> (have g : 5 < d ∨ 12 < p + 1 := (by simp at h20; omega); rw [j0_, if_pos g])) (by simp) rfl (by decide) (by simp only [go_sem, seval]) (by simp only [ar_, go_sem, seval]) (by simp only [al_, go_sem, seval] <;> (have g : 5 < d ∨ 12 < p + 1 := (by simp at h20; omega); rw [j0_, if_pos g]))
 ·refine .skip (.seq (.rgn [] (by simp only [go_sem, seval]; rfl) ?_ ?_))
  ·simp
  refine .seqJ (fun q : Bool => ⟨[.no, .no, .no, .pt 13 4 0 0, .pt 14 1 0 0, .pt 15 1 0 0, .b false, .b q, .no, .no, .no, .no, .no, .no, .no, .no, .no, .no, .no, .no, .no, .no, .no, .no, .no, .no, .no, .no, .no, .no, .no, .no, .no, .no, .no, .no, .no, .no, .no, .no, .no, .no, .no, .no, .no, .no, .no, .no, .no, .no, .no, .no, .no, .no, .no, .no, .no, .no, .no, .no, .no, .no, .no, .no, .no, .no, .no, .no, .no, .no, .no, .no, .no, .no, .no, .no, .no, .no, .no, .no, .no, .no, .no, .no, .no, .no, .no, .no, .no, .no, .no, .no, .no, .no, .no, .no], a6_ [(0, ⟨3, 1, [[.i .i64 (p + 1)]]⟩), (13, ⟨48, 4, [eC e]⟩), (14, ⟨3, 1, [[.i .i64 d]]⟩), (15, ⟨154, 1, [[.pt 0 1 0 0]]⟩)], us [13, 14, 15]⟩) (fun q : Bool => q = shape e.kind e.n e.s e.kids.length) ?_ (fun q hJ => ?_)
  ·refine .seq (.rgn [] (by simp only [go_sem, seval]; rfl) ?_ ?_)
   ·simp
   refine .block (.seq (.rgn [] (by simp only [go_sem, seval]; rfl) ?_ ?_))
   ·simp
   refine .condB (by simp only [go_sem, seval]; rfl) (by simp only [go_sem, seval]) (fun h23 => ?_) (fun h23 => ?_)
   ·refine .rgn [a5_ (s6_ e.n 0 1000000)] (by simp only [go_sem, seval]; rfl) ?_ ?_
    ·simp
    refine Exists.intro (decide (0 ≤ e.n) && decide (e.n ≤ 1000000) && e.s == [] && (e.kids.length : Int) == 0) ⟨?_, ?_⟩
    ·(first | rw [mt_] | rw [mh_] | rw [lp_] | skip); simp_all [shape]
    exact Can.weak (Weak.lit (by simp only [go_sem, seval, aw_, leV, at_, au_, V.inn, us, true_or, or_true]) (by simp only [go_sem, seval, aw_, leV, at_, au_, V.inn, us, true_or, or_true]) (by simp only [go_sem, seval, aw_, leV, at_, au_, V.inn, us, true_or, or_true]))
   ·refine .seq (.rgn [] (by simp only [go_sem, seval]; rfl) ?_ ?_)
    ·simp
    refine .condB (by simp only [go_sem, seval]; rfl) (by simp only [go_sem, seval]) (fun h39 => ?_) (fun h39 => ?_)
    ·refine .rgn [a5_ (sa_ e.s a1)] (by simp only [go_sem, seval]; rfl) ?_ ?_
     ·simp
     refine Exists.intro (e.n == 0 && hy_ e.s && (e.kids.length : Int) == 0) ⟨?_, ?_⟩
     ·(first | rw [mt_] | rw [mh_] | rw [lp_] | skip); simp_all [shape]
     exact Can.weak (Weak.lit (by simp only [go_sem, seval, aw_, leV, at_, au_, V.inn, us, true_or, or_true]) (by simp only [go_sem, seval, aw_, leV, at_, au_, V.inn, us, true_or, or_true]) (by simp only [go_sem, seval, aw_, leV, at_, au_, V.inn, us, true_or, or_true]))
    ·refine .seq (.rgn [] (by simp only [go_sem, seval]; rfl) ?_ ?_)
     ·simp
     refine .condB (by simp only [go_sem, seval]; rfl) (by simp only [go_sem, seval]) (fun h55 => ?_) (fun h55 => ?_)
     ·refine .rgn [a5_ (ko_ e.s)] (by simp only [go_sem, seval, wp_]; rfl) ?_ ?_
      ·simp
      refine Exists.intro (e.n == 0 && gn_ e.s && (e.kids.length : Int) == 2) ⟨?_, ?_⟩
      ·(first | rw [mt_] | rw [mh_] | rw [lp_] | skip); simp_all [shape]
      exact Can.weak (Weak.lit (by simp only [go_sem, seval, aw_, leV, at_, au_, V.inn, us, true_or, or_true]) (by simp only [go_sem, seval, aw_, leV, at_, au_, V.inn, us, true_or, or_true]) (by simp only [go_sem, seval, aw_, leV, at_, au_, V.inn, us, true_or, or_true]))
     ·refine .seq (.rgn [] (by simp only [go_sem, seval]; rfl) ?_ ?_)
      ·simp
      refine .condB (by simp only [go_sem, seval]; rfl) (by simp only [go_sem, seval]) (fun h72 => ?_) (fun h72 => ?_)
      ·refine .rgn [a5_ (qc_ e.s)] (by simp only [go_sem, seval]; rfl) ?_ ?_
       ·simp
       refine Exists.intro (e.n == 0 && ef_ e.s && (e.kids.length : Int) == 1) ⟨?_, ?_⟩
       ·(first | rw [mt_] | rw [mh_] | rw [lp_] | skip); simp_all [shape]
       exact Can.weak (Weak.lit (by simp only [go_sem, seval, aw_, leV, at_, au_, V.inn, us, true_or, or_true]) (by simp only [go_sem, seval, aw_, leV, at_, au_, V.inn, us, true_or, or_true]) (by simp only [go_sem, seval, aw_, leV, at_, au_, V.inn, us, true_or, or_true]))
      ·refine .skip ?_
       refine Exists.intro (false) ⟨?_, ?_⟩
       ·(first | rw [mt_] | rw [mh_] | rw [lp_] | skip); simp_all [shape]
       exact Can.weak (Weak.lit (by simp only [go_sem, seval, aw_, leV, at_, au_, V.inn, us, true_or, or_true]) (by simp only [go_sem, seval, aw_, leV, at_, au_, V.inn, us, true_or, or_true]) (by simp only [go_sem, seval, aw_, leV, at_, au_, V.inn, us, true_or, or_true]))
  cases q
  ·refine .seq (.rgn [bv_ [14, 15, 0] [] (kk_ e.kids (fun x hx => ih x hx (ch_ a3 x hx)) d (p + 1) hd (by simp at h20; omega) (by omega) (by simp at h20; omega) a2)] (by simp only [go_sem, seval, al_, ar_]; rfl) ?_ ?_)
   ·simp
   refine .ret ⟨.inr rfl, ?_⟩
   exact Out.mem' (by simp only [Tryz.results189]; rfl) (by simp only [a1_, bc_, go_sem, seval]) (by simp only [ba_, rns, rn, go_sem, seval] <;> (have g : ¬ (5 < d ∨ 12 < p + 1) := (by simp at h20; omega); rw [j0_, if_neg g, ← hJ]; rfl)) (by simp) rfl (by decide) (by simp only [go_sem, seval]) (by simp only [ar_, go_sem, seval]) (by simp only [al_, go_sem, seval] <;> (have g : ¬ (5 < d ∨ 12 < p + 1) := (by simp at h20; omega); rw [j0_, if_neg g, ← hJ]; rfl))
  ·refine .seq (.rgn [bv_ [14, 15, 0] [] (kk_ e.kids (fun x hx => ih x hx (ch_ a3 x hx)) d (p + 1) hd (by simp at h20; omega) (by omega) (by simp at h20; omega) a2)] (by simp only [go_sem, seval, al_, ar_]; rfl) ?_ ?_)
   ·simp
   refine .ret ⟨.inr rfl, ?_⟩
   exact Out.mem' (by simp only [Tryz.results189]; rfl) (by simp only [a1_, bc_, go_sem, seval]) (by simp only [ba_, rns, rn, go_sem, seval] <;> (have g : ¬ (5 < d ∨ 12 < p + 1) := (by simp at h20; omega); rw [j0_, if_neg g, ← hJ]; simp)) (by simp) rfl (by decide) (by simp only [go_sem, seval]) (by simp only [ar_, go_sem, seval]) (by simp only [al_, go_sem, seval] <;> (have g : ¬ (5 < d ∨ 12 < p + 1) := (by simp at h20; omega); rw [j0_, if_neg g, ← hJ]; rfl))
theorem hu_ (e : E) (hs : sm e = true) : ACall En 142 [.ag (eC e)] [] [.b (eok e)] [] := by
 refine ap_ (fn := Tryz.f142) [] Tryz.func142 rfl rfl (by simp) fun C => ?_
 rw [a0_]
 simp only [Tryz.ntmps142, List.length_cons, List.length_nil, Nat.reduceAdd, Nat.reduceSub, List.replicate_succ, List.replicate_zero, List.cons_append, List.nil_append, bq_]
 refine .seq (.rgn [] (by simp only [go_sem, seval]; rfl) ?_ ?_)
 ·first | trivial | simp
 refine .seq (.rgn [] (by simp only [go_sem, seval]; rfl) ?_ ?_)
 ·first | trivial | simp
 refine .seq (.rgn [bv_ [13] [] (ael_ e hs 1 0 (by decide) (by decide) (by decide) (by decide))] (by simp only [go_sem, seval, al_, ar_]; rfl) ?_ ?_)
 ·first | trivial | simp
 refine .ret ⟨.inr rfl, ?_⟩
 exact Out.plain (by simp only [Tryz.results142]; rfl) (by simp only [a1_, bc_, go_sem, seval] <;> (split <;> rfl)) (by simp only [ba_, go_sem, seval] <;> (rw [ace_])) (by simp only [go_sem, seval])
end
end Go.Proofs.YtefmbmafdgedmaaGreatDoor
