/- What the leaves answer. Conditions: none. -/
import Derived.Test.YtefmbmafdgedmaaGreatDoorNe
import Derived.Test.YtefmbmafdgedmaaGreatDoorNc
set_option linter.unusedVariables false
set_option linter.unusedSimpArgs false
namespace Go.Proofs.YtefmbmafdgedmaaGreatDoor
section
set_option maxRecDepth 100000
set_option maxHeartbeats 4000000
theorem in_a (n lo hi : Int) : ACall En 86 [.i .i64 n, .i .i64 lo, .i .i64 hi] [] [.b (decide (lo ≤ n) && decide (n ≤ hi))] [] := by
 refine ah_ (fn := Tryz.f86) [] Tryz.func86 rfl rfl (by simp) fun C => ?_
 rw [ar_]
 simp only [Tryz.ntmps86, List.length_cons, List.length_nil, Nat.reduceAdd, Nat.reduceSub, List.replicate_succ, List.replicate_zero, List.cons_append, List.nil_append, bd_]
 refine .seq (.rgn [] (by simp only [go_sem, seval]; rfl) ?_ ?_)
 ·first | trivial | simp
 refine .seq (.rgn [] (by simp only [go_sem, seval]; rfl) ?_ ?_)
 ·first | trivial | simp
 refine .ret ⟨.inr rfl, ?_⟩
 exact Out.plain (by simp only [Tryz.results86]; rfl) (by simp only [aq_, a8_, go_sem, seval] <;> (split <;> rfl)) (by simp only [a7_, go_sem, seval] <;> (rfl)) (by simp only [go_sem, seval])
theorem n5_ (c : UInt8) : ACall En 51 [.i .u8 c.toNat] [] [.b (cx_ c)] [] := by
 refine ah_ (fn := Tryz.f51) [] Tryz.func51 rfl rfl (by simp) fun C => ?_
 rw [ar_]
 simp only [Tryz.ntmps51, List.length_cons, List.length_nil, Nat.reduceAdd, Nat.reduceSub, List.replicate_succ, List.replicate_zero, List.cons_append, List.nil_append, bd_]
 refine .seq (.rgn [] (by simp only [go_sem, seval]; rfl) ?_ ?_)
 ·first | trivial | simp
 refine .seq (.rgn [] (by simp only [go_sem, seval]; rfl) ?_ ?_)
 ·first | trivial | simp
 refine .ret ⟨.inr rfl, ?_⟩
 exact Out.plain (by simp only [Tryz.results51]; rfl) (by simp only [aq_, a8_, go_sem, seval] <;> (split <;> rfl)) (by simp only [a7_, go_sem, seval] <;> (simp only [cx_])) (by simp only [go_sem, seval])
theorem yq_ (c : UInt8) : ACall En 52 [.i .u8 c.toNat] [] [.b (cs_ c)] [] := by
 refine ah_ (fn := Tryz.f52) [] Tryz.func52 rfl rfl (by simp) fun C => ?_
 rw [ar_]
 simp only [Tryz.ntmps52, List.length_cons, List.length_nil, Nat.reduceAdd, Nat.reduceSub, List.replicate_succ, List.replicate_zero, List.cons_append, List.nil_append, bd_]
 refine .seq (.rgn [] (by simp only [go_sem, seval]; rfl) ?_ ?_)
 ·first | trivial | simp
 refine .seq (.rgn [] (by simp only [go_sem, seval]; rfl) ?_ ?_)
 ·first | trivial | simp
 refine .ret ⟨.inr rfl, ?_⟩
 exact Out.plain (by simp only [Tryz.results52]; rfl) (by simp only [aq_, a8_, go_sem, seval] <;> (split <;> rfl)) (by simp only [a7_, go_sem, seval] <;> (simp only [cs_])) (by simp only [go_sem, seval])
theorem u1_ (s : Str) : ACall En 141 [.s s] [] [.b (ew_ s)] [] := by
 refine ah_ (fn := Tryz.f141) [] Tryz.func141 rfl rfl (by simp) fun C => ?_
 rw [ar_]
 simp only [Tryz.ntmps141, List.length_cons, List.length_nil, Nat.reduceAdd, Nat.reduceSub, List.replicate_succ, List.replicate_zero, List.cons_append, List.nil_append, bd_]
 refine .seq (.rgn [] (by simp only [go_sem, seval]; rfl) ?_ ?_)
 ·first | trivial | simp
 refine .seq (.rgn [] (by simp only [go_sem, seval]; rfl) ?_ ?_)
 ·first | trivial | simp
 refine .ret ⟨.inr rfl, ?_⟩
 exact Out.plain (by simp only [Tryz.results141]; rfl) (by simp only [aq_, a8_, go_sem, seval] <;> (split <;> rfl)) (by simp only [a7_, go_sem, seval] <;> (simp only [ew_])) (by simp only [go_sem, seval])
theorem is_ (s : Str) : ACall En 191 [.s s] [] [.i .i64 (a4_ s)] [] := by
 refine ah_ (fn := Tryz.f191) [] Tryz.func191 rfl rfl (by simp) fun C => ?_
 rw [ar_]
 simp only [Tryz.ntmps191, List.length_cons, List.length_nil, Nat.reduceAdd, Nat.reduceSub, List.replicate_succ, List.replicate_zero, List.cons_append, List.nil_append, bd_]
 refine .seq (.rgn [] (by simp only [go_sem, seval]; rfl) ?_ ?_)
 ·first | trivial | simp
 refine .seq (.seq (.rgn [] (by simp only [go_sem, seval]; rfl) ?_ ?_))
 ·first | trivial | simp
 refine .block (.seq (.rgn [] (by simp only [go_sem, seval]; rfl) ?_ ?_))
 ·first | trivial | simp
 refine .condB (by simp only [go_sem, seval]; rfl) (by simp only [go_sem, seval]) (fun h4 => ?_) (fun h4 => ?_)
 ·refine .seq (.rgn [] (by simp only [go_sem, seval]; rfl) ?_ ?_)
  ·first | trivial | simp
  refine .ret ⟨.inr rfl, ?_⟩
  exact Out.plain (by simp only [Tryz.results191]; rfl) (by simp only [aq_, a8_, go_sem, seval] <;> (split <;> rfl)) (by simp only [a7_, go_sem, seval] <;> (simp only [a4_]; simp_all)) (by simp only [go_sem, seval])
 ·refine .seq (.seq (.rgn [] (by simp only [go_sem, seval]; rfl) ?_ ?_))
  ·first | trivial | simp
  refine .condB (by simp only [go_sem, seval]; rfl) (by simp only [go_sem, seval]) (fun h6 => ?_) (fun h6 => ?_)
  ·refine .skip (.condB (by simp only [go_sem, seval]; rfl) (by simp only [go_sem, seval]) (fun h6 => ?_) (fun h6 => ?_))
   ·refine .seq (.rgn [] (by simp only [go_sem, seval]; rfl) ?_ ?_)
    ·first | trivial | simp
    refine .ret ⟨.inr rfl, ?_⟩
    exact Out.plain (by simp only [Tryz.results191]; rfl) (by simp only [aq_, a8_, go_sem, seval] <;> (split <;> rfl)) (by simp only [a7_, go_sem, seval] <;> (simp only [a4_]; simp_all)) (by simp only [go_sem, seval])
   ·refine .seq (.rgn [] (by simp only [go_sem, seval]; rfl) ?_ ?_)
    ·first | trivial | simp
    refine .condB (by simp only [go_sem, seval]; rfl) (by simp only [go_sem, seval]) (fun h9 => ?_) (fun h9 => ?_)
    ·refine .seq (.rgn [] (by simp only [go_sem, seval]; rfl) ?_ ?_)
     ·first | trivial | simp
     refine .ret ⟨.inr rfl, ?_⟩
     exact Out.plain (by simp only [Tryz.results191]; rfl) (by simp only [aq_, a8_, go_sem, seval] <;> (split <;> rfl)) (by simp only [a7_, go_sem, seval] <;> (simp only [a4_]; simp_all)) (by simp only [go_sem, seval])
    ·refine .skip (.seq (.rgn [] (by simp only [go_sem, seval]; rfl) ?_ ?_))
     ·first | trivial | simp
     refine .ret ⟨.inr rfl, ?_⟩
     exact Out.plain (by simp only [Tryz.results191]; rfl) (by simp only [aq_, a8_, go_sem, seval] <;> (split <;> rfl)) (by simp only [a7_, go_sem, seval] <;> (simp only [a4_]; simp_all)) (by simp only [go_sem, seval])
  ·refine .rgn [] (by simp only [go_sem, seval]; rfl) ?_ ?_
   ·first | trivial | simp
   refine .condB (by simp only [go_sem, seval]; rfl) (by simp only [go_sem, seval]) (fun h6 => ?_) (fun h6 => ?_)
   ·refine .seq (.rgn [] (by simp only [go_sem, seval]; rfl) ?_ ?_)
    ·first | trivial | simp
    refine .ret ⟨.inr rfl, ?_⟩
    exact Out.plain (by simp only [Tryz.results191]; rfl) (by simp only [aq_, a8_, go_sem, seval] <;> (split <;> rfl)) (by simp only [a7_, go_sem, seval] <;> (simp only [a4_]; simp_all)) (by simp only [go_sem, seval])
   ·refine .seq (.rgn [] (by simp only [go_sem, seval]; rfl) ?_ ?_)
    ·first | trivial | simp
    refine .condB (by simp only [go_sem, seval]; rfl) (by simp only [go_sem, seval]) (fun h9 => ?_) (fun h9 => ?_)
    ·refine .seq (.rgn [] (by simp only [go_sem, seval]; rfl) ?_ ?_)
     ·first | trivial | simp
     refine .ret ⟨.inr rfl, ?_⟩
     exact Out.plain (by simp only [Tryz.results191]; rfl) (by simp only [aq_, a8_, go_sem, seval] <;> (split <;> rfl)) (by simp only [a7_, go_sem, seval] <;> (simp only [a4_]; simp_all)) (by simp only [go_sem, seval])
    ·refine .skip (.seq (.rgn [] (by simp only [go_sem, seval]; rfl) ?_ ?_))
     ·first | trivial | simp
     refine .ret ⟨.inr rfl, ?_⟩
     exact Out.plain (by simp only [Tryz.results191]; rfl) (by simp only [aq_, a8_, go_sem, seval] <;> (split <;> rfl)) (by simp only [a7_, go_sem, seval] <;> (simp only [a4_]; simp_all)) (by simp only [go_sem, seval])
theorem ko_ (s : Str) : ACall En 101 [.s s] [] [.b (ew_ s)] [] := by
 refine ah_ (fn := Tryz.f101) [] Tryz.func101 rfl rfl (by simp) fun C => ?_
 rw [ar_]
 simp only [Tryz.ntmps101, List.length_cons, List.length_nil, Nat.reduceAdd, Nat.reduceSub, List.replicate_succ, List.replicate_zero, List.cons_append, List.nil_append, bd_]
 refine .seq (.rgn [] (by simp only [go_sem, seval]; rfl) ?_ ?_)
 ·first | trivial | simp
 refine .seq (.rgn [] (by simp only [go_sem, seval]; rfl) ?_ ?_)
 ·first | trivial | simp
 refine .ret ⟨.inr rfl, ?_⟩
 exact Out.plain (by simp only [Tryz.results101]; rfl) (by simp only [aq_, a8_, go_sem, seval] <;> (split <;> rfl)) (by simp only [a7_, go_sem, seval] <;> (simp only [ew_])) (by simp only [go_sem, seval])
theorem adi_ (s : Str) : ACall En 203 [.s s] [] [.b (fp_ s)] [] := by
 refine ah_ (fn := Tryz.f203) [] Tryz.func203 rfl rfl (by simp) fun C => ?_
 rw [ar_]
 simp only [Tryz.ntmps203, List.length_cons, List.length_nil, Nat.reduceAdd, Nat.reduceSub, List.replicate_succ, List.replicate_zero, List.cons_append, List.nil_append, bd_]
 refine .seq (.rgn [] (by simp only [go_sem, seval]; rfl) ?_ ?_)
 ·first | trivial | simp
 refine .seq (.rgn [] (by simp only [go_sem, seval]; rfl) ?_ ?_)
 ·first | trivial | simp
 refine .ret ⟨.inr rfl, ?_⟩
 exact Out.plain (by simp only [Tryz.results203]; rfl) (by simp only [aq_, a8_, go_sem, seval] <;> (split <;> rfl)) (by simp only [a7_, go_sem, seval] <;> (simp only [fp_])) (by simp only [go_sem, seval])
theorem abl_ (s : Str) : ACall En 160 [.s s] [] [.b (g6_ s)] [] := by
 refine ah_ (fn := Tryz.f160) [] Tryz.func160 rfl rfl (by simp) fun C => ?_
 rw [ar_]
 simp only [Tryz.ntmps160, List.length_cons, List.length_nil, Nat.reduceAdd, Nat.reduceSub, List.replicate_succ, List.replicate_zero, List.cons_append, List.nil_append, bd_]
 refine .seq (.rgn [] (by simp (maxSteps := 1000000) only [go_sem, seval]; rfl) ?_ ?_)
 ·first | trivial | simp
 refine .seq (.rgn [a2_ (ko_ s)] (by simp (maxSteps := 1000000) only [go_sem, seval]; rfl) ?_ ?_)
 ·first | trivial | simp
 refine .ret ⟨.inr rfl, ?_⟩
 exact Out.plain (by simp only [Tryz.results160]; rfl) (by simp only [aq_, a8_, go_sem, seval] <;> (split <;> rfl)) (by simp only [a7_, go_sem, seval] <;> (simp only [g6_])) (by simp (maxSteps := 1000000) only [go_sem, seval])
end
section
set_option maxRecDepth 100000
set_option maxHeartbeats 4000000
theorem ada_ (p : UInt8 → Bool) : ∀ (s : Str) (k : Nat), k ≤ s.length → (s.take k).all p = true → (∀ c, s[k]? = some c → p c = false) → (s.takeWhile p).length = k
 | [], k, h, _, _ => by simp at h; simp [h]
 | c :: s, 0, _, _, h => by simp [h c (by simp)]
 | c :: s, k + 1, h, h1, h2 => by
  simp only [List.take_succ_cons, List.all_cons, Bool.and_eq_true] at h1
  rw [List.takeWhile_cons_of_pos h1.1, List.length_cons, ada_ p s k (by simpa using h) h1.2 (by simpa using h2)]
theorem st_ (p : UInt8 → Bool) (s : Str) (k : Nat) (h : k < s.length) : (s.take (k + 1)).all p = ((s.take k).all p && p (s.getD k 0)) := by
 rw [List.take_add_one, List.getElem?_eq_getElem h, List.all_append, List.getD_eq_getElem?_getD, List.getElem?_eq_getElem h]
 simp
theorem ac1_ (p : UInt8 → Bool) (F : Nat) (hF : ∀ c : UInt8, ACall En F [.i .u8 c.toNat] [] [.b (p c)] []) (s : Str) (hs : s.length < 4611686018427387904) : ACall En 50 [.s s, .fn (.func F) [] []] [] [.i .i64 (s.takeWhile p).length] [] := by
 refine ah_ (fn := Tryz.f50) [] Tryz.func50 rfl rfl (by simp) fun C => ?_
 rw [ar_]
 simp only [Tryz.ntmps50, List.length_cons, List.length_nil, Nat.reduceAdd, Nat.reduceSub, List.replicate_succ, List.replicate_zero, List.cons_append, List.nil_append, bd_]
 refine .seq (.rgn [] (by simp only [go_sem, seval]; rfl) ?_ ?_)
 ·first | trivial | simp
 refine .seq (.rgn [] (by simp only [go_sem, seval]; rfl) ?_ ?_)
 ·first | trivial | simp
 refine .seq (.block (.loopK (fun k : Nat => ⟨[.s s, .fn (.func F) [] [], .no, .no, .i .i64 0, .i .i64 k, .no, .no, .no, .no, .no, .no, .no, .no, .no, .no, .no, .no, .no, .no], aw_ [], us []⟩) (fun k : Nat => k ≤ s.length ∧ (s.take k).all p = true) (fun k : Nat => s.length - k) (0) ?_ ?_ (fun k hI => ?_)))
 ·simp
 ·exact Can.weak (Weak.lit (by simp only [go_sem, seval, an_, leV, al_, am_, V.inn, us, true_or, or_true] <;> (simp)) (by simp only [go_sem, seval, an_, leV, al_, am_, V.inn, us, true_or, or_true]) (by simp only [go_sem, seval, an_, leV, al_, am_, V.inn, us, true_or, or_true]))
 refine .seq (.seq (.rgn [a2_ (hF (s.getD k 0))] (by simp only [go_sem, seval]; rfl) ?_ ?_))
 ·first | trivial | simp
 refine .condB (by simp only [go_sem, seval]; rfl) (by simp only [go_sem, seval]) (fun h16 => ?_) (fun h16 => ?_)
 ·refine .skip (.block (.rgn [] (by simp only [go_sem, seval]; rfl) ?_ ?_))
  ·first | trivial | simp
  refine Exists.intro (k + 1) ⟨?_, ?_, ?_⟩
  ·have h2 : k < s.length ∧ p (s.getD k 0) = true := (by simpa using h16); exact ⟨by omega, by rw [st_ p s k h2.1, hI.2, h2.2]; rfl⟩
  ·have h2 : k < s.length ∧ p (s.getD k 0) = true := (by simpa using h16); omega
  exact Can.weak (Weak.lit (by simp only [go_sem, seval, an_, leV, al_, am_, V.inn, us, true_or, or_true] <;> (rw [bc_ (by omega) (by omega)]; simp)) (by simp only [go_sem, seval, an_, leV, al_, am_, V.inn, us, true_or, or_true]) (by simp only [go_sem, seval, an_, leV, al_, am_, V.inn, us, true_or, or_true]))
 ·refine .exit (.seq (.rgn [] (by simp only [go_sem, seval]; rfl) ?_ ?_))
  ·first | trivial | simp
  refine .ret ⟨.inr rfl, ?_⟩
  exact Out.plain (by simp only [Tryz.results50]; rfl) (by simp only [aq_, a8_, go_sem, seval] <;> (split <;> rfl)) (by simp only [a7_, go_sem, seval] <;> (rw [ada_ p s k hI.1 hI.2]; intro c hc; have := (List.getElem?_eq_some_iff.1 hc).1; simp_all)) (by simp only [go_sem, seval])
end
section
set_option maxRecDepth 100000
set_option maxHeartbeats 4000000
theorem t1_ {l : List Str} {s : Str} {k : Nat} (h : k < l.length) (h1 : ∀ x ∈ l.take k, x ≠ s) (h2 : l.getD k [] = s) : s ∈ l ∧ l.idxOf s = k := by
 rw [List.getD_eq_getElem?_getD, List.getElem?_eq_getElem h] at h2
 simp only [Option.getD_some] at h2
 refine ⟨by rw [← h2]; exact List.getElem_mem h, ?_⟩
 have e := List.take_append_drop k l
 rw [List.drop_eq_getElem_cons h, h2] at e
 have hn : ¬ s ∈ l.take k := fun hm => h1 _ hm rfl
 rw [← e, List.idxOf_append, if_neg hn]
 simp [List.length_take, Nat.min_eq_left (Nat.le_of_lt h)]
theorem xa_ (l : List Str) (s : Str) (hl : l.length < 4611686018427387904) : ACall En 114 [.sl false (bm_ l), .s s] [] [.i .i64 (dy_ l s)] [] := by
 refine ah_ (fn := Tryz.f114) [] Tryz.func114 rfl rfl (by simp) fun C => ?_
 rw [ar_]
 simp only [Tryz.ntmps114, List.length_cons, List.length_nil, Nat.reduceAdd, Nat.reduceSub, List.replicate_succ, List.replicate_zero, List.cons_append, List.nil_append, bd_]
 refine .seq (.rgn [] (by simp only [go_sem, seval]; rfl) ?_ ?_)
 ·first | trivial | simp
 refine .seq (.seq (.rgn [] (by simp only [go_sem, seval]; rfl) ?_ ?_))
 ·first | trivial | simp
 refine .block (.loopK (fun k : Nat => ⟨[.sl false (bm_ l), .s s, .no, .no, .i .i64 0, .no, .no, .i .i64 l.length, .i .i64 k, .no, .no, .no, .no, .no, .no, .no, .no, .no, .no], aw_ [], us []⟩) (fun k : Nat => k ≤ l.length ∧ ∀ x ∈ l.take k, x ≠ s) (fun k : Nat => l.length - k) (0) ?_ ?_ (fun k hI => ?_))
 ·simp
 ·exact Can.weak (Weak.lit (by simp only [go_sem, seval, an_, leV, al_, am_, V.inn, us, true_or, or_true] <;> (simp)) (by simp only [go_sem, seval, an_, leV, al_, am_, V.inn, us, true_or, or_true]) (by simp only [go_sem, seval, an_, leV, al_, am_, V.inn, us, true_or, or_true]))
 refine .seq (.rgn [] (by simp only [go_sem, seval]; rfl) ?_ ?_)
 ·first | trivial | simp
 refine .seq (.condB (by simp only [go_sem, seval]; rfl) (by simp only [go_sem, seval]) (fun h9 => ?_) (fun h9 => ?_))
 ·refine .skip (.seq (.block (.seq (.rgn [] (by simp only [go_sem, seval]; rfl) ?_ ?_))))
  ·first | trivial | simp
  refine .seq (.rgn [] (by simp only [go_sem, seval, co_ (show k < l.length by simpa using h9)]; rfl) ?_ ?_)
  ·simp at h9; simp [ab_, h9]
  refine .condB (by simp only [go_sem, seval]; rfl) (by simp only [go_sem, seval]) (fun h16 => ?_) (fun h16 => ?_)
  ·refine .seq (.rgn [] (by simp only [go_sem, seval]; rfl) ?_ ?_)
   ·first | trivial | simp
   refine .ret ⟨.inr rfl, ?_⟩
   exact Out.plain (by simp only [Tryz.results114]; rfl) (by simp only [aq_, a8_, go_sem, seval] <;> (split <;> rfl)) (by simp only [a7_, go_sem, seval] <;> (simp at h9; obtain ⟨g1, g2⟩ := t1_ h9 hI.2 (by simpa using (eq_of_beq h16).symm); simp [dy_, g1, g2])) (by simp only [go_sem, seval])
  ·refine .skip (.rgn [] (by simp only [go_sem, seval]; rfl) ?_ ?_)
   ·first | trivial | simp
   refine Exists.intro (k + 1) ⟨?_, ?_, ?_⟩
   ·simp at h9; refine ⟨by omega, fun x hx => ?_⟩; rw [List.take_add_one, List.mem_append, List.getElem?_eq_getElem h9] at hx; rcases hx with hx | hx; exact hI.2 x hx; simp at hx; subst hx; simp [List.getD_eq_getElem?_getD, List.getElem?_eq_getElem h9] at h16; exact fun e => h16 e.symm
   ·simp at h9; omega
   exact Can.weak (Weak.lit (by simp only [go_sem, seval, an_, leV, al_, am_, V.inn, us, true_or, or_true] <;> (rw [bc_ (by omega) (by omega)]; simp)) (by simp only [go_sem, seval, an_, leV, al_, am_, V.inn, us, true_or, or_true]) (by simp only [go_sem, seval, an_, leV, al_, am_, V.inn, us, true_or, or_true]))
 ·refine .exit (.seq (.rgn [] (by simp only [go_sem, seval]; rfl) ?_ ?_))
  ·first | trivial | simp
  refine .ret ⟨.inr rfl, ?_⟩
  exact Out.plain (by simp only [Tryz.results114]; rfl) (by simp only [aq_, a8_, go_sem, seval] <;> (split <;> rfl)) (by simp only [a7_, go_sem, seval] <;> (simp at h9; have : ¬ s ∈ l := fun hm => hI.2 s (by rw [List.take_of_length_le h9]; exact hm) rfl; simp [dy_, this])) (by simp only [go_sem, seval])
theorem ke_ (l : List Str) (s : Str) (hl : l.length < 4611686018427387904) : ACall En 175 [.sl false (bm_ l), .s s] [] [.b (l.contains s)] [] := by
 refine ah_ (fn := Tryz.f175) [] Tryz.func175 rfl rfl (by simp) fun C => ?_
 rw [ar_]
 simp only [Tryz.ntmps175, List.length_cons, List.length_nil, Nat.reduceAdd, Nat.reduceSub, List.replicate_succ, List.replicate_zero, List.cons_append, List.nil_append, bd_]
 refine .seq (.rgn [] (by simp only [go_sem, seval]; rfl) ?_ ?_)
 ·first | trivial | simp
 refine .seq (.rgn [a2_ (xa_ l s hl)] (by simp only [go_sem, seval]; rfl) ?_ ?_)
 ·first | trivial | simp
 refine .ret ⟨.inr rfl, ?_⟩
 exact Out.plain (by simp only [Tryz.results175]; rfl) (by simp only [aq_, a8_, go_sem, seval] <;> (split <;> rfl)) (by simp only [a7_, go_sem, seval] <;> (by_cases h : s ∈ l <;> simp [dy_, h])) (by simp only [go_sem, seval])
end
section
set_option maxRecDepth 100000
set_option maxHeartbeats 4000000
theorem wl_ {xs ys : List E} {k : Nat} (h1 : k < xs.length) (h2 : k < ys.length) : (xs.zip ys)[k]? = some (xs.getD k E0, ys.getD k E0) := by
 rw [List.getElem?_eq_getElem (by simp; omega)]
 simp [List.getD_eq_getElem?_getD, List.getElem?_eq_getElem h1, List.getElem?_eq_getElem h2]
theorem tc_ {xs ys : List E} {k : Nat} (f : E × E → Bool) (h1 : k < xs.length) (h2 : k < ys.length) : ((xs.zip ys).take (k + 1)).all f = (((xs.zip ys).take k).all f && f (xs.getD k E0, ys.getD k E0)) := by
 rw [List.take_add_one, wl_ h1 h2, List.all_append]; simp
theorem xt_ {xs ys : List E} {k : Nat} (f : E × E → Bool) (h1 : k < xs.length) (h2 : k < ys.length) (h : f (xs.getD k E0, ys.getD k E0) = false) : (xs.zip ys).all f = false := by
 rw [List.all_eq_false]; exact ⟨_, List.mem_of_getElem? (wl_ h1 h2), by rw [h]; simp⟩
theorem tu_ (p : E → E → Bool) (F : Nat) (xs ys : List E) (hF : ∀ x ∈ xs, ∀ y ∈ ys, ACall En F [.ag (eC x), .ag (eC y)] [] [.b (p x y)] []) (hx : xs.length < 4611686018427387904) (hy : ys.length < 4611686018427387904) :
  ACall En 208 [.sl false (eR xs), .sl false (eR ys), .fn (.func F) [] []] [] [.b (decide (xs.length = ys.length) && (xs.zip ys).all fun q => p q.1 q.2)] [] := by
 refine ah_ (fn := Tryz.f208) [] Tryz.func208 rfl rfl (by simp) fun C => ?_
 rw [ar_]
 simp only [Tryz.ntmps208, List.length_cons, List.length_nil, Nat.reduceAdd, Nat.reduceSub, List.replicate_succ, List.replicate_zero, List.cons_append, List.nil_append, bd_]
 refine .seq (.rgn [] (by simp only [go_sem, seval]; rfl) ?_ ?_)
 ·first | trivial | simp
 refine .seq (.seq (.rgn [] (by simp only [go_sem, seval]; rfl) ?_ ?_))
 ·first | trivial | simp
 refine .condB (by simp only [go_sem, seval]; rfl) (by simp only [go_sem, seval]) (fun h14 => ?_) (fun h14 => ?_)
 ·refine .seq (.rgn [] (by simp only [go_sem, seval]; rfl) ?_ ?_)
  ·first | trivial | simp
  refine .ret ⟨.inr rfl, ?_⟩
  exact Out.plain (by simp only [Tryz.results208]; rfl) (by simp only [aq_, a8_, go_sem, seval] <;> (split <;> rfl)) (by simp only [a7_, go_sem, seval] <;> (simp at h14; simp; omega)) (by simp only [go_sem, seval])
 ·refine .skip (.seq (.seq (.rgn [] (by simp only [go_sem, seval]; rfl) ?_ ?_)))
  ·first | trivial | simp
  refine .block (.loopK (fun k : Nat => ⟨[.sl false (eR xs), .sl false (eR ys), .fn (.func F) [] [], .no, .no, .no, .b false, .no, .no, .no, .no, .no, .no, .no, .no, .sl false (eR xs), .i .i64 xs.length, .i .i64 k, .no, .no, .no, .no, .no, .no, .no, .no, .no, .no, .no, .no, .no, .no], aw_ [], us []⟩) (fun k : Nat => k ≤ xs.length ∧ ((xs.zip ys).take k).all (fun q => p q.1 q.2) = true) (fun k : Nat => xs.length - k) (0) ?_ ?_ (fun k hI => ?_))
  ·simp
  ·exact Can.weak (Weak.lit (by simp only [go_sem, seval, an_, leV, al_, am_, V.inn, us, true_or, or_true] <;> (simp)) (by simp only [go_sem, seval, an_, leV, al_, am_, V.inn, us, true_or, or_true]) (by simp only [go_sem, seval, an_, leV, al_, am_, V.inn, us, true_or, or_true]))
  refine .seq (.rgn [] (by simp only [go_sem, seval]; rfl) ?_ ?_)
  ·first | trivial | simp
  refine .seq (.condB (by simp only [go_sem, seval]; rfl) (by simp only [go_sem, seval]) (fun h18 => ?_) (fun h18 => ?_))
  ·refine .skip (.seq (.block (.seq (.rgn [] (by simp only [go_sem, seval, d7_ (show k < xs.length by simpa using h18)]; rfl) ?_ ?_))))
   ·simp at h18; simp [h18]
   refine .seq (.rgn [] (by simp only [go_sem, seval, d7_ (show k < ys.length by simp at h14 h18; omega)]; rfl) ?_ ?_)
   ·simp at h14 h18; simp; omega
   refine .seq (.rgn [a2_ (hF (xs.getD k E0) (bo_ (by simpa using h18)) (ys.getD k E0) (bo_ (by simp at h14 h18; omega)))] (by simp only [go_sem, seval]; rfl) ?_ ?_)
   ·first | trivial | simp
   refine .condB (by simp only [go_sem, seval]; rfl) (by simp only [go_sem, seval]) (fun h30 => ?_) (fun h30 => ?_)
   ·refine .seq (.rgn [] (by simp only [go_sem, seval]; rfl) ?_ ?_)
    ·first | trivial | simp
    refine .ret ⟨.inr rfl, ?_⟩
    exact Out.plain (by simp only [Tryz.results208]; rfl) (by simp only [aq_, a8_, go_sem, seval] <;> (split <;> rfl)) (by simp only [a7_, go_sem, seval] <;> (simp at h14 h18; rw [xt_ _ h18 (by omega) (by simpa using h30)]; simp)) (by simp only [go_sem, seval])
   ·refine .skip (.rgn [] (by simp only [go_sem, seval]; rfl) ?_ ?_)
    ·first | trivial | simp
    refine Exists.intro (k + 1) ⟨?_, ?_, ?_⟩
    ·simp at h14 h18; exact ⟨by omega, by rw [tc_ _ h18 (by omega), hI.2]; simpa using h30⟩
    ·simp at h18; omega
    exact Can.weak (Weak.lit (by simp only [go_sem, seval, an_, leV, al_, am_, V.inn, us, true_or, or_true] <;> (rw [bc_ (by simp at h18; omega) (by simp at h18; omega)]; simp)) (by simp only [go_sem, seval, an_, leV, al_, am_, V.inn, us, true_or, or_true]) (by simp only [go_sem, seval, an_, leV, al_, am_, V.inn, us, true_or, or_true]))
  ·refine .exit (.seq (.rgn [] (by simp only [go_sem, seval]; rfl) ?_ ?_))
   ·first | trivial | simp
   refine .ret ⟨.inr rfl, ?_⟩
   exact Out.plain (by simp only [Tryz.results208]; rfl) (by simp only [aq_, a8_, go_sem, seval] <;> (split <;> rfl)) (by simp only [a7_, go_sem, seval] <;> (simp at h14 h18; have := hI.2; rw [List.take_of_length_le (by simp; omega)] at this; rw [this]; simp; omega)) (by simp only [go_sem, seval])
theorem hp_ : ∀ xs ys : List E, same.sameL xs ys = (decide (xs.length = ys.length) && (xs.zip ys).all fun q => same q.1 q.2)
 | [], [] => rfl
 | [], _ :: _ => by simp [same.sameL]
 | _ :: _, [] => by simp [same.sameL]
 | x :: xs, y :: ys => by
  simp only [same.sameL, hp_ xs ys, List.zip_cons_cons, List.all_cons, List.length_cons, Nat.add_right_cancel_iff]
  cases same x y <;> simp
end
section
set_option maxRecDepth 100000
set_option maxHeartbeats 4000000
theorem ud_ (x : E) : ∀ y, sm x = true → sm y = true → ACall En 174 [.ag (eC x), .ag (eC y)] [] [.b (same x y)] [] := by
 induction x using E.ind' with
 | h x ih =>
 intro y hx hy
 obtain ⟨a1, a2, a3⟩ := fn_ hx
 obtain ⟨b1, b2, b3⟩ := fn_ hy
 refine ah_ (fn := Tryz.f174) [] Tryz.func174 rfl rfl (by simp) fun C => ?_
 rw [ar_]
 simp only [Tryz.ntmps174, List.length_cons, List.length_nil, Nat.reduceAdd, Nat.reduceSub, List.replicate_succ, List.replicate_zero, List.cons_append, List.nil_append, bd_]
 refine .seq (.rgn [] (by simp only [go_sem, seval]; rfl) ?_ ?_)
 ·first | trivial | simp
 refine .seq (.rgn [a2_ (tu_ same 174 x.kids y.kids (fun u hu v hv => ih u hu v (c5_ a3 u hu) (c5_ b3 v hv)) a2 b2)] (by simp only [go_sem, seval]; rfl) ?_ ?_)
 ·simp
 refine .ret ⟨.inr rfl, ?_⟩
 exact Out.plain (by simp only [Tryz.results174]; rfl) (by simp only [aq_, a8_, go_sem, seval] <;> (split <;> rfl)) (by simp only [a7_, go_sem, seval] <;> (rw [np_, hp_])) (by simp only [go_sem, seval])
theorem t6_ (x : E) : ∀ y, sm x = true → sm y = true → ACall En 158 [.ag (eC x), .ag (eC y)] [] [.b (same x y)] [] := by
 induction x using E.ind' with
 | h x ih =>
 intro y hx hy
 obtain ⟨a1, a2, a3⟩ := fn_ hx
 obtain ⟨b1, b2, b3⟩ := fn_ hy
 refine ah_ (fn := Tryz.f158) [] Tryz.func158 rfl rfl (by simp) fun C => ?_
 rw [ar_]
 simp only [Tryz.ntmps158, List.length_cons, List.length_nil, Nat.reduceAdd, Nat.reduceSub, List.replicate_succ, List.replicate_zero, List.cons_append, List.nil_append, bd_]
 refine .seq (.rgn [] (by simp only [go_sem, seval]; rfl) ?_ ?_)
 ·first | trivial | simp
 refine .seq (.seq (.rgn [] (by simp only [go_sem, seval]; rfl) ?_ ?_))
 ·simp
 refine .condB (by simp only [go_sem, seval]; rfl) (by simp only [go_sem, seval]) (fun h33 => ?_) (fun h33 => ?_)
 ·refine .seq (.rgn [] (by simp only [go_sem, seval]; rfl) ?_ ?_)
  ·first | trivial | simp
  refine .ret ⟨.inr rfl, ?_⟩
  exact Out.plain (by simp only [Tryz.results158]; rfl) (by simp only [aq_, a8_, go_sem, seval] <;> (split <;> rfl)) (by simp only [a7_, go_sem, seval] <;> (simp at h33; rw [np_, hp_]; rcases h33 with ((h33 | h33) | h33) | h33 <;> simp [h33] <;> omega)) (by simp only [go_sem, seval])
 ·refine .skip (.seq (.seq (.rgn [] (by simp only [go_sem, seval]; rfl) ?_ ?_)))
  ·first | trivial | simp
  refine .block (.loopK (fun k : Nat => ⟨[.no, .no, .pt 12 4 0 0, .pt 13 4 0 0, .b false, .i .i64 k, .no, .no, .no, .no, .no, .no, .no, .no, .no, .no, .no, .no, .no, .no, .no, .no, .no, .no, .no, .no, .no, .no, .no, .no, .no, .no, .no, .no, .no, .no, .no, .no, .no, .no, .no, .no, .no, .no, .no, .no, .no, .no, .no, .no, .no, .no, .no], aw_ [(12, ⟨48, 4, [eC x]⟩), (13, ⟨48, 4, [eC y]⟩)], us [12, 13]⟩) (fun k : Nat => k ≤ x.kids.length ∧ ((x.kids.zip y.kids).take k).all (fun q => same q.1 q.2) = true) (fun k : Nat => x.kids.length - k) (0) ?_ ?_ (fun k hI => ?_))
  ·simp
  ·exact Can.weak (Weak.lit (by simp only [go_sem, seval, an_, leV, al_, am_, V.inn, us, true_or, or_true] <;> (simp)) (by simp only [go_sem, seval, an_, leV, al_, am_, V.inn, us, true_or, or_true]) (by simp only [go_sem, seval, an_, leV, al_, am_, V.inn, us, true_or, or_true]))
  refine .seq (.seq (.rgn [] (by simp only [go_sem, seval]; rfl) ?_ ?_))
  ·first | trivial | simp
  refine .condB (by simp only [go_sem, seval]; rfl) (by simp only [go_sem, seval]) (fun h38 => ?_) (fun h38 => ?_)
  ·refine .skip (.seq (.block (.seq (.rgnD [a2_ (ih (x.kids.getD k E0) (bo_ (by simpa using h38)) (y.kids.getD k E0) (c5_ a3 _ (bo_ (by simpa using h38))) (c5_ b3 _ (bo_ (by simp at h33 h38; omega))))] enM (by simp only [go_sem, seval, d7_ (show k < x.kids.length by simpa using h38), d7_ (show k < y.kids.length by simp at h33 h38; omega)]; rfl) (by rfl) ?_ ?_))))
   ·simp at h33 h38; simp; omega
   refine .condB (by simp only [go_sem, seval]; rfl) (by simp only [go_sem, seval]) (fun h52 => ?_) (fun h52 => ?_)
   ·refine .seq (.rgn [] (by simp only [go_sem, seval]; rfl) ?_ ?_)
    ·first | trivial | simp
    refine .ret ⟨.inr rfl, ?_⟩
    exact Out.plain (by simp only [Tryz.results158]; rfl) (by simp only [aq_, a8_, go_sem, seval] <;> (split <;> rfl)) (by simp only [a7_, go_sem, seval] <;> (simp at h33 h38; rw [np_, hp_, xt_ _ h38 (by omega) (by simpa using h52)]; simp)) (by simp only [go_sem, seval])
   ·refine .skip (.rgn [] (by simp only [go_sem, seval]; rfl) ?_ ?_)
    ·first | trivial | simp
    refine Exists.intro (k + 1) ⟨?_, ?_, ?_⟩
    ·simp at h33 h38; exact ⟨by omega, by rw [tc_ _ h38 (by omega), hI.2]; simpa using h52⟩
    ·simp at h38; omega
    exact Can.weak (Weak.lit (by simp only [go_sem, seval, an_, leV, al_, am_, V.inn, us, true_or, or_true] <;> (rw [bc_ (by simp at h38; omega) (by simp at h38; omega)]; simp)) (by simp only [go_sem, seval, an_, leV, al_, am_, V.inn, us, true_or, or_true]) (by simp only [go_sem, seval, an_, leV, al_, am_, V.inn, us, true_or, or_true]))
  ·refine .exit (.seq (.rgn [] (by simp only [go_sem, seval]; rfl) ?_ ?_))
   ·first | trivial | simp
   refine .ret ⟨.inr rfl, ?_⟩
   exact Out.plain (by simp only [Tryz.results158]; rfl) (by simp only [aq_, a8_, go_sem, seval] <;> (split <;> rfl)) (by simp only [a7_, go_sem, seval] <;> (simp at h33 h38; rw [np_, hp_]; have e := hI.2; rw [List.take_of_length_le (by simp; omega)] at e; rw [e]; simp [h33]; omega)) (by simp only [go_sem, seval])
end
section
set_option maxRecDepth 100000
set_option maxHeartbeats 4000000
theorem yh_ {p : UInt8 → Bool} {s : Str} {k : Nat} (h : k < s.length) (hp : p (s.getD k 0) = false) : s.all p = false := by
 rw [List.all_eq_false]; exact ⟨_, bo_ h, by rw [hp]; simp⟩
theorem jv_ (p : UInt8 → Bool) : ∀ s : Str, ((s.takeWhile p).length == s.length) = s.all p
 | [] => rfl
 | c :: s => by
  have := jv_ p s
  simp only [List.takeWhile_cons, List.all_cons]
  cases p c <;> simp_all
theorem zs_ (s : Str) : ownW.contains s = g6_ s := by
 simp only [ownW, g6_, ew_, List.contains_cons, List.contains_nil, Bool.or_false]
 simp only [Bool.or_assoc]
theorem ac0_ (s : Str) : (decide ((s.length : Int) ≥ 1) && decide ((s.length : Int) ≤ 8)) = (decide (1 ≤ s.length) && decide (s.length ≤ 8)) := by
 congr 1 <;> exact decide_eq_decide.2 (by omega)
theorem yw_ (s : Str) : (decide (1 ≤ (s.length : Int)) && decide ((s.length : Int) ≤ 8)) = (decide (1 ≤ s.length) && decide (s.length ≤ 8)) := by
 congr 1 <;> exact decide_eq_decide.2 (by omega)
theorem la_ (a b : Nat) : ((a : Int) == (b : Int)) = (a == b) := by
 cases h : a == b <;> simp_all <;> omega
theorem sv_ (s : Str) (hs : s.length < 4611686018427387904) : ACall En 159 [.s s] [] [.b (eo_ s)] [] := by
 refine ah_ (fn := Tryz.f159) [] Tryz.func159 rfl rfl (by simp) fun C => ?_
 rw [ar_]
 simp only [Tryz.ntmps159, List.length_cons, List.length_nil, Nat.reduceAdd, Nat.reduceSub, List.replicate_succ, List.replicate_zero, List.cons_append, List.nil_append, bd_]
 refine .seq (.rgn [] (by simp only [go_sem, seval]; rfl) ?_ ?_)
 ·first | trivial | simp
 refine .seq (.seq (.rgn [] (by simp only [go_sem, seval]; rfl) ?_ ?_))
 ·first | trivial | simp
 refine .block (.loopK (fun k : Nat => ⟨[.s s, .no, .b false, .i .i64 k, .no, .no, .no, .no, .no, .no, .no, .no, .no, .no, .no, .no, .no, .no, .no, .no, .no, .no, .no, .no, .no, .no, .no, .no], aw_ [], us []⟩) (fun k : Nat => k ≤ s.length ∧ (s.take k).all cx_ = true) (fun k : Nat => s.length - k) (0) ?_ ?_ (fun k hI => ?_))
 ·simp
 ·exact Can.weak (Weak.lit (by simp only [go_sem, seval, an_, leV, al_, am_, V.inn, us, true_or, or_true] <;> (simp)) (by simp only [go_sem, seval, an_, leV, al_, am_, V.inn, us, true_or, or_true]) (by simp only [go_sem, seval, an_, leV, al_, am_, V.inn, us, true_or, or_true]))
 refine .seq (.seq (.rgn [] (by simp only [go_sem, seval]; rfl) ?_ ?_))
 ·first | trivial | simp
 refine .condB (by simp only [go_sem, seval]; rfl) (by simp only [go_sem, seval]) (fun h7 => ?_) (fun h7 => ?_)
 ·refine .skip (.seq (.block (.seq (.rgn [] (by simp only [go_sem, seval]; rfl) ?_ ?_))))
  ·simp at h7; simp; omega
  refine .condB (by simp only [go_sem, seval]; rfl) (by simp only [go_sem, seval]) (fun h19 => ?_) (fun h19 => ?_)
  ·refine .seq (.rgn [] (by simp only [go_sem, seval]; rfl) ?_ ?_)
   ·first | trivial | simp
   refine .ret ⟨.inr rfl, ?_⟩
   exact Out.plain (by simp only [Tryz.results159]; rfl) (by simp only [aq_, a8_, go_sem, seval] <;> (split <;> rfl)) (by simp only [a7_, go_sem, seval] <;> (simp at h7; rw [eo_, yh_ h7 (by rw [cx_]; simp at h19 ⊢; omega)]; rfl)) (by simp only [go_sem, seval])
  ·refine .skip (.rgn [] (by simp only [go_sem, seval]; rfl) ?_ ?_)
   ·first | trivial | simp
   refine Exists.intro (k + 1) ⟨?_, ?_, ?_⟩
   ·simp at h7; exact ⟨by omega, by rw [st_ cx_ s k h7, hI.2, cx_]; simp at h19 ⊢; omega⟩
   ·simp at h7; omega
   exact Can.weak (Weak.lit (by simp only [go_sem, seval, an_, leV, al_, am_, V.inn, us, true_or, or_true] <;> (rw [bc_ (by simp at h7; omega) (by simp at h7; omega)]; simp)) (by simp only [go_sem, seval, an_, leV, al_, am_, V.inn, us, true_or, or_true]) (by simp only [go_sem, seval, an_, leV, al_, am_, V.inn, us, true_or, or_true]))
 ·refine .exit (.seq (.rgn [] (by simp only [go_sem, seval]; rfl) ?_ ?_))
  ·first | trivial | simp
  refine .ret ⟨.inr rfl, ?_⟩
  exact Out.plain (by simp only [Tryz.results159]; rfl) (by simp only [aq_, a8_, go_sem, seval] <;> (split <;> rfl)) (by simp only [a7_, go_sem, seval] <;> (simp at h7; have e := hI.2; rw [List.take_of_length_le h7] at e; rw [eo_, e, ac0_]; simp)) (by simp only [go_sem, seval])
theorem pb_ (s : Str) (hs : s.length < 4611686018427387904) : ACall En 100 [.s s] [] [.b (f8_ s)] [] := by
 refine ah_ (fn := Tryz.f100) [] Tryz.func100 rfl rfl (by simp) fun C => ?_
 rw [ar_]
 simp only [Tryz.ntmps100, List.length_cons, List.length_nil, Nat.reduceAdd, Nat.reduceSub, List.replicate_succ, List.replicate_zero, List.cons_append, List.nil_append, bd_]
 refine .seq (.rgn [] (by simp only [go_sem, seval]; rfl) ?_ ?_)
 ·simp
 refine .seq (.rgn [a2_ (sv_ s hs), a2_ (abl_ s)] (by simp only [go_sem, seval]; rfl) ?_ ?_)
 ·simp
 refine .ret ⟨.inr rfl, ?_⟩
 exact Out.plain (by simp only [Tryz.results100]; rfl) (by simp only [aq_, a8_, go_sem, seval] <;> (split <;> rfl)) (by simp only [a7_, go_sem, seval] <;> (rfl)) (by simp only [go_sem, seval])
theorem ty_ (s : Str) (hs : s.length < 4611686018427387904) : ACall En 104 [.i .i64 1, .s s] [] [.b (eo_ s)] [] := by
 refine ah_ (fn := Tryz.f104) [] Tryz.func104 rfl rfl (by simp) fun C => ?_
 rw [ar_]
 simp only [Tryz.ntmps104, List.length_cons, List.length_nil, Nat.reduceAdd, Nat.reduceSub, List.replicate_succ, List.replicate_zero, List.cons_append, List.nil_append, bd_]
 refine .seq (.rgn [] (by simp only [go_sem, seval]; rfl) ?_ ?_)
 ·simp
 refine .seq (.seq (.rgn [] (by simp only [go_sem, seval]; rfl) ?_ ?_))
 ·simp
 refine .block (.seq (.rgn [] (by simp only [go_sem, seval]; rfl) ?_ ?_))
 ·simp
 refine .condB (by simp only [go_sem, seval]; rfl) (by simp only [go_sem, seval]) (fun h8 => ?_) (fun h8 => ?_)
 ·refine .seq (.rgn [a2_ (in_a s.length 1 8), a2_ (ac1_ cx_ 51 n5_ s hs)] (by simp only [go_sem, seval]; rfl) ?_ ?_)
  ·simp
  refine .ret ⟨.inr rfl, ?_⟩
  exact Out.plain (by simp only [Tryz.results104]; rfl) (by simp only [aq_, a8_, go_sem, seval] <;> (split <;> rfl)) (by simp only [a7_, go_sem, seval] <;> (rw [eo_, yw_, la_, jv_]; cases s.all cx_ <;> simp)) (by simp only [go_sem, seval])
 ·exact absurd h8 (by simp)
theorem ot_ (s : Str) (hs : s.length < 4611686018427387904) : ACall En 116 [.s s] [] [.b (f8_ s)] [] := by
 refine ah_ (fn := Tryz.f116) [] Tryz.func116 rfl rfl (by simp) fun C => ?_
 rw [ar_]
 simp only [Tryz.ntmps116, List.length_cons, List.length_nil, Nat.reduceAdd, Nat.reduceSub, List.replicate_succ, List.replicate_zero, List.cons_append, List.nil_append, bd_]
 refine .seq (.rgn [] (by simp only [go_sem, seval]; rfl) ?_ ?_)
 ·first | trivial | simp
 refine .seq (.rgn [a2_ (ty_ s hs), a2_ (ke_ ownW s (by decide))] (by simp only [go_sem, seval]; rfl) ?_ ?_)
 ·simp
 refine .ret ⟨.inr rfl, ?_⟩
 exact Out.plain (by simp only [Tryz.results116]; rfl) (by simp only [aq_, a8_, go_sem, seval] <;> (split <;> rfl)) (by simp only [a7_, go_sem, seval] <;> (rw [zs_]; rfl)) (by simp only [go_sem, seval])
end
section
set_option maxRecDepth 100000
set_option maxHeartbeats 4000000
theorem t7_ (e : E) : ∀ d : Int, -4611686018427387904 < d → d < 4611686018427387904 → sm e = true → ACall En 161 [.ag (eC e), .i .i64 d] [] [.b (form e d)] [] := by
 induction e using E.ind' with
 | h e ih =>
 intro d hd1 hd2 hs
 obtain ⟨a1, a2, a3⟩ := fn_ hs
 refine ah_ (fn := Tryz.f161) [] Tryz.func161 rfl rfl (by simp) fun C => ?_
 rw [ar_]
 simp only [Tryz.ntmps161, List.length_cons, List.length_nil, Nat.reduceAdd, Nat.reduceSub, List.replicate_succ, List.replicate_zero, List.cons_append, List.nil_append, bd_]
 refine .seq (.rgn [] (by simp only [go_sem, seval]; rfl) ?_ ?_)
 ·first | trivial | simp
 refine .seq (.seq (.rgn [] (by simp only [go_sem, seval]; rfl) ?_ ?_))
 ·first | trivial | simp
 refine .condB (by simp only [go_sem, seval]; rfl) (by simp only [go_sem, seval]) (fun h9 => ?_) (fun h9 => ?_)
 ·refine .seq (.rgn [] (by simp only [go_sem, seval]; rfl) ?_ ?_)
  ·first | trivial | simp
  refine .ret ⟨.inr rfl, ?_⟩
  exact Out.plain (by simp only [Tryz.results161]; rfl) (by simp only [aq_, a8_, go_sem, seval] <;> (split <;> rfl)) (by simp only [a7_, go_sem, seval] <;> (rw [kp_]; simp at h9; simp; omega)) (by simp only [go_sem, seval])
 ·refine .skip (.seq (.rgn [] (by simp only [go_sem, seval]; rfl) ?_ ?_))
  ·first | trivial | simp
  refine .seq (.rgn [] (by simp only [go_sem, seval]; rfl) ?_ ?_)
  ·first | trivial | simp
  refine .seqJ (fun q : Bool × Nat => ⟨[.no, .i .i64 d, .pt 12 4 0 0, .no, .b false, .b q.1, .i .i64 q.2, .no, .no, .no, .no, .no, .no, .no, .no, .no, .no, .no, .no, .no, .no, .no, .no, .no, .no, .no, .no, .no, .no, .no, .no, .no, .no, .no, .no, .no, .no, .no, .no, .no, .no, .no, .no, .no, .no, .no, .no, .no, .no, .no, .no, .no, .no, .no, .no, .no, .no, .no, .no, .no, .no, .no, .no, .no, .no, .no, .no, .no, .no, .no, .no, .no, .no, .no, .no, .no, .no, .no, .no, .no], aw_ [(12, ⟨48, 4, [eC e]⟩)], us [12]⟩) (fun q : Bool × Nat => (q.1 && (e.kids.length == q.2)) = shape e.kind e.n e.s e.kids.length) ?_ (fun q hJ => ?_)
  ·refine .seq (.rgn [] (by simp only [go_sem, seval]; rfl) ?_ ?_)
   ·first | trivial | simp
   refine .block (.seq (.rgn [] (by simp only [go_sem, seval]; rfl) ?_ ?_))
   ·first | trivial | simp
   refine .condB (by simp only [go_sem, seval]; rfl) (by simp only [go_sem, seval]) (fun h12 => ?_) (fun h12 => ?_)
   ·refine .rgn [] (by simp only [go_sem, seval]; rfl) ?_ ?_
    ·simp
    refine Exists.intro ((decide (e.n ≥ 0) && decide (e.n ≤ 1000000) && e.s == [], 0)) ⟨?_, ?_⟩
    ·simp_all [shape]
    exact Can.weak (Weak.lit (by simp only [go_sem, seval, an_, leV, al_, am_, V.inn, us, true_or, or_true] <;> (simp)) (by simp only [go_sem, seval, an_, leV, al_, am_, V.inn, us, true_or, or_true]) (by simp only [go_sem, seval, an_, leV, al_, am_, V.inn, us, true_or, or_true]))
   ·refine .seq (.rgn [] (by simp only [go_sem, seval]; rfl) ?_ ?_)
    ·first | trivial | simp
    refine .condB (by simp only [go_sem, seval]; rfl) (by simp only [go_sem, seval]) (fun h27 => ?_) (fun h27 => ?_)
    ·refine .rgn [a2_ (pb_ e.s a1)] (by simp only [go_sem, seval]; rfl) ?_ ?_
     ·simp
     refine Exists.intro ((e.n == 0 && f8_ e.s, 0)) ⟨?_, ?_⟩
     ·simp_all [shape]
     exact Can.weak (Weak.lit (by simp only [go_sem, seval, an_, leV, al_, am_, V.inn, us, true_or, or_true] <;> (simp)) (by simp only [go_sem, seval, an_, leV, al_, am_, V.inn, us, true_or, or_true]) (by simp only [go_sem, seval, an_, leV, al_, am_, V.inn, us, true_or, or_true]))
    ·refine .seq (.rgn [] (by simp only [go_sem, seval]; rfl) ?_ ?_)
     ·first | trivial | simp
     refine .condB (by simp only [go_sem, seval]; rfl) (by simp only [go_sem, seval]) (fun h37 => ?_) (fun h37 => ?_)
     ·refine .seq (.rgn [a2_ (adi_ e.s)] (by simp only [go_sem, seval]; rfl) ?_ ?_)
      ·simp
      refine .rgn [] (by simp only [go_sem, seval]; rfl) ?_ ?_
      ·first | trivial | simp
      refine Exists.intro ((e.n == 0 && fp_ e.s, 2)) ⟨?_, ?_⟩
      ·simp_all [shape]
      exact Can.weak (Weak.lit (by simp only [go_sem, seval, an_, leV, al_, am_, V.inn, us, true_or, or_true] <;> (simp)) (by simp only [go_sem, seval, an_, leV, al_, am_, V.inn, us, true_or, or_true]) (by simp only [go_sem, seval, an_, leV, al_, am_, V.inn, us, true_or, or_true]))
     ·refine .seq (.rgn [] (by simp only [go_sem, seval]; rfl) ?_ ?_)
      ·first | trivial | simp
      refine .condB (by simp only [go_sem, seval]; rfl) (by simp only [go_sem, seval]) (fun h47 => ?_) (fun h47 => ?_)
      ·refine .seq (.rgn [a2_ (ko_ e.s)] (by simp only [go_sem, seval]; rfl) ?_ ?_)
       ·simp
       refine .rgn [] (by simp only [go_sem, seval]; rfl) ?_ ?_
       ·first | trivial | simp
       refine Exists.intro ((e.n == 0 && ew_ e.s, 1)) ⟨?_, ?_⟩
       ·simp_all [shape]
       exact Can.weak (Weak.lit (by simp only [go_sem, seval, an_, leV, al_, am_, V.inn, us, true_or, or_true] <;> (simp)) (by simp only [go_sem, seval, an_, leV, al_, am_, V.inn, us, true_or, or_true]) (by simp only [go_sem, seval, an_, leV, al_, am_, V.inn, us, true_or, or_true]))
      ·refine .skip ?_
       refine Exists.intro ((false, 0)) ⟨?_, ?_⟩
       ·simp_all [shape]
       exact Can.weak (Weak.lit (by simp only [go_sem, seval, an_, leV, al_, am_, V.inn, us, true_or, or_true] <;> (simp)) (by simp only [go_sem, seval, an_, leV, al_, am_, V.inn, us, true_or, or_true]) (by simp only [go_sem, seval, an_, leV, al_, am_, V.inn, us, true_or, or_true]))
  refine .seq (.seq (.rgn [] (by simp only [go_sem, seval]; rfl) ?_ ?_))
  ·simp
  refine .condB (by simp only [go_sem, seval]; rfl) (by simp only [go_sem, seval]) (fun h65 => ?_) (fun h65 => ?_)
  ·refine .seq (.rgn [] (by simp only [go_sem, seval]; rfl) ?_ ?_)
   ·first | trivial | simp
   refine .ret ⟨.inr rfl, ?_⟩
   exact Out.plain (by simp only [Tryz.results161]; rfl) (by simp only [aq_, a8_, go_sem, seval] <;> (split <;> rfl)) (by simp only [a7_, go_sem, seval] <;> (rw [kp_, ← hJ]; simp at h65; cases hq : q.1 <;> simp_all; intro h; rw [← hJ] at h; simp at h; omega)) (by simp only [go_sem, seval])
  ·refine .skip (.seq (.seq (.rgn [] (by simp only [go_sem, seval]; rfl) ?_ ?_)))
   ·first | trivial | simp
   refine .block (.loopK (fun k : Nat => ⟨[.no, .i .i64 d, .pt 12 4 0 0, .no, .b false, .no, .i .i64 e.kids.length, .i .i64 k, .no, .no, .no, .no, .no, .no, .no, .no, .no, .no, .no, .no, .no, .no, .no, .no, .no, .no, .no, .no, .no, .no, .no, .no, .no, .no, .no, .no, .no, .no, .no, .no, .no, .no, .no, .no, .no, .no, .no, .no, .no, .no, .no, .no, .no, .no, .no, .no, .no, .no, .no, .no, .no, .no, .no, .no, .no, .no, .no, .no, .no, .no, .no, .no, .no, .no, .no, .no, .no, .no, .no, .no], aw_ [(12, ⟨48, 4, [eC e]⟩)], us [12]⟩) (fun k : Nat => k ≤ e.kids.length ∧ di_ e.kids (d - 1) = di_ (e.kids.drop k) (d - 1)) (fun k : Nat => e.kids.length - k) (0) ?_ ?_ (fun k hI => ?_))
   ·simp
   ·exact Can.weak (Weak.lit (by simp only [go_sem, seval, an_, leV, al_, am_, V.inn, us, true_or, or_true] <;> (simp at h65; (try simp); omega)) (by simp only [go_sem, seval, an_, leV, al_, am_, V.inn, us, true_or, or_true]) (by simp only [go_sem, seval, an_, leV, al_, am_, V.inn, us, true_or, or_true]))
   refine .seq (.seq (.rgn [] (by simp only [go_sem, seval]; rfl) ?_ ?_))
   ·first | trivial | simp
   refine .condB (by simp only [go_sem, seval]; rfl) (by simp only [go_sem, seval]) (fun h68 => ?_) (fun h68 => ?_)
   ·refine .skip (.seq (.block (.seq (.rgn [a2_ (ih (e.kids.getD k E0) (bo_ (by simpa using h68)) (d - 1) (by simp at h9; omega) (by omega) (c5_ a3 _ (bo_ (by simpa using h68))))] (by simp only [go_sem, seval, d7_ (show k < e.kids.length by simpa using h68), bc_ (show -9223372036854775808 ≤ d - 1 by omega) (by omega)]; rfl) ?_ ?_))))
    ·simp at h68; simp; omega
    refine .condB (by simp only [go_sem, seval]; rfl) (by simp only [go_sem, seval]) (fun h79 => ?_) (fun h79 => ?_)
    ·refine .seq (.rgn [] (by simp only [go_sem, seval]; rfl) ?_ ?_)
     ·first | trivial | simp
     refine .ret ⟨.inr rfl, ?_⟩
     exact Out.plain (by simp only [Tryz.results161]; rfl) (by simp only [aq_, a8_, go_sem, seval] <;> (split <;> rfl)) (by simp only [a7_, go_sem, seval] <;> (simp at h68; rw [kp_, hI.2, o4_ h68, ← hf_ h68]; simp_all)) (by simp only [go_sem, seval])
    ·refine .skip (.rgn [] (by simp only [go_sem, seval]; rfl) ?_ ?_)
     ·first | trivial | simp
     refine Exists.intro (k + 1) ⟨?_, ?_, ?_⟩
     ·simp at h68; refine ⟨by omega, ?_⟩; rw [hI.2, o4_ h68, ← hf_ h68]; simp_all
     ·simp at h68; omega
     exact Can.weak (Weak.lit (by simp only [go_sem, seval, an_, leV, al_, am_, V.inn, us, true_or, or_true] <;> (rw [bc_ (by simp at h68; omega) (by simp at h68; omega)]; simp)) (by simp only [go_sem, seval, an_, leV, al_, am_, V.inn, us, true_or, or_true]) (by simp only [go_sem, seval, an_, leV, al_, am_, V.inn, us, true_or, or_true]))
   ·refine .exit (.seq (.rgn [] (by simp only [go_sem, seval]; rfl) ?_ ?_))
    ·first | trivial | simp
    refine .ret ⟨.inr rfl, ?_⟩
    exact Out.plain (by simp only [Tryz.results161]; rfl) (by simp only [aq_, a8_, go_sem, seval] <;> (split <;> rfl)) (by simp only [a7_, go_sem, seval] <;> (simp at h68; rw [kp_, ← hJ, hI.2, yu_ h68]; simp at h9; simp_all; omega)) (by simp only [go_sem, seval])
theorem aed_ (e : E) (d : Int) : many e d = 1 + if 0 < d then c4_ e.kids (d - 1) else 0 := by cases e; simp only [many, E.kids]
theorem acp_ {e : E} {d : Int} (h : form e d = true) : di_ e.kids (d - 1) = true ∧ 1 ≤ d := by
 rw [kp_] at h; simp at h; exact ⟨h.2, h.1.1⟩
theorem ta_ (e : E) : ∀ d : Nat, d ≤ 5 → form e d = true → sm e = true → ACall En 162 [.ag (eC e), .i .i64 d] [] [.i .i64 (many e d)] [] := by
 induction e using E.ind' with
 | h e ih =>
 intro d hd hf hs
 obtain ⟨a1, a2, a3⟩ := fn_ hs
 obtain ⟨f1, f2⟩ := acp_ hf
 have hm := no_ e d hf
 have hp : (2 : Int) ^ d ≤ 32 := by
  have : d = 0 ∨ d = 1 ∨ d = 2 ∨ d = 3 ∨ d = 4 ∨ d = 5 := by omega
  rcases this with rfl | rfl | rfl | rfl | rfl | rfl <;> decide
 have hb : many e d ≤ 31 := by omega
 clear hp
 have hd1 : ((d - 1 : Nat) : Int) = d - 1 := by omega
 have hdr : ∀ k, 0 ≤ c4_ (e.kids.drop k) (d - 1) := fun k => by
  have := (kh_ (e.kids.drop k) (d - 1) (by rw [hd1]; exact wb_ k f1)).1
  rwa [hd1] at this
 have hmy : ∀ x ∈ e.kids, 1 ≤ many x (d - 1) := fun x hx => by
  have := (no_ x (d - 1) (by rw [hd1]; exact md_ f1 x hx)).1
  rwa [hd1] at this
 refine ah_ (fn := Tryz.f162) [] Tryz.func162 rfl rfl (by simp) fun C => ?_
 rw [ar_]
 simp only [Tryz.ntmps162, List.length_cons, List.length_nil, Nat.reduceAdd, Nat.reduceSub, List.replicate_succ, List.replicate_zero, List.cons_append, List.nil_append, bd_]
 refine .seq (.rgn [] (by simp only [go_sem, seval]; rfl) ?_ ?_)
 ·first | trivial | simp
 refine .seq (.rgn [] (by simp only [go_sem, seval]; rfl) ?_ ?_)
 ·first | trivial | simp
 refine .seq (.seq (.rgn [] (by simp only [go_sem, seval]; rfl) ?_ ?_))
 ·first | trivial | simp
 refine .block (.loopK (fun k : Nat × Int => ⟨[.no, .i .i64 d, .pt 12 4 0 0, .no, .i .i64 0, .i .i64 k.2, .i .i64 k.1, .no, .no, .no, .no, .no, .no, .no, .no, .no, .no, .no, .no, .no, .no, .no, .no, .no, .no, .no, .no, .no, .no], aw_ [(12, ⟨48, 4, [eC e]⟩)], us [12]⟩) (fun k : Nat × Int => k.1 ≤ e.kids.length ∧ k.2 + c4_ (e.kids.drop k.1) (d - 1) = many e d ∧ 1 ≤ k.2) (fun k : Nat × Int => e.kids.length - k.1) ((0, 1)) ?_ ?_ (fun k hI => ?_))
 ·simp [aed_]; omega
 ·exact Can.weak (Weak.lit (by simp only [go_sem, seval, an_, leV, al_, am_, V.inn, us, true_or, or_true] <;> (simp)) (by simp only [go_sem, seval, an_, leV, al_, am_, V.inn, us, true_or, or_true]) (by simp only [go_sem, seval, an_, leV, al_, am_, V.inn, us, true_or, or_true]))
 refine .seq (.seq (.rgn [] (by simp only [go_sem, seval]; rfl) ?_ ?_))
 ·simp
 refine .condB (by simp only [go_sem, seval]; rfl) (by simp only [go_sem, seval]) (fun h15 => ?_) (fun h15 => ?_)
 ·refine .skip (.seq (.block (.rgn [a2_ (hd1 ▸ ih (e.kids.getD k.1 E0) (bo_ (by simp at h15; omega)) (d - 1) (by omega) (by rw [hd1]; exact md_ f1 _ (bo_ (by simp at h15; omega))) (c5_ a3 _ (bo_ (by simp at h15; omega))))] (by simp only [go_sem, seval, d7_ (show k.1 < e.kids.length by simp at h15; omega), bc_ (show -9223372036854775808 ≤ (d : Int) - 1 by omega) (by omega)]; rfl) ?_ ?_)))
  ·simp at h15; simp; omega
  refine .rgn [] (by simp only [go_sem, seval]; rfl) ?_ ?_
  ·first | trivial | simp
  refine Exists.intro ((k.1 + 1, k.2 + many (e.kids.getD k.1 E0) (d - 1))) ⟨?_, ?_, ?_⟩
  ·simp at h15; have e1 := nr_ h15.1 ((d : Int) - 1); rw [← hf_ h15.1] at e1; have b2 := hmy _ (bo_ h15.1 (d := E0)); dsimp only; omega
  ·simp at h15; simp; omega
  exact Can.weak (Weak.lit (by simp only [go_sem, seval, an_, leV, al_, am_, V.inn, us, true_or, or_true] <;> (simp at h15; have e1 := nr_ h15.1 ((d : Int) - 1); rw [← hf_ h15.1] at e1; have b1 := hdr (k.1 + 1); have b2 := hmy _ (bo_ h15.1 (d := E0)); exact ⟨bc_ (by omega) (by omega), by rw [bc_ (by omega) (by omega)]; omega⟩)) (by simp only [go_sem, seval, an_, leV, al_, am_, V.inn, us, true_or, or_true]) (by simp only [go_sem, seval, an_, leV, al_, am_, V.inn, us, true_or, or_true]))
 ·refine .exit (.seq (.rgn [] (by simp only [go_sem, seval]; rfl) ?_ ?_))
  ·first | trivial | simp
  refine .ret ⟨.inr rfl, ?_⟩
  exact Out.plain (by simp only [Tryz.results162]; rfl) (by simp only [aq_, a8_, go_sem, seval] <;> (split <;> rfl)) (by simp only [a7_, go_sem, seval] <;> (simp at h15; have : e.kids.length ≤ k.1 := (by omega); have e1 := x0_ this ((d : Int) - 1); simp; omega)) (by simp only [go_sem, seval])
def E1 : E := .mk 1 0 [] []
theorem hz_ (e : E) (hs : sm e = true) : ACall En 102 [.ag (eC e)] [] [.b (eok e)] [] := by
 cases hf : form e 5 with
 | true =>
 refine ah_ (fn := Tryz.f102) [] Tryz.func102 rfl rfl (by simp) fun C => ?_
 rw [ar_]
 simp only [Tryz.ntmps102, List.length_cons, List.length_nil, Nat.reduceAdd, Nat.reduceSub, List.replicate_succ, List.replicate_zero, List.cons_append, List.nil_append, bd_]
 refine .seq (.rgn [] (by simp only [go_sem, seval]; rfl) ?_ ?_)
 ·first | trivial | simp
 refine .seq (.rgn [a2_ (t7_ e 5 (by decide) (by decide) hs), a2_ (ta_ e 5 (by decide) hf hs)] (by simp only [go_sem, seval]; rfl) ?_ ?_)
 ·first | trivial | simp
 refine .ret ⟨.inr rfl, ?_⟩
 exact Out.plain (by simp only [Tryz.results102]; rfl) (by simp only [aq_, a8_, go_sem, seval] <;> (split <;> rfl)) (by simp only [a7_, go_sem, seval] <;> (simp [eok, hf])) (by simp only [go_sem, seval])
 | false =>
 refine ah_ (fn := Tryz.f102) [] Tryz.func102 rfl rfl (by simp) fun C => ?_
 rw [ar_]
 simp only [Tryz.ntmps102, List.length_cons, List.length_nil, Nat.reduceAdd, Nat.reduceSub, List.replicate_succ, List.replicate_zero, List.cons_append, List.nil_append, bd_]
 refine .seq (.rgn [] (by simp only [go_sem, seval]; rfl) ?_ ?_)
 ·first | trivial | simp
 refine .seq (.rgn [a2_ (t7_ e 5 (by decide) (by decide) hs), a2_ (ta_ E1 1 (by decide) rfl rfl)] (by simp only [go_sem, seval, hf]; rfl) ?_ ?_)
 ·first | trivial | simp
 refine .ret ⟨.inr rfl, ?_⟩
 exact Out.plain (by simp only [Tryz.results102]; rfl) (by simp only [aq_, a8_, go_sem, seval] <;> (split <;> rfl)) (by simp only [a7_, go_sem, seval] <;> (simp [eok, hf])) (by simp only [go_sem, seval])
end
section
set_option maxRecDepth 100000
set_option maxHeartbeats 4000000
def w7_ (e : E) : Prop := ∀ d p : Int, 0 ≤ d → d ≤ 6 → 0 ≤ p → p ≤ 12 → ACall En 189 [.ag (eC e), .i .i64 d, .pt 0 1 0 0] [⟨3, 1, [[.i .i64 p]]⟩] [.b (wlk e d p).1] [⟨3, 1, [[.i .i64 (wlk e d p).2]]⟩]
theorem aep_ (e : E) (h : w7_ e) (d p : Int) (h1 : 0 ≤ d) (h2 : d ≤ 5) (h3 : 0 ≤ p) (h4 : p ≤ 12) :
  ACall En 215 [.ag (eC e), .pt 0 1 0 0, .pt 1 1 0 0] [⟨3, 1, [[.i .i64 d]]⟩, ⟨154, 1, [[.pt 2 1 0 0]]⟩, ⟨3, 1, [[.i .i64 p]]⟩]
   [.b (!(wlk e (d + 1) p).1)] [⟨3, 1, [[.i .i64 d]]⟩, ⟨154, 1, [[.pt 2 1 0 0]]⟩, ⟨3, 1, [[.i .i64 (wlk e (d + 1) p).2]]⟩] := by
 refine ah_ (fn := Tryz.f215) [0, 1, 2] Tryz.func215 rfl rfl (by simp) fun C => ?_
 rw [ar_]
 simp only [Tryz.ntmps215, List.length_cons, List.length_nil, Nat.reduceAdd, Nat.reduceSub, List.replicate_succ, List.replicate_zero, List.cons_append, List.nil_append, bd_]
 refine .seq (.rgn [] (by simp only [go_sem, seval]; rfl) ?_ ?_)
 ·first | trivial | simp
 refine .seq (.rgn [cz_ [2] [] (h (d + 1) p (by omega) (by omega) h3 h4)] (by simp only [go_sem, seval, bc_ (show -9223372036854775808 ≤ d + 1 by omega) (by omega), as_, ay_]; rfl) ?_ ?_)
 ·simp
 refine .ret ⟨.inr rfl, ?_⟩
 exact Out.mem' (by simp only [Tryz.results215]; rfl) (by simp only [aq_, a8_, go_sem, seval]) (by simp only [a7_, rns, rn, go_sem, seval] <;> (simp_all)) (by simp) rfl (by decide) (by simp only [go_sem, seval]) (by simp only [ay_, go_sem, seval]) (by simp only [as_, go_sem, seval] <;> (simp))
def wix : List E → Int → Int → Int → Int
 | [], _, _, _ => -1
 | e :: r, d, p, k => if (wlk e d p).1 then wix r d (wlk e d p).2 (k + 1) else k
theorem u8_ {kids : List E} {k : Nat} (h : k < kids.length) (d p j : Int) : wix (kids.drop k) d p j = if (wlk kids[k] d p).1 then wix (kids.drop (k + 1)) d (wlk kids[k] d p).2 (j + 1) else j := by
 rw [List.drop_eq_getElem_cons h]; simp only [wix]
theorem wm_ : ∀ (l : List E) (d p j : Int), 0 ≤ j → decide (wix l d p j ≥ 0) = !(fi_ l d p).1
 | [], d, p, j, h => by simp [wix, fi_]
 | e :: r, d, p, j, h => by
  have ih := wm_ r d (wlk e d p).2 (j + 1) (by omega)
  have e1 : wix (e :: r) d p j = bif (wlk e d p).1 then wix r d (wlk e d p).2 (j + 1) else j := by simp only [wix]; cases (wlk e d p).1 <;> rfl
  have e2 : fi_ (e :: r) d p = bif (wlk e d p).1 then fi_ r d (wlk e d p).2 else (false, (wlk e d p).2) := by simp only [fi_]; cases (wlk e d p).1 <;> rfl
  rw [e2]
  simp only [e1]
  cases hc : (wlk e d p).1
  ·simp [h]
  ·exact ih
theorem aav_ (kids : List E) (ih : ∀ e ∈ kids, w7_ e) (d p : Int) (h1 : 0 ≤ d) (h2 : d ≤ 5) (h3 : 0 ≤ p) (h4 : p ≤ 12) (hl : kids.length < 4611686018427387904) :
  ACall En 234 [.sl false (eR kids), .fn (.func 215) [] [.pt 0 1 0 0, .pt 1 1 0 0]] [⟨3, 1, [[.i .i64 d]]⟩, ⟨154, 1, [[.pt 2 1 0 0]]⟩, ⟨3, 1, [[.i .i64 p]]⟩]
   [.i .i64 (wix kids (d + 1) p 0)] [⟨3, 1, [[.i .i64 d]]⟩, ⟨154, 1, [[.pt 2 1 0 0]]⟩, ⟨3, 1, [[.i .i64 (fi_ kids (d + 1) p).2]]⟩] := by
 refine ah_ (fn := Tryz.f234) [0, 1, 2] Tryz.func234 rfl rfl (by simp) fun C => ?_
 rw [ar_]
 simp only [Tryz.ntmps234, List.length_cons, List.length_nil, Nat.reduceAdd, Nat.reduceSub, List.replicate_succ, List.replicate_zero, List.cons_append, List.nil_append, bd_]
 refine .seq (.rgn [] (by simp only [go_sem, seval]; rfl) ?_ ?_)
 ·first | trivial | simp
 refine .seq (.seq (.rgn [] (by simp only [go_sem, seval]; rfl) ?_ ?_))
 ·first | trivial | simp
 refine .block (.loopK (fun k : Nat × Int => ⟨[.sl false (eR kids), .fn (.func 215) [] [.pt 0 1 0 0, .pt 1 1 0 0], .no, .no, .i .i64 0, .no, .no, .i .i64 kids.length, .i .i64 k.1, .no, .no, .no, .no, .no, .no, .no, .no, .no, .no], aw_ [(0, ⟨3, 1, [[.i .i64 d]]⟩), (1, ⟨154, 1, [[.pt 2 1 0 0]]⟩), (2, ⟨3, 1, [[.i .i64 k.2]]⟩)], us []⟩) (fun k : Nat × Int => k.1 ≤ kids.length ∧ 0 ≤ k.2 ∧ k.2 ≤ 12 ∧ fi_ kids (d + 1) p = fi_ (kids.drop k.1) (d + 1) k.2 ∧ wix kids (d + 1) p 0 = wix (kids.drop k.1) (d + 1) k.2 k.1) (fun k : Nat × Int => kids.length - k.1) ((0, p)) ?_ ?_ (fun k hI => ?_))
 ·simp; omega
 ·exact Can.weak (Weak.lit (by simp only [go_sem, seval, an_, leV, al_, am_, V.inn, us, true_or, or_true] <;> (simp)) (by simp only [go_sem, seval, an_, leV, al_, am_, V.inn, us, true_or, or_true]) (by simp only [go_sem, seval, an_, leV, al_, am_, V.inn, us, true_or, or_true]))
 refine .seq (.rgn [] (by simp only [go_sem, seval]; rfl) ?_ ?_)
 ·first | trivial | simp
 refine .seq (.condB (by simp only [go_sem, seval]; rfl) (by simp only [go_sem, seval]) (fun h9 => ?_) (fun h9 => ?_))
 ·refine .skip (.seq (.block (.seq (.rgn [] (by simp only [go_sem, seval]; rfl) ?_ ?_))))
  ·first | trivial | simp
  refine .seq (.rgn [cz_ [0, 1, 2] [] (aep_ (kids.getD k.1 E0) (ih _ (bo_ (by simpa using h9))) d k.2 h1 h2 (by omega) (by omega))] (by simp only [go_sem, seval, as_, ay_, d7_ (show k.1 < kids.length by simpa using h9)]; rfl) ?_ ?_)
  ·simp at h9; simp; omega
  refine .condB (by simp only [go_sem, seval]; rfl) (by simp only [go_sem, seval]) (fun h16 => ?_) (fun h16 => ?_)
  ·refine .seq (.rgn [] (by simp only [go_sem, seval]; rfl) ?_ ?_)
   ·first | trivial | simp
   refine .ret ⟨.inr rfl, ?_⟩
   exact Out.mem' (by simp only [Tryz.results234]; rfl) (by simp only [aq_, a8_, go_sem, seval]) (by simp only [a7_, rns, rn, go_sem, seval] <;> (simp at h9; have hw : (wlk (kids.getD k.1 E0) (d + 1) k.2).1 = false := (by simpa using h16); rw [hI.2.2.2.2, u8_ h9, ← hf_ h9, hw]; simp)) (by simp) rfl (by decide) (by simp only [go_sem, seval]) (by simp only [ay_, go_sem, seval]) (by simp only [as_, go_sem, seval] <;> (simp at h9; have hw : (wlk (kids.getD k.1 E0) (d + 1) k.2).1 = false := (by simpa using h16); rw [hI.2.2.2.1, qr_ h9, ← hf_ h9, hw]; simp))
  ·refine .skip (.rgn [] (by simp only [go_sem, seval]; rfl) ?_ ?_)
   ·first | trivial | simp
   refine Exists.intro ((k.1 + 1, (wlk (kids.getD k.1 E0) (d + 1) k.2).2)) ⟨?_, ?_, ?_⟩
   ·simp at h9; obtain ⟨g0, g1, g2, g3, g4⟩ := hI; rw [qr_ h9, ← hf_ h9] at g3; rw [u8_ h9, ← hf_ h9] at g4; have hw : (wlk (kids.getD k.1 E0) (d + 1) k.2).1 = true := (by simpa using h16); rw [hw] at g3 g4; have := acn_ _ _ _ hw; exact ⟨by dsimp only; omega, by dsimp only; omega, by dsimp only; omega, by simpa using g3, by simpa using g4⟩
   ·simp at h9; simp; omega
   exact Can.weak (Weak.lit (by simp only [go_sem, seval, an_, leV, al_, am_, V.inn, us, true_or, or_true] <;> (rw [bc_ (by simp at h9; omega) (by simp at h9; omega)]; simp)) (by simp only [go_sem, seval, an_, leV, al_, am_, V.inn, us, true_or, or_true]) (by simp only [go_sem, seval, an_, leV, al_, am_, V.inn, us, true_or, or_true]))
 ·refine .exit (.seq (.rgn [] (by simp only [go_sem, seval]; rfl) ?_ ?_))
  ·first | trivial | simp
  refine .ret ⟨.inr rfl, ?_⟩
  exact Out.mem' (by simp only [Tryz.results234]; rfl) (by simp only [aq_, a8_, go_sem, seval]) (by simp only [a7_, rns, rn, go_sem, seval] <;> (simp at h9; rw [hI.2.2.2.2, List.drop_of_length_le h9]; simp [wix])) (by simp) rfl (by decide) (by simp only [go_sem, seval]) (by simp only [ay_, go_sem, seval]) (by simp only [as_, go_sem, seval] <;> (simp at h9; rw [hI.2.2.2.1, acy_ h9]))
theorem mr_ (kids : List E) (ih : ∀ e ∈ kids, w7_ e) (d p : Int) (h1 : 0 ≤ d) (h2 : d ≤ 5) (h3 : 0 ≤ p) (h4 : p ≤ 12) (hl : kids.length < 4611686018427387904) :
  ACall En 214 [.sl false (eR kids), .fn (.func 215) [] [.pt 0 1 0 0, .pt 1 1 0 0]] [⟨3, 1, [[.i .i64 d]]⟩, ⟨154, 1, [[.pt 2 1 0 0]]⟩, ⟨3, 1, [[.i .i64 p]]⟩]
   [.b (!(fi_ kids (d + 1) p).1)] [⟨3, 1, [[.i .i64 d]]⟩, ⟨154, 1, [[.pt 2 1 0 0]]⟩, ⟨3, 1, [[.i .i64 (fi_ kids (d + 1) p).2]]⟩] := by
 refine ah_ (fn := Tryz.f214) [0, 1, 2] Tryz.func214 rfl rfl (by simp) fun C => ?_
 rw [ar_]
 simp only [Tryz.ntmps214, List.length_cons, List.length_nil, Nat.reduceAdd, Nat.reduceSub, List.replicate_succ, List.replicate_zero, List.cons_append, List.nil_append, bd_]
 refine .seq (.rgn [] (by simp only [go_sem, seval]; rfl) ?_ ?_)
 ·first | trivial | simp
 refine .seq (.rgn [cz_ [0, 1, 2] [] (aav_ kids ih d p h1 h2 h3 h4 hl)] (by simp only [go_sem, seval, as_, ay_]; rfl) ?_ ?_)
 ·simp
 refine .ret ⟨.inr rfl, ?_⟩
 exact Out.mem' (by simp only [Tryz.results214]; rfl) (by simp only [aq_, a8_, go_sem, seval]) (by simp only [a7_, rns, rn, go_sem, seval] <;> (rw [wm_ _ _ _ _ (by decide)])) (by simp) rfl (by decide) (by simp only [go_sem, seval]) (by simp only [ay_, go_sem, seval]) (by simp only [as_, go_sem, seval] <;> (simp))
theorem l6_ (e : E) (d p : Int) : wlk e d p = if 5 < d ∨ 12 < p + 1 then (false, p + 1) else if shape e.kind e.n e.s e.kids.length then fi_ e.kids (d + 1) (p + 1) else (false, p + 1) := by cases e; simp only [wlk, E.kind, E.n, E.s, E.kids]; rfl
theorem acr_ (s : Str) : decide (a4_ s > 0) = fp_ s := q3_ s
theorem o6_ (n : Nat) : ((n : Int) == 0) = (n == 0) := la_ n 0
theorem ol_ (n : Nat) : ((n : Int) == 1) = (n == 1) := la_ n 1
theorem op_ (n : Nat) : ((n : Int) == 2) = (n == 2) := la_ n 2
theorem agx_ (e : E) (hs : sm e = true) : w7_ e := by
 induction e using E.ind' with
 | h e ih =>
 intro d p hd hd6 hp hp12
 obtain ⟨a1, a2, a3⟩ := fn_ hs
 refine ah_ (fn := Tryz.f189) [0] Tryz.func189 rfl rfl (by simp) fun C => ?_
 rw [ar_]
 simp only [Tryz.ntmps189, List.length_cons, List.length_nil, Nat.reduceAdd, Nat.reduceSub, List.replicate_succ, List.replicate_zero, List.cons_append, List.nil_append, bd_]
 refine .seq (.rgn [] (by simp only [go_sem, seval]; rfl) ?_ ?_)
 ·simp
 refine .seq (.rgn [] (by simp only [go_sem, seval, bc_ (show -9223372036854775808 ≤ p + 1 by omega) (by omega)]; rfl) ?_ ?_)
 ·simp
 refine .seq (.seq (.rgn [] (by simp only [go_sem, seval]; rfl) ?_ ?_))
 ·simp
 refine .condB (by simp only [go_sem, seval]; rfl) (by simp only [go_sem, seval]) (fun h20 => ?_) (fun h20 => ?_)
 ·refine .seq (.rgn [] (by simp only [go_sem, seval]; rfl) ?_ ?_)
  ·simp
  refine .ret ⟨.inr rfl, ?_⟩
  exact Out.mem' (by simp only [Tryz.results189]; rfl) (by simp only [aq_, a8_, go_sem, seval]) (by simp only [a7_, rns, rn, go_sem, seval] <;> (have g : 5 < d ∨ 12 < p + 1 := (by simp at h20; omega); rw [l6_, if_pos g])) (by simp) rfl (by decide) (by simp only [go_sem, seval]) (by simp only [ay_, go_sem, seval]) (by simp only [as_, go_sem, seval] <;> (have g : 5 < d ∨ 12 < p + 1 := (by simp at h20; omega); rw [l6_, if_pos g]))
 ·refine .skip (.seq (.rgn [] (by simp only [go_sem, seval]; rfl) ?_ ?_))
  ·simp
  refine .seqJ (fun q : Bool => ⟨[.no, .no, .no, .pt 13 4 0 0, .pt 14 1 0 0, .pt 15 1 0 0, .b false, .b q, .no, .no, .no, .no, .no, .no, .no, .no, .no, .no, .no, .no, .no, .no, .no, .no, .no, .no, .no, .no, .no, .no, .no, .no, .no, .no, .no, .no, .no, .no, .no, .no, .no, .no, .no, .no, .no, .no, .no, .no, .no, .no, .no, .no, .no, .no, .no, .no, .no, .no, .no, .no, .no, .no, .no, .no, .no, .no, .no, .no, .no, .no, .no, .no, .no, .no, .no, .no, .no, .no, .no, .no, .no, .no, .no, .no, .no, .no, .no, .no, .no, .no, .no, .no, .no, .no, .no, .no], aw_ [(0, ⟨3, 1, [[.i .i64 (p + 1)]]⟩), (13, ⟨48, 4, [eC e]⟩), (14, ⟨3, 1, [[.i .i64 d]]⟩), (15, ⟨154, 1, [[.pt 0 1 0 0]]⟩)], us [13, 14, 15]⟩) (fun q : Bool => q = shape e.kind e.n e.s e.kids.length) ?_ (fun q hJ => ?_)
  ·refine .seq (.rgn [] (by simp only [go_sem, seval]; rfl) ?_ ?_)
   ·simp
   refine .block (.seq (.rgn [] (by simp only [go_sem, seval]; rfl) ?_ ?_))
   ·simp
   refine .condB (by simp only [go_sem, seval]; rfl) (by simp only [go_sem, seval]) (fun h23 => ?_) (fun h23 => ?_)
   ·refine .rgn [a2_ (in_a e.n 0 1000000)] (by simp only [go_sem, seval]; rfl) ?_ ?_
    ·simp
    refine Exists.intro (decide (0 ≤ e.n) && decide (e.n ≤ 1000000) && e.s == [] && (e.kids.length : Int) == 0) ⟨?_, ?_⟩
    ·(first | rw [o6_] | rw [ol_] | rw [op_] | skip); simp_all [shape]
    exact Can.weak (Weak.lit (by simp only [go_sem, seval, an_, leV, al_, am_, V.inn, us, true_or, or_true]) (by simp only [go_sem, seval, an_, leV, al_, am_, V.inn, us, true_or, or_true]) (by simp only [go_sem, seval, an_, leV, al_, am_, V.inn, us, true_or, or_true]))
   ·refine .seq (.rgn [] (by simp only [go_sem, seval]; rfl) ?_ ?_)
    ·simp
    refine .condB (by simp only [go_sem, seval]; rfl) (by simp only [go_sem, seval]) (fun h39 => ?_) (fun h39 => ?_)
    ·refine .rgn [a2_ (ot_ e.s a1)] (by simp only [go_sem, seval]; rfl) ?_ ?_
     ·simp
     refine Exists.intro (e.n == 0 && f8_ e.s && (e.kids.length : Int) == 0) ⟨?_, ?_⟩
     ·(first | rw [o6_] | rw [ol_] | rw [op_] | skip); simp_all [shape]
     exact Can.weak (Weak.lit (by simp only [go_sem, seval, an_, leV, al_, am_, V.inn, us, true_or, or_true]) (by simp only [go_sem, seval, an_, leV, al_, am_, V.inn, us, true_or, or_true]) (by simp only [go_sem, seval, an_, leV, al_, am_, V.inn, us, true_or, or_true]))
    ·refine .seq (.rgn [] (by simp only [go_sem, seval]; rfl) ?_ ?_)
     ·simp
     refine .condB (by simp only [go_sem, seval]; rfl) (by simp only [go_sem, seval]) (fun h55 => ?_) (fun h55 => ?_)
     ·refine .rgn [a2_ (is_ e.s)] (by simp only [go_sem, seval, acr_]; rfl) ?_ ?_
      ·simp
      refine Exists.intro (e.n == 0 && fp_ e.s && (e.kids.length : Int) == 2) ⟨?_, ?_⟩
      ·(first | rw [o6_] | rw [ol_] | rw [op_] | skip); simp_all [shape]
      exact Can.weak (Weak.lit (by simp only [go_sem, seval, an_, leV, al_, am_, V.inn, us, true_or, or_true]) (by simp only [go_sem, seval, an_, leV, al_, am_, V.inn, us, true_or, or_true]) (by simp only [go_sem, seval, an_, leV, al_, am_, V.inn, us, true_or, or_true]))
     ·refine .seq (.rgn [] (by simp only [go_sem, seval]; rfl) ?_ ?_)
      ·simp
      refine .condB (by simp only [go_sem, seval]; rfl) (by simp only [go_sem, seval]) (fun h72 => ?_) (fun h72 => ?_)
      ·refine .rgn [a2_ (u1_ e.s)] (by simp only [go_sem, seval]; rfl) ?_ ?_
       ·simp
       refine Exists.intro (e.n == 0 && ew_ e.s && (e.kids.length : Int) == 1) ⟨?_, ?_⟩
       ·(first | rw [o6_] | rw [ol_] | rw [op_] | skip); simp_all [shape]
       exact Can.weak (Weak.lit (by simp only [go_sem, seval, an_, leV, al_, am_, V.inn, us, true_or, or_true]) (by simp only [go_sem, seval, an_, leV, al_, am_, V.inn, us, true_or, or_true]) (by simp only [go_sem, seval, an_, leV, al_, am_, V.inn, us, true_or, or_true]))
      ·refine .skip ?_
       refine Exists.intro (false) ⟨?_, ?_⟩
       ·(first | rw [o6_] | rw [ol_] | rw [op_] | skip); simp_all [shape]
       exact Can.weak (Weak.lit (by simp only [go_sem, seval, an_, leV, al_, am_, V.inn, us, true_or, or_true]) (by simp only [go_sem, seval, an_, leV, al_, am_, V.inn, us, true_or, or_true]) (by simp only [go_sem, seval, an_, leV, al_, am_, V.inn, us, true_or, or_true]))
  cases q
  ·refine .seq (.rgn [cz_ [14, 15, 0] [] (mr_ e.kids (fun x hx => ih x hx (c5_ a3 x hx)) d (p + 1) hd (by simp at h20; omega) (by omega) (by simp at h20; omega) a2)] (by simp only [go_sem, seval, as_, ay_]; rfl) ?_ ?_)
   ·simp
   refine .ret ⟨.inr rfl, ?_⟩
   exact Out.mem' (by simp only [Tryz.results189]; rfl) (by simp only [aq_, a8_, go_sem, seval]) (by simp only [a7_, rns, rn, go_sem, seval] <;> (have g : ¬ (5 < d ∨ 12 < p + 1) := (by simp at h20; omega); rw [l6_, if_neg g, ← hJ]; rfl)) (by simp) rfl (by decide) (by simp only [go_sem, seval]) (by simp only [ay_, go_sem, seval]) (by simp only [as_, go_sem, seval] <;> (have g : ¬ (5 < d ∨ 12 < p + 1) := (by simp at h20; omega); rw [l6_, if_neg g, ← hJ]; rfl))
  ·refine .seq (.rgn [cz_ [14, 15, 0] [] (mr_ e.kids (fun x hx => ih x hx (c5_ a3 x hx)) d (p + 1) hd (by simp at h20; omega) (by omega) (by simp at h20; omega) a2)] (by simp only [go_sem, seval, as_, ay_]; rfl) ?_ ?_)
   ·simp
   refine .ret ⟨.inr rfl, ?_⟩
   exact Out.mem' (by simp only [Tryz.results189]; rfl) (by simp only [aq_, a8_, go_sem, seval]) (by simp only [a7_, rns, rn, go_sem, seval] <;> (have g : ¬ (5 < d ∨ 12 < p + 1) := (by simp at h20; omega); rw [l6_, if_neg g, ← hJ]; simp)) (by simp) rfl (by decide) (by simp only [go_sem, seval]) (by simp only [ay_, go_sem, seval]) (by simp only [as_, go_sem, seval] <;> (have g : ¬ (5 < d ∨ 12 < p + 1) := (by simp at h20; omega); rw [l6_, if_neg g, ← hJ]; rfl))
theorem gs_ (e : E) (hs : sm e = true) : ACall En 142 [.ag (eC e)] [] [.b (eok e)] [] := by
 refine ah_ (fn := Tryz.f142) [] Tryz.func142 rfl rfl (by simp) fun C => ?_
 rw [ar_]
 simp only [Tryz.ntmps142, List.length_cons, List.length_nil, Nat.reduceAdd, Nat.reduceSub, List.replicate_succ, List.replicate_zero, List.cons_append, List.nil_append, bd_]
 refine .seq (.rgn [] (by simp only [go_sem, seval]; rfl) ?_ ?_)
 ·first | trivial | simp
 refine .seq (.rgn [] (by simp only [go_sem, seval]; rfl) ?_ ?_)
 ·first | trivial | simp
 refine .seq (.rgn [cz_ [13] [] (agx_ e hs 1 0 (by decide) (by decide) (by decide) (by decide))] (by simp only [go_sem, seval, as_, ay_]; rfl) ?_ ?_)
 ·first | trivial | simp
 refine .ret ⟨.inr rfl, ?_⟩
 exact Out.plain (by simp only [Tryz.results142]; rfl) (by simp only [aq_, a8_, go_sem, seval] <;> (split <;> rfl)) (by simp only [a7_, go_sem, seval] <;> (rw [ae2_])) (by simp only [go_sem, seval])
end
end Go.Proofs.YtefmbmafdgedmaaGreatDoor
