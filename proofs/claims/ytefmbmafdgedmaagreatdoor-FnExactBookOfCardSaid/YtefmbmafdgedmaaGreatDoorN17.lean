/- What the exact laws do with pages, and lists of them: size, copies, sameness. Conditions: none. -/
import Derived.Test.YtefmbmafdgedmaaGreatDoorN11
import Derived.Test.YtefmbmafdgedmaaGreatDoorN12
set_option linter.unusedVariables false
set_option linter.unusedSimpArgs false
namespace Go.Proofs.YtefmbmafdgedmaaGreatDoor
section
set_option maxRecDepth 100000
set_option maxHeartbeats 4000000
/-! lists -/
theorem x1_ (p q : Pg) (hp : p.frm.length ≤ 1000000000000) (hq : q.frm.length ≤ 1000000000000) : ACall En 73 [.ag (pgC p), .ag (pgC q)] [] [.b (decide (p = q))] [] := by
 have T := @ahk_ p q
 refine ah_ (fn := Tryz.f73) [] Tryz.func73 rfl rfl (by simp) fun C => ?_
 rw [ar_]
 simp only [Tryz.ntmps73, List.length_cons, List.length_nil, Nat.reduceAdd, Nat.reduceSub, List.replicate_succ, List.replicate_zero, List.cons_append, List.nil_append, bd_]
 refine .seq (.rgn [] (by simp only [go_sem, seval, at_, ac_, af_]; rfl) ?_ ?_)
 ·first | trivial | simp
 refine .seq (.seq (.rgn [] (by simp only [go_sem, seval, at_, ac_, af_]; rfl) ?_ ?_))
 ·first | trivial | simp
 refine .condB (by simp only [go_sem, seval, at_, ac_, af_]; rfl) (by simp only [go_sem, seval, at_, ac_, af_]) (fun h9 => ?_) (fun h9 => ?_)
 ·refine .seq (.rgn [] (by simp only [go_sem, seval, at_, ac_, af_]; rfl) ?_ ?_)
  ·first | trivial | simp
  refine .ret ⟨.inr rfl, ?_⟩
  exact Out.plain (by simp only [Tryz.results73]; rfl) (by simp only [aq_, a8_, go_sem, seval, at_, ac_, af_] <;> (split <;> rfl)) (by simp only [a7_, go_sem, seval, at_, ac_, af_] <;> (rw [decide_eq_false (fun e => by rw [e] at h9; simp at h9)])) (by simp only [go_sem, seval, at_, ac_, af_])
 ·refine .skip (.seq (.seq (.rgn [] (by simp only [go_sem, seval, at_, ac_, af_]; rfl) ?_ ?_)))
  ·first | trivial | simp
  refine .condB (by simp only [go_sem, seval, at_, ac_, af_]; rfl) (by simp only [go_sem, seval, at_, ac_, af_]) (fun h14 => ?_) (fun h14 => ?_)
  ·refine .seq (.rgn [] (by simp only [go_sem, seval, at_, ac_, af_]; rfl) ?_ ?_)
   ·first | trivial | simp
   refine .ret ⟨.inr rfl, ?_⟩
   exact Out.plain (by simp only [Tryz.results73]; rfl) (by simp only [aq_, a8_, go_sem, seval, at_, ac_, af_] <;> (split <;> rfl)) (by simp only [a7_, go_sem, seval, at_, ac_, af_] <;> (rw [decide_eq_false (fun e => by rw [e] at h14; simp at h14)])) (by simp only [go_sem, seval, at_, ac_, af_])
  ·refine .skip (.seq (.seq (.rgn [] (by simp only [go_sem, seval, at_, ac_, af_]; rfl) ?_ ?_)))
   ·first | trivial | simp
   refine .condB (by simp only [go_sem, seval, at_, ac_, af_]; rfl) (by simp only [go_sem, seval, at_, ac_, af_]) (fun h19 => ?_) (fun h19 => ?_)
   ·refine .seq (.rgn [] (by simp only [go_sem, seval, at_, ac_, af_]; rfl) ?_ ?_)
    ·first | trivial | simp
    refine .ret ⟨.inr rfl, ?_⟩
    exact Out.plain (by simp only [Tryz.results73]; rfl) (by simp only [aq_, a8_, go_sem, seval, at_, ac_, af_] <;> (split <;> rfl)) (by simp only [a7_, go_sem, seval, at_, ac_, af_] <;> (rw [decide_eq_false (fun e => by rw [e] at h19; simp at h19)])) (by simp only [go_sem, seval, at_, ac_, af_])
   ·refine .skip (.seq (.seq (.rgn [a2_ (ab3_ p.frm q.frm (by omega) (by omega))] (by simp only [go_sem, seval, at_, ac_, af_]; rfl) ?_ ?_)))
    ·first | trivial | simp
    refine .condB (by simp only [go_sem, seval, at_, ac_, af_]; rfl) (by simp only [go_sem, seval, at_, ac_, af_]) (fun h25 => ?_) (fun h25 => ?_)
    ·refine .seq (.rgn [] (by simp only [go_sem, seval, at_, ac_, af_]; rfl) ?_ ?_)
     ·first | trivial | simp
     refine .ret ⟨.inr rfl, ?_⟩
     exact Out.plain (by simp only [Tryz.results73]; rfl) (by simp only [aq_, a8_, go_sem, seval, at_, ac_, af_] <;> (split <;> rfl)) (by simp only [a7_, go_sem, seval, at_, ac_, af_] <;> (rw [decide_eq_false (fun e => by rw [e] at h25; simp at h25)])) (by simp only [go_sem, seval, at_, ac_, af_])
    ·refine .skip (.seq (.rgn [] (by simp only [go_sem, seval, at_, ac_, af_]; rfl) ?_ ?_))
     ·first | trivial | simp
     refine .ret ⟨.inr rfl, ?_⟩
     exact Out.plain (by simp only [Tryz.results73]; rfl) (by simp only [aq_, a8_, go_sem, seval, at_, ac_, af_] <;> (split <;> rfl)) (by simp only [a7_, go_sem, seval, at_, ac_, af_] <;> (rw [decide_eq_true (T.2 ⟨by simpa using h9, by simpa using h14, by simpa using h19, by simpa using h25⟩)])) (by simp only [go_sem, seval, at_, ac_, af_])
theorem ae7_ {a b : List Pg} {k : Nat} (ha : k < a.length) (hb : k < b.length) (h : a.take k = b.take k) (e : a.getD k Pg0 = b.getD k Pg0) : a.take (k + 1) = b.take (k + 1) := t9_ ha hb h e
theorem pw_ (a b : List Pg) (ha : ∀ p ∈ a, p.frm.length ≤ 1000000000000) (hb : ∀ p ∈ b, p.frm.length ≤ 1000000000000) (la : a.length ≤ 1048576) (lb : b.length ≤ 1048576) : ACall En 26 [.sl false (pgR a), .sl false (pgR b)] [] [.b (decide (a = b))] [] := by
 refine ah_ (fn := Tryz.f26) [] Tryz.func26 rfl rfl (by simp) fun C => ?_
 rw [ar_]
 simp only [Tryz.ntmps26, List.length_cons, List.length_nil, Nat.reduceAdd, Nat.reduceSub, List.replicate_succ, List.replicate_zero, List.cons_append, List.nil_append, bd_]
 refine .seq (.rgn [] (by simp only [go_sem, seval, a1_, ak_, at_, ac_]; rfl) ?_ ?_)
 ·first | trivial | simp
 refine .seq (.seq (.rgn [] (by simp only [go_sem, seval, a1_, ak_, at_, ac_]; rfl) ?_ ?_))
 ·first | trivial | simp
 refine .condB (by simp only [go_sem, seval, a1_, ak_, at_, ac_]; rfl) (by simp only [go_sem, seval, a1_, ak_, at_, ac_]) (fun h10 => ?_) (fun h10 => ?_)
 ·refine .seq (.rgn [] (by simp only [go_sem, seval, a1_, ak_, at_, ac_]; rfl) ?_ ?_)
  ·first | trivial | simp
  refine .ret ⟨.inr rfl, ?_⟩
  exact Out.plain (by simp only [Tryz.results26]; rfl) (by simp only [aq_, a8_, go_sem, seval, a1_, ak_, at_, ac_] <;> (split <;> rfl)) (by simp only [a7_, go_sem, seval, a1_, ak_, at_, ac_] <;> (simp at h10; have h : ¬ a = b := (fun e => h10 (by rw [e])); simp [h])) (by simp only [go_sem, seval, a1_, ak_, at_, ac_])
 ·refine .skip (.seq (.seq (.rgn [] (by simp only [go_sem, seval, a1_, ak_, at_, ac_]; rfl) ?_ ?_)))
  ·first | trivial | simp
  refine .block (.loopK (fun k : Nat => ⟨[.sl false (pgR a), .sl false (pgR b), .no, .no, .no, .i .i64 k, .no, .no, .no, .no, .no, .no, .no, .no, .no, .no, .no, .no, .no, .no, .no, .no, .no, .no, .no, .no, .no], aw_ [], us []⟩) (fun k : Nat => k ≤ a.length ∧ a.take k = b.take k) (fun k : Nat => a.length - k) (0) ?_ ?_ (fun k hI => ?_))
  ·simp
  ·exact Can.weak (Weak.lit (by simp only [go_sem, seval, a1_, ak_, at_, ac_, an_, leV, al_, am_, V.inn, us, true_or, or_true] <;> (simp)) (by simp only [go_sem, seval, a1_, ak_, at_, ac_, an_, leV, al_, am_, V.inn, us, true_or, or_true]) (by simp only [go_sem, seval, a1_, ak_, at_, ac_, an_, leV, al_, am_, V.inn, us, true_or, or_true]))
  refine .seq (.seq (.rgn [] (by simp only [go_sem, seval, a1_, ak_, at_, ac_]; rfl) ?_ ?_))
  ·first | trivial | simp
  refine .condB (by simp only [go_sem, seval, a1_, ak_, at_, ac_]; rfl) (by simp only [go_sem, seval, a1_, ak_, at_, ac_]) (fun h14 => ?_) (fun h14 => ?_)
  ·refine .skip (.seq (.block (.seq (.rgnD [c1_ (k < a.length ∧ k < b.length) (fun h => x1_ (a.getD k Pg0) (b.getD k Pg0) (ha _ (bo_ h.1)) (hb _ (bo_ h.2)))] enM (by simp only [go_sem, seval, a1_, ak_, at_, ac_, nh_ (show k < a.length by simpa using h14), nh_ (show k < b.length by simp at h14 h10; omega)]; rfl) (by rfl) ?_ ?_))))
   ·simp at h14 h10; simp; omega
   refine .condB (by simp only [go_sem, seval, a1_, ak_, at_, ac_]; rfl) (by simp only [go_sem, seval, a1_, ak_, at_, ac_]) (fun h26 => ?_) (fun h26 => ?_)
   ·refine .seq (.rgn [] (by simp only [go_sem, seval, a1_, ak_, at_, ac_]; rfl) ?_ ?_)
    ·first | trivial | simp
    refine .ret ⟨.inr rfl, ?_⟩
    exact Out.plain (by simp only [Tryz.results26]; rfl) (by simp only [aq_, a8_, go_sem, seval, a1_, ak_, at_, ac_] <;> (split <;> rfl)) (by simp only [a7_, go_sem, seval, a1_, ak_, at_, ac_] <;> (simp at h14 h10; have h : ¬ a = b := (fun e => by rw [e] at h26; simp at h26); simp [h])) (by simp only [go_sem, seval, a1_, ak_, at_, ac_])
   ·refine .skip (.rgn [] (by simp only [go_sem, seval, a1_, ak_, at_, ac_]; rfl) ?_ ?_)
    ·first | trivial | simp
    refine Exists.intro (k + 1) ⟨?_, ?_, ?_⟩
    ·simp at h14 h10; exact ⟨by omega, ae7_ h14 (by omega) hI.2 (by simpa using h26)⟩
    ·simp at h14; omega
    exact Can.weak (Weak.lit (by simp only [go_sem, seval, a1_, ak_, at_, ac_, an_, leV, al_, am_, V.inn, us, true_or, or_true] <;> (rw [bc_ (by simp at h14; omega) (by simp at h14; omega)]; simp)) (by simp only [go_sem, seval, a1_, ak_, at_, ac_, an_, leV, al_, am_, V.inn, us, true_or, or_true]) (by simp only [go_sem, seval, a1_, ak_, at_, ac_, an_, leV, al_, am_, V.inn, us, true_or, or_true]))
  ·refine .exit (.seq (.rgn [] (by simp only [go_sem, seval, a1_, ak_, at_, ac_]; rfl) ?_ ?_))
   ·first | trivial | simp
   refine .ret ⟨.inr rfl, ?_⟩
   exact Out.plain (by simp only [Tryz.results26]; rfl) (by simp only [aq_, a8_, go_sem, seval, a1_, ak_, at_, ac_] <;> (split <;> rfl)) (by simp only [a7_, go_sem, seval, a1_, ak_, at_, ac_] <;> (simp at h14 h10; have q := hI.2; rw [List.take_of_length_le (by omega), List.take_of_length_le (by omega)] at q; simp [q])) (by simp only [go_sem, seval, a1_, ak_, at_, ac_])
end
end Go.Proofs.YtefmbmafdgedmaaGreatDoor
