/- The words of a line; where a word stands: the reference's. Conditions: none. -/
import Derived.Test.YtefmbmafdgedmaaGreatDoorK5
import Derived.Test.YtefmbmafdgedmaaGreatDoorKg
import Derived.Test.YtefmbmafdgedmaaGreatDoorKl
import Derived.Test.YtefmbmafdgedmaaGreatDoorKi
set_option linter.unusedVariables false
set_option linter.unusedSimpArgs false
namespace Go.Proofs.YtefmbmafdgedmaaGreatDoor
section
set_option maxRecDepth 100000
set_option maxHeartbeats 4000000
theorem zn_ (s : Str) (hs : s.length ≤ 281474976710656) : ACall En 58 [.s s] [] [.sl false (by_ (cs_ s)), .b (ch_ s).isSome] [] := by
 have T := ue_ s hs
 have hb := nn_ s
 unfold cs_
 generalize (ch_ s).getD [] = ts at *
 refine aq_ (fn := Tryz.f58) [] Tryz.func58 rfl rfl (by simp) fun C => ?_
 rw [bb_]
 simp only [Tryz.ntmps58, T7_, List.length_nil, Nat.reduceAdd, Nat.reduceSub, List.replicate_succ, List.replicate_zero, List.cons_append, List.nil_append, bl_]
 refine .seq (.rgn [] (by simp only [go_sem, seval, ay_, at_]; rfl) ?_ ?_)
 ·(first | trivial | (simp; done) | (simp only [T3_] at h17; simp [by_, dh_]; omega))
 refine .seq (.rgn [bj_ T] (by simp only [go_sem, seval, ay_, at_]; rfl) ?_ ?_)
 ·(first | trivial | (simp; done) | (simp only [T3_] at h17; simp [by_, dh_]; omega))
 refine .seq (.rgn [] (by simp only [go_sem, seval, ay_, at_]; rfl) ?_ ?_)
 ·(first | trivial | (simp; done) | (simp only [T3_] at h17; simp [by_, dh_]; omega))
 refine .seq (.seq (.rgn [] (by simp only [go_sem, seval, ay_, at_]; rfl) ?_ ?_))
 ·(first | trivial | (simp; done) | (simp only [T3_] at h17; simp [by_, dh_]; omega))
 refine .block (.loopK (fun k : Nat => ⟨[.no, .no, .no, .no, .sl false (tkR ts), .b (ch_ s).isSome, .ow 23 1 0 k, .i .i64 k, .no, .no, .no, .no, .no, .no, .no, .no, .no, .no, .no, .no, .no, .no, .no, .no, .no, .no, .no, .no, .no, .no], be_ [(23, ⟨9, 1, by_ ((ts.take k).map (·.s))⟩)], us [23]⟩) (fun k : Nat => k ≤ ts.length) (fun k : Nat => ts.length - k) (0) ?_ ?_ (fun k hI => ?_))
 ·simp
 ·refine Can.trans (Can.ownSlot 6 23 9 1 (by simp only [go_sem, seval, ay_, at_] <;> rfl) (by simp only [go_sem, seval, ay_, at_]) (by simp only [go_sem, seval, ay_, at_] <;> rfl)) ?_
  exact Can.weak (Weak.lit (by simp only [go_sem, seval, ay_, at_, a2_, leV, az_, a0_, V.inn, us, T9_, Ta_] <;> ((try simp))) (by simp only [go_sem, seval, ay_, at_, a2_, leV, az_, a0_, V.inn, us, T9_, Ta_]) (by simp only [go_sem, seval, ay_, at_, a2_, leV, az_, a0_, V.inn, us, T9_, Ta_] <;> ((try simp [by_]))))
 refine .seq (.seq (.rgn [] (by simp only [go_sem, seval, ay_, at_]; rfl) ?_ ?_))
 ·(first | trivial | (simp; done) | (simp only [T3_] at h17; simp [by_, dh_]; omega))
 refine .condB (by simp only [go_sem, seval, ay_, at_]; rfl) (by simp only [go_sem, seval, ay_, at_]) (fun h17 => ?_) (fun h17 => ?_)
 ·refine .skip (.seq (.block (.rgn [] (by simp only [go_sem, seval, ay_, at_, v5_ (show k < ts.length by simpa using h17)]; rfl) ?_ ?_)))
  ·(first | trivial | (simp; done) | (simp only [T3_] at h17; simp [by_, dh_]; omega))
  refine .rgn [] (by simp only [go_sem, seval, ay_, at_]; rfl) ?_ ?_
  ·(first | trivial | (simp; done) | (simp only [T3_] at h17; simp [by_, dh_]; omega))
  refine Exists.intro (k + 1) ⟨?_, ?_, ?_⟩
  ·simp at h17; omega
  ·simp at h17; omega
  refine Can.trans (Can.swap 37 23 (by decide) (by decide) (by decide) (by decide) (by simp only [go_sem, seval, ay_, at_, V.cl]) (by simp only [go_sem, seval, ay_, at_, V.cl]) (by simp only [go_sem, seval, ay_, at_, ck_, sw, swM, rnB] <;> rfl) (by simp only [go_sem, seval, ay_, at_, ck_, sw, swM, rnB] <;> rfl) (by simp only [go_sem, seval, ay_, at_, ck_, sw, swM, rnB] <;> rfl)) ?_
  exact Can.weak (Weak.lit (by simp only [go_sem, seval, ay_, at_, a2_, leV, az_, a0_, V.inn, us, T9_, Ta_] <;> (rw [bt_ (by simp at h17; omega) (by simp at h17; omega)]; (try simp))) (by simp only [go_sem, seval, ay_, at_, a2_, leV, az_, a0_, V.inn, us, T9_, Ta_]) (by simp only [go_sem, seval, ay_, at_, a2_, leV, az_, a0_, V.inn, us, T9_, Ta_] <;> (simp only [T3_] at h17; rw [List.take_add_one, T6_ (show k < ts.length by omega)]; simp [-List.map_take, -List.take_append_getElem, by_, T8_, T6_ (show k < ts.length by omega)])))
 ·refine .exit (.seq (.rgn [] (by simp only [go_sem, seval, ay_, at_]; rfl) ?_ ?_))
  ·(first | trivial | (simp; done) | (simp only [T3_] at h17; simp [by_, dh_]; omega))
  refine .frz 23 (by simp only [go_sem, seval, ay_, at_]; rfl) (by simp only [go_sem, seval, ay_, at_]) (by simp only [go_sem, seval, ay_, at_]; rfl) (by simp only [go_sem, seval, ay_, at_]; rfl) ?_
  refine .ret ⟨.inr rfl, ?_⟩
  exact Out.plainL (by simp only [Tryz.results58]; rfl) (by simp only [a4_, bh_, go_sem, seval, ay_, at_] <;> (split <;> rfl)) (by simp only [bg_, go_sem, seval, ay_, at_] <;> (simp at h17; rw [T1_ h17, if_pos (by simpa using hI)]; simp [peel, leV, bu_, by_, T1_, h17])) (by simp only [go_sem, seval, ay_, at_])
theorem wf_ (l : List Str) (hl : l.length < 4611686018427387904) : ACall En 108 [.sl false (by_ l)] [] [.i .i64 (co_ l bi_)] [] := by
 refine aq_ (fn := Tryz.f108) [] Tryz.func108 rfl rfl (by simp) fun C => ?_
 rw [bb_]
 simp only [Tryz.ntmps108, T7_, List.length_nil, Nat.reduceAdd, Nat.reduceSub, List.replicate_succ, List.replicate_zero, List.cons_append, List.nil_append, bl_]
 refine .seq (.rgn [] (by simp only [go_sem, seval, ab_, aa_]; rfl) ?_ ?_)
 ·first | trivial | simp
 refine .seq (.seq (.rgn [] (by simp only [go_sem, seval, ab_, aa_]; rfl) ?_ ?_))
 ·first | trivial | simp
 refine .block (.loopK (fun k : Nat => ⟨[.sl false (by_ l), .no, .no, .i .i64 k, .no, .no, .no, .no, .no, .no, .no, .no, .no, .no, .no, .no], be_ [], us []⟩) (fun k : Nat => k ≤ l.length ∧ ∀ x ∈ l.take k, x ≠ bi_) (fun k : Nat => l.length - k) (0) ?_ ?_ (fun k hI => ?_))
 ·simp
 ·exact Can.weak (Weak.lit (by simp only [go_sem, seval, ab_, aa_, a2_, leV, az_, a0_, V.inn, us, T9_, Ta_] <;> (simp)) (by simp only [go_sem, seval, ab_, aa_, a2_, leV, az_, a0_, V.inn, us, T9_, Ta_]) (by simp only [go_sem, seval, ab_, aa_, a2_, leV, az_, a0_, V.inn, us, T9_, Ta_]))
 refine .seq (.seq (.rgn [] (by simp only [go_sem, seval, ab_, aa_]; rfl) ?_ ?_))
 ·first | trivial | simp
 refine .condB (by simp only [go_sem, seval, ab_, aa_]; rfl) (by simp only [go_sem, seval, ab_, aa_]) (fun h7 => ?_) (fun h7 => ?_)
 ·refine .skip (.seq (.block (.seq (.rgn [] (by simp only [go_sem, seval, ab_, aa_, dl_ (show k < l.length by simpa using h7)]; rfl) ?_ ?_))))
  ·simp at h7; simp [ab_, h7]
  refine .condB (by simp only [go_sem, seval, ab_, aa_]; rfl) (by simp only [go_sem, seval, ab_, aa_]) (fun h14 => ?_) (fun h14 => ?_)
  ·refine .seq (.rgn [] (by simp only [go_sem, seval, ab_, aa_]; rfl) ?_ ?_)
   ·first | trivial | simp
   refine .ret ⟨.inr rfl, ?_⟩
   exact Out.plain (by simp only [Tryz.results108]; rfl) (by simp only [a4_, bh_, go_sem, seval, ab_, aa_] <;> (split <;> rfl)) (by simp only [bg_, go_sem, seval, ab_, aa_] <;> (simp at h7; obtain ⟨g1, g2⟩ := rq_ h7 hI.2 (eq_of_beq h14); unfold co_; rw [if_pos g1, g2])) (by simp only [go_sem, seval, ab_, aa_])
  ·refine .skip (.rgn [] (by simp only [go_sem, seval, ab_, aa_]; rfl) ?_ ?_)
   ·first | trivial | simp
   refine Exists.intro (k + 1) ⟨?_, ?_, ?_⟩
   ·simp at h7; refine ⟨by omega, fun x hx => ?_⟩; rw [List.take_add_one, List.mem_append, T6_ h7] at hx; rcases hx with hx | hx; exact hI.2 x hx; simp at hx; subst hx; simp [T8_, T6_ h7] at h14; exact h14
   ·simp at h7; omega
   exact Can.weak (Weak.lit (by simp only [go_sem, seval, ab_, aa_, a2_, leV, az_, a0_, V.inn, us, T9_, Ta_] <;> (rw [bt_ (by omega) (by omega)]; simp)) (by simp only [go_sem, seval, ab_, aa_, a2_, leV, az_, a0_, V.inn, us, T9_, Ta_]) (by simp only [go_sem, seval, ab_, aa_, a2_, leV, az_, a0_, V.inn, us, T9_, Ta_]))
 ·refine .exit (.seq (.rgn [] (by simp only [go_sem, seval, ab_, aa_]; rfl) ?_ ?_))
  ·first | trivial | simp
  refine .ret ⟨.inr rfl, ?_⟩
  exact Out.plain (by simp only [Tryz.results108]; rfl) (by simp only [a4_, bh_, go_sem, seval, ab_, aa_] <;> (split <;> rfl)) (by simp only [bg_, go_sem, seval, ab_, aa_] <;> (simp at h7; have : ¬ bi_ ∈ l := fun hm => hI.2 bi_ (by rw [T1_ h7]; exact hm) rfl; simp [co_, this])) (by simp only [go_sem, seval, ab_, aa_])
end
section
set_option maxRecDepth 100000
set_option maxHeartbeats 8000000
theorem hw_ {w : List Str} (h : ((w.length : Int) == 0) = false) : 0 < w.length := by
 rw [beq_eq_false_iff_ne] at h; omega
end
section
set_option maxRecDepth 100000
set_option maxHeartbeats 8000000
theorem l7if {w : List Str} {b : Bool} (h : ((w.getD 0 [] == [105, 102] && decide (co_ w [58] > 0)) && atI w (co_ w [58] + 1) == [112, 114, 105, 110, 116]) = b) : (b = true ↔ (w.getD 0 [] = wIf ∧ 0 < co_ w bi_ ∧ w.getD ((co_ w bi_).toNat + 1) [] = cj_)) := by
 have e : 0 < co_ w [58] → atI w (co_ w [58] + 1) = w.getD ((co_ w [58]).toNat + 1) [] := fun q => by
  unfold atI
  rw [if_pos (by omega), show (co_ w [58] + 1).toNat = (co_ w [58]).toNat + 1 by omega]
 rw [← h]
 simp only [T5_, beq_iff_eq, T3_, wIf, bi_, cj_, and_assoc]
 constructor
 ·rintro ⟨a, b, c⟩; exact ⟨a, b, by rw [← e b]; exact c⟩
 ·rintro ⟨a, b, c⟩; exact ⟨a, b, by rw [e b]; exact c⟩
theorem adh_ {w : List Str} (h : w.getD ((co_ w bi_).toNat + 1) [] = cj_) : (co_ w bi_).toNat + 1 < w.length := gh_ fun e => by rw [e] at h; exact absurd h (by decide)
theorem l7eq {w : List Str} {b : Bool} (h : (atI w 1 == [61]) = b) : (b = true ↔ w.getD 1 [] = wEq) := by
 rw [← h, show atI w 1 = w.getD 1 [] from rfl]; simp [wEq]
theorem z3_ (w : List Str) (hw : smW w) (hl : w.length ≤ 100000) : ACall En 59 [.sl false (by_ w)] [] [.ag (bC (ex_ w).1), .b (ex_ w).2] [] := by
 have hs := qy_ w bi_
 have hss := wf_ w (by omega)
 simp only [bi_] at hs hss
 have hsw : IntKind.i64.wrap (co_ w [58] + 2) = co_ w [58] + 2 := bt_ (by omega) (by omega)
 have hsw1 : IntKind.i64.wrap (co_ w [58] + 1) = co_ w [58] + 1 := bt_ (by omega) (by omega)
 have ht : 0 < co_ w [58] → (co_ w [58] + 2).toNat = (co_ w [58]).toNat + 2 := fun h => by omega
 refine aq_ (fn := Tryz.f59) [] Tryz.func59 rfl rfl (by simp) fun C => ?_
 rw [bb_]
 simp only [Tryz.ntmps59, T7_, List.length_nil, Nat.reduceAdd, Nat.reduceSub, List.replicate_succ, List.replicate_zero, List.cons_append, List.nil_append, bl_]
 refine .seq (.rgn [] (by simp only [go_sem, seval, ab_, aa_, an_, am_, bi_, hsw, hsw1, a9_, a6_]; rfl) ?_ ?_)
 ·(first | trivial | (simp; done) | (simp [ba_]; done) | (simp [ba_]; omega) | (have := hw_ h15; omega))
 refine .seq (.rgn [bj_ hss] (by simp only [go_sem, seval, ab_, aa_, an_, am_, bi_, hsw, hsw1, a9_, a6_]; rfl) ?_ ?_)
 ·(first | trivial | (simp; done) | (simp [ba_]; done) | (simp [ba_]; omega) | (have := hw_ h15; omega))
 refine .seq (.block (.seq (.rgn [] (by simp only [go_sem, seval, ab_, aa_, an_, am_, bi_, hsw, hsw1, a9_, a6_]; rfl) ?_ ?_)))
 ·(first | trivial | (simp; done) | (simp [ba_]; done) | (simp [ba_]; omega) | (have := hw_ h15; omega))
 refine .condB (by simp only [go_sem, seval, ab_, aa_, an_, am_, bi_, hsw, hsw1, a9_, a6_]; rfl) (by simp only [go_sem, seval, ab_, aa_, an_, am_, bi_, hsw, hsw1, a9_, a6_]) (fun h15 => ?_) (fun h15 => ?_)
 ·refine .seq (.rgn [] (by simp only [go_sem, seval, ab_, aa_, an_, am_, bi_, hsw, hsw1, a9_, a6_]; rfl) ?_ ?_)
  ·(first | trivial | (simp; done) | (simp [ba_]; done) | (simp [ba_]; omega) | (have := hw_ h15; omega))
  refine .ret ⟨.inr rfl, ?_⟩
  exact Out.plainL (by simp only [Tryz.results59]; rfl) (by simp only [a4_, bh_, go_sem, seval, ab_, aa_, an_, am_, bi_, hsw, hsw1, a9_, a6_] <;> (split <;> rfl)) (by simp only [bg_, go_sem, seval, ab_, aa_, an_, am_, bi_, hsw, hsw1, a9_, a6_] <;> ((have e : ex_ w = (B0, true) := (by unfold ex_; rw [if_pos (by simpa using h15)])); rw [e, as_]; simp [les, leV, ler, bu_, mb_, mi_, mh_, e9_, gd_, B0])) (by simp only [go_sem, seval, ab_, aa_, an_, am_, bi_, hsw, hsw1, a9_, a6_])
 ·refine .seq (.rgn [] (by simp only [go_sem, seval, ab_, aa_, an_, am_, bi_, hsw, hsw1, a9_, a6_, dl_ (hw_ h15)]; rfl) ?_ ?_)
  ·(first | trivial | (simp; done) | (simp [ba_]; done) | (simp [ba_]; omega) | (have := hw_ h15; omega))
  refine .condB (by simp only [go_sem, seval, ab_, aa_, an_, am_, bi_, hsw, hsw1, a9_, a6_]; rfl) (by simp only [go_sem, seval, ab_, aa_, an_, am_, bi_, hsw, hsw1, a9_, a6_]) (fun h20 => ?_) (fun h20 => ?_)
  ·refine .seq (.rgn [bj_ (hc_ (w.drop 1) (dj_ hw 1) (by simp; omega))] (by simp only [go_sem, seval, ab_, aa_, an_, am_, bi_, hsw, hsw1, a9_, a6_]; rfl) ?_ ?_)
   ·have h5 := hw_ h15; refine ⟨⟨by omega, .inr (of_eq_true (ba_ w))⟩, ?_⟩; rw [List.take_length]; exact bu_ _
   refine .seq (.rgn [] (by simp only [go_sem, seval, ab_, aa_, an_, am_, bi_, hsw, hsw1, a9_, a6_]; rfl) ?_ ?_)
   ·(first | trivial | (simp; done) | (simp [ba_]; done) | (simp [ba_]; omega) | (have := hw_ h15; omega))
   refine .ret ⟨.inr rfl, ?_⟩
   exact Out.plainL (by simp only [Tryz.results59]; rfl) (by simp only [a4_, bh_, go_sem, seval, ab_, aa_, an_, am_, bi_, hsw, hsw1, a9_, a6_] <;> (split <;> rfl)) (by simp only [bg_, go_sem, seval, ab_, aa_, an_, am_, bi_, hsw, hsw1, a9_, a6_] <;> ((have e : ex_ w = (⟨2, [], ex (w.drop 1), E0⟩, ft_ (w.drop 1)) := (by have := hw_ h15; unfold ex_; rw [if_neg (by omega), if_pos (by simpa [cj_] using h20)]; rfl)); rw [e, as_]; simp [les, leV, ler, bu_, mb_, mi_, mh_, e9_, gd_, ft_])) (by simp only [go_sem, seval, ab_, aa_, an_, am_, bi_, hsw, hsw1, a9_, a6_])
  ·refine .seq (.rgn [bj_ (hv_ w (co_ w [58] + 1))] (by simp only [go_sem, seval, ab_, aa_, an_, am_, bi_, hsw, hsw1, a9_, a6_, dl_ (hw_ h15)]; rfl) ?_ ?_)
   ·(first | trivial | (simp; done) | (simp [ba_]; done) | (simp [ba_]; omega) | (have := hw_ h15; omega))
   refine .condB (by simp only [go_sem, seval, ab_, aa_, an_, am_, bi_, hsw, hsw1, a9_, a6_]; rfl) (by simp only [go_sem, seval, ab_, aa_, an_, am_, bi_, hsw, hsw1, a9_, a6_]) (fun h34 => ?_) (fun h34 => ?_)
   ·refine .seq (.rgn [bj_ (hc_ ((w.take (co_ w bi_).toNat).drop 1) (dj_ (ia_ hw _) 1) (by simp; omega))] (by simp only [go_sem, seval, ab_, aa_, an_, am_, bi_, hsw, hsw1, a9_, a6_]; rfl) ?_ ?_)
    ·have h5 := ((l7if h34).1 rfl).2.1; simp only [bi_] at h5; exact ⟨⟨by omega, by omega, by omega, fun h => absurd rfl h⟩, .inr (of_eq_true (ba_ w))⟩
    refine .seq (.rgn [bj_ (hc_ (w.drop ((co_ w bi_).toNat + 2)) (dj_ hw _) (by simp; omega))] (by simp only [go_sem, seval, ab_, aa_, an_, am_, bi_, hsw, hsw1, a9_, a6_]; rfl) ?_ ?_)
    ·have h5 := ((l7if h34).1 rfl).2; have h6 := adh_ h5.2; simp only [bi_] at h5 h6; refine ⟨⟨by omega, .inr (of_eq_true (ba_ w))⟩, ?_⟩; rw [List.take_length, ht h5.1]; exact bu_ _
    refine .seq (.rgn [] (by simp only [go_sem, seval, ab_, aa_, an_, am_, bi_, hsw, hsw1, a9_, a6_]; rfl) ?_ ?_)
    ·(first | trivial | (simp; done) | (simp [ba_]; done) | (simp [ba_]; omega) | (have := hw_ h15; omega))
    refine .ret ⟨.inr rfl, ?_⟩
    exact Out.plainL (by simp only [Tryz.results59]; rfl) (by simp only [a4_, bh_, go_sem, seval, ab_, aa_, an_, am_, bi_, hsw, hsw1, a9_, a6_] <;> (split <;> rfl)) (by simp only [bg_, go_sem, seval, ab_, aa_, an_, am_, bi_, hsw, hsw1, a9_, a6_] <;> ((have e : ex_ w = (⟨3, [], ex ((w.take (co_ w bi_).toNat).drop 1), ex (w.drop ((co_ w bi_).toNat + 2))⟩, ft_ ((w.take (co_ w bi_).toNat).drop 1) && ft_ (w.drop ((co_ w bi_).toNat + 2))) := (by have := hw_ h15; unfold ex_; rw [if_neg (by omega), if_neg (by simpa [cj_] using h20), if_pos ((l7if h34).1 rfl)]; rfl)); rw [e, as_]; simp [bi_, les, leV, ler, bu_, mb_, mi_, mh_, e9_, gd_, ft_])) (by simp only [go_sem, seval, ab_, aa_, an_, am_, bi_, hsw, hsw1, a9_, a6_])
   ·refine .seq (.rgn [bj_ (hv_ w 1)] (by simp only [go_sem, seval, ab_, aa_, an_, am_, bi_, hsw, hsw1, a9_, a6_]; rfl) ?_ ?_)
    ·(first | trivial | (simp; done) | (simp [ba_]; done) | (simp [ba_]; omega) | (have := hw_ h15; omega))
    refine .condB (by simp only [go_sem, seval, ab_, aa_, an_, am_, bi_, hsw, hsw1, a9_, a6_]; rfl) (by simp only [go_sem, seval, ab_, aa_, an_, am_, bi_, hsw, hsw1, a9_, a6_]) (fun h72 => ?_) (fun h72 => ?_)
    ·refine .seq (.rgn [bj_ (hc_ (w.drop 2) (dj_ hw 2) (by simp; omega))] (by simp only [go_sem, seval, ab_, aa_, an_, am_, bi_, hsw, hsw1, a9_, a6_]; rfl) ?_ ?_)
     ·have h5 : 1 < w.length := gh_ (by rw [(l7eq h72).1 rfl]; decide); refine ⟨⟨by omega, .inr (of_eq_true (ba_ w))⟩, ?_⟩; rw [List.take_length]; exact bu_ _
     refine .seq (.rgnD [] enM (by simp only [go_sem, seval, ab_, aa_, an_, am_, bi_, hsw, hsw1, a9_, a6_, dl_ (hw_ h15)]; rfl) (by rfl) ?_ ?_)
     ·have := hw_ h15; exact ⟨by omega, rfl⟩
     refine .ret ⟨.inr rfl, ?_⟩
     exact Out.plainL (by simp only [Tryz.results59]; rfl) (by simp only [a4_, bh_, go_sem, seval, ab_, aa_, an_, am_, bi_, hsw, hsw1, a9_, a6_] <;> (split <;> rfl)) (by simp only [bg_, go_sem, seval, ab_, aa_, an_, am_, bi_, hsw, hsw1, a9_, a6_] <;> ((have e : ex_ w = (⟨1, w.getD 0 [], ex (w.drop 2), E0⟩, ft_ (w.drop 2)) := (by have := hw_ h15; unfold ex_; rw [if_neg (by omega), if_neg (by simpa [cj_] using h20), if_neg (fun h => absurd ((l7if h34).2 h) (by decide)), if_pos ((l7eq h72).1 rfl)]; rfl)); rw [e, as_]; simp [les, leV, ler, bu_, mb_, mi_, mh_, e9_, gd_, ft_])) (by simp only [go_sem, seval, ab_, aa_, an_, am_, bi_, hsw, hsw1, a9_, a6_])
    ·refine .skip (.seq (.rgn [] (by simp only [go_sem, seval, ab_, aa_, an_, am_, bi_, hsw, hsw1, a9_, a6_]; rfl) ?_ ?_))
     ·(first | trivial | (simp; done) | (simp [ba_]; done) | (simp [ba_]; omega) | (have := hw_ h15; omega))
     refine .ret ⟨.inr rfl, ?_⟩
     exact Out.plainL (by simp only [Tryz.results59]; rfl) (by simp only [a4_, bh_, go_sem, seval, ab_, aa_, an_, am_, bi_, hsw, hsw1, a9_, a6_] <;> (split <;> rfl)) (by simp only [bg_, go_sem, seval, ab_, aa_, an_, am_, bi_, hsw, hsw1, a9_, a6_] <;> ((have e : ex_ w = (B0, false) := (by have := hw_ h15; unfold ex_; rw [if_neg (by omega), if_neg (by simpa [cj_] using h20), if_neg (fun h => absurd ((l7if h34).2 h) (by decide)), if_neg (fun h => absurd ((l7eq h72).2 h) (by decide))])); rw [e, as_]; simp [les, leV, ler, bu_, mb_, mi_, mh_, e9_, gd_, B0])) (by simp only [go_sem, seval, ab_, aa_, an_, am_, bi_, hsw, hsw1, a9_, a6_])
theorem l9_ {line : Str} (h : ¬ ((ch_ line).isSome = true ∧ (ex_ (cs_ line)).2 = true ∧ bok (ex_ (cs_ line)).1 = true ∧ cg_ (bw (ex_ (cs_ line)).1) = line)) : j0_ line = none := by
 unfold j0_ cs_ at *
 cases ht : ch_ line with
 | none => rfl
 | some ts =>
  rw [ht] at h
  simp only [Option.getD_some] at h
  dsimp only
  rw [if_neg]
  exact fun q => h ⟨rfl, q⟩
theorem sg_ {line : Str} (h : (ch_ line).isSome = true) (h0 : (ex_ (cs_ line)).2 = true) (h1 : bok (ex_ (cs_ line)).1 = true) (h2 : cg_ (bw (ex_ (cs_ line)).1) = line) : j0_ line = some (ex_ (cs_ line)).1 := by
 unfold j0_ cs_ at *
 cases ht : ch_ line with
 | none => rw [ht] at h; cases h
 | some ts =>
  rw [ht] at h0 h1 h2
  simp only [Option.getD_some] at h0 h1 h2 ⊢
  rw [if_pos ⟨h0, h1, h2⟩]
theorem acf_ {w : List Str} (h : smW w) : smb (ex_ w).1 = true := by
 have g := uz_ h
 have e := fun k => vx_ (dj_ h k)
 have e0 : sm E0 = true := by decide
 unfold ex_
 split
 ·decide
 ·split
  ·simp only [smb, e, e0, Bool.and_true]; rfl
  ·split
   ·simp only [smb, e, vx_ (dj_ (ia_ h _) 1), Bool.and_true]; rfl
   ·split
    ·simp only [smb, e, e0, Bool.and_true, T3_]; have := g 0; omega
    ·decide
theorem ti_ (line : Str) (hl : line.length ≤ 281474976710656) : ACall En 19 [.s line] [] [.ag (bC ((em_ line).getD B0)), .b (em_ line).isSome] [] := by
 obtain ⟨w1, w2⟩ := mj_ line
 have hs := acf_ w1
 rw [aan_]
 refine aq_ (fn := Tryz.f19) [] Tryz.func19 rfl rfl (by simp) fun C => ?_
 rw [bb_]
 simp only [Tryz.ntmps19, T7_, List.length_nil, Nat.reduceAdd, Nat.reduceSub, List.replicate_succ, List.replicate_zero, List.cons_append, List.nil_append, bl_]
 refine .seq (.rgn [] (by simp only [go_sem, seval, aa_, a9_, as_]; rfl) ?_ ?_)
 ·first | trivial | simp
 refine .seq (.rgn [bj_ (zn_ line hl)] (by simp only [go_sem, seval, aa_, a9_, as_]; rfl) ?_ ?_)
 ·first | trivial | simp
 refine .seq (.seq (.rgn [] (by simp only [go_sem, seval, aa_, a9_, as_]; rfl) ?_ ?_))
 ·first | trivial | simp
 refine .condB (by simp only [go_sem, seval, aa_, a9_, as_]; rfl) (by simp only [go_sem, seval, aa_, a9_, as_]) (fun h14 => ?_) (fun h14 => ?_)
 ·refine .seq (.rgn [] (by simp only [go_sem, seval, aa_, a9_, as_]; rfl) ?_ ?_)
  ·first | trivial | simp
  refine .ret ⟨.inr rfl, ?_⟩
  exact Out.plainL (by simp only [Tryz.results19]; rfl) (by simp only [a4_, bh_, go_sem, seval, aa_, a9_, as_] <;> (split <;> rfl)) (by simp only [bg_, go_sem, seval, aa_, a9_, as_] <;> (rw [l9_ (fun q => by rw [q.1] at h14; simp at h14)]; simp [B0, les, leV, ler, bu_, mb_, mi_, mh_, e9_, gd_])) (by simp only [go_sem, seval, aa_, a9_, as_])
 ·refine .skip (.seq (.rgn [bj_ (z3_ (cs_ line) w1 (by omega))] (by simp only [go_sem, seval, aa_, a9_, as_]; rfl) ?_ ?_))
  ·first | trivial | simp
  refine .seq (.seq (.rgn [bj_ (wu_ (ex_ (cs_ line)).1 hs), ef_ (bok (ex_ (cs_ line)).1 = true) (fun h => ls_ (ex_ (cs_ line)).1 (v3_ h) hs), ef_ (bok (ex_ (cs_ line)).1 = true) (fun h => jy_ (bw (ex_ (cs_ line)).1) (by have := (tg_ (v3_ h)).1; omega) (by have := mt_ (v3_ h); omega))] (by simp only [go_sem, seval, aa_, a9_, as_]; rfl) ?_ ?_))
  ·first | trivial | simp
  refine .condB (by simp only [go_sem, seval, aa_, a9_, as_]; rfl) (by simp only [go_sem, seval, aa_, a9_, as_]) (fun h34 => ?_) (fun h34 => ?_)
  ·refine .seq (.rgn [] (by simp only [go_sem, seval, aa_, a9_, as_]; rfl) ?_ ?_)
   ·first | trivial | simp
   refine .ret ⟨.inr rfl, ?_⟩
   exact Out.plainL (by simp only [Tryz.results19]; rfl) (by simp only [a4_, bh_, go_sem, seval, aa_, a9_, as_] <;> (split <;> rfl)) (by simp only [bg_, go_sem, seval, aa_, a9_, as_] <;> (rw [l9_ (by intro q; simp [q.1, q.2.1, q.2.2] at h34)]; simp [B0, les, leV, ler, bu_, mb_, mi_, mh_, e9_, gd_])) (by simp only [go_sem, seval, aa_, a9_, as_])
  ·refine .skip (.seq (.rgn [] (by simp only [go_sem, seval, aa_, a9_, as_]; rfl) ?_ ?_))
   ·first | trivial | simp
   refine .ret ⟨.inr rfl, ?_⟩
   exact Out.plainL (by simp only [Tryz.results19]; rfl) (by simp only [a4_, bh_, go_sem, seval, aa_, a9_, as_] <;> (split <;> rfl)) (by simp only [bg_, go_sem, seval, aa_, a9_, as_] <;> (rw [sg_ (by simp at h14; exact h14) (by simp at h34; exact h34.1.1) (by simp at h34; exact h34.1.2) (by simp at h34; exact h34.2)]; simp [les, leV, ler, bu_])) (by simp only [go_sem, seval, aa_, a9_, as_])
end
end Go.Proofs.YtefmbmafdgedmaaGreatDoor
