/- The words of a line; where a word stands: the reference's. Conditions: none. -/
import Derived.Test.YtpikbndepapbhabGreatDoorK5
import Derived.Test.YtpikbndepapbhabGreatDoorKg
import Derived.Test.YtpikbndepapbhabGreatDoorKl
import Derived.Test.YtpikbndepapbhabGreatDoorKi
set_option linter.unusedVariables false
set_option linter.unusedSimpArgs false
namespace Go.Proofs.YtpikbndepapbhabGreatDoor
section
set_option maxRecDepth 100000
set_option maxHeartbeats 4000000
theorem aaj_ (s : Str) (hs : s.length ≤ 281474976710656) : ACall En 79 [.s s] [] [.sl false (bi_ (cl_ s)), .b (b4_ s).isSome] [] := by
 have T := vn_ s hs
 have hb := om_ s
 unfold cl_
 generalize (b4_ s).getD [] = ts at *
 refine al_ (fn := Tryz.f79) [] Tryz.func79 rfl rfl (by simp) fun C => ?_
 rw [aw_]
 simp only [Tryz.ntmps79, T7_, List.length_nil, Nat.reduceAdd, Nat.reduceSub, List.replicate_succ, List.replicate_zero, List.cons_append, List.nil_append, bo_]
 refine .seq (.rgn [] (by simp only [go_sem, seval, ax_, as_]; rfl) ?_ ?_)
 ·(first | trivial | (simp; done) | (simp only [T3_] at h17; simp [bi_, cm_]; omega))
 refine .seq (.rgn [a1_ T] (by simp only [go_sem, seval, ax_, as_]; rfl) ?_ ?_)
 ·(first | trivial | (simp; done) | (simp only [T3_] at h17; simp [bi_, cm_]; omega))
 refine .seq (.rgn [] (by simp only [go_sem, seval, ax_, as_]; rfl) ?_ ?_)
 ·(first | trivial | (simp; done) | (simp only [T3_] at h17; simp [bi_, cm_]; omega))
 refine .seq (.seq (.rgn [] (by simp only [go_sem, seval, ax_, as_]; rfl) ?_ ?_))
 ·(first | trivial | (simp; done) | (simp only [T3_] at h17; simp [bi_, cm_]; omega))
 refine .block (.loopK (fun k : Nat => ⟨[.no, .no, .no, .no, .sl false (tkR ts), .b (b4_ s).isSome, .ow 23 1 0 k, .i .i64 k, .no, .no, .no, .no, .no, .no, .no, .no, .no, .no, .no, .no, .no, .no, .no, .no, .no, .no, .no, .no, .no, .no], bc_ [(23, ⟨9, 1, bi_ ((ts.take k).map (·.s))⟩)], us [23]⟩) (fun k : Nat => k ≤ ts.length) (fun k : Nat => ts.length - k) (0) ?_ ?_ (fun k hI => ?_))
 ·simp
 ·refine Can.trans (Can.ownSlot 6 23 9 1 (by simp only [go_sem, seval, ax_, as_] <;> rfl) (by simp only [go_sem, seval, ax_, as_]) (by simp only [go_sem, seval, ax_, as_] <;> rfl)) ?_
  exact Can.weak (Weak.lit (by simp only [go_sem, seval, ax_, as_, aq_, leV, ao_, ap_, V.inn, us, T9_, Ta_] <;> ((try simp))) (by simp only [go_sem, seval, ax_, as_, aq_, leV, ao_, ap_, V.inn, us, T9_, Ta_]) (by simp only [go_sem, seval, ax_, as_, aq_, leV, ao_, ap_, V.inn, us, T9_, Ta_] <;> ((try simp [bi_]))))
 refine .seq (.seq (.rgn [] (by simp only [go_sem, seval, ax_, as_]; rfl) ?_ ?_))
 ·(first | trivial | (simp; done) | (simp only [T3_] at h17; simp [bi_, cm_]; omega))
 refine .condB (by simp only [go_sem, seval, ax_, as_]; rfl) (by simp only [go_sem, seval, ax_, as_]) (fun h17 => ?_) (fun h17 => ?_)
 ·refine .skip (.seq (.block (.rgn [] (by simp only [go_sem, seval, ax_, as_, x0_ (show k < ts.length by simpa using h17)]; rfl) ?_ ?_)))
  ·(first | trivial | (simp; done) | (simp only [T3_] at h17; simp [bi_, cm_]; omega))
  refine .rgn [] (by simp only [go_sem, seval, ax_, as_]; rfl) ?_ ?_
  ·(first | trivial | (simp; done) | (simp only [T3_] at h17; simp [bi_, cm_]; omega))
  refine Exists.intro (k + 1) ⟨?_, ?_, ?_⟩
  ·simp at h17; omega
  ·simp at h17; omega
  refine Can.trans (Can.swap 37 23 (by decide) (by decide) (by decide) (by decide) (by simp only [go_sem, seval, ax_, as_, V.cl]) (by simp only [go_sem, seval, ax_, as_, V.cl]) (by simp only [go_sem, seval, ax_, as_, bf_, sw, swM, rnB] <;> rfl) (by simp only [go_sem, seval, ax_, as_, bf_, sw, swM, rnB] <;> rfl) (by simp only [go_sem, seval, ax_, as_, bf_, sw, swM, rnB] <;> rfl)) ?_
  exact Can.weak (Weak.lit (by simp only [go_sem, seval, ax_, as_, aq_, leV, ao_, ap_, V.inn, us, T9_, Ta_] <;> (rw [bd_ (by simp at h17; omega) (by simp at h17; omega)]; (try simp))) (by simp only [go_sem, seval, ax_, as_, aq_, leV, ao_, ap_, V.inn, us, T9_, Ta_]) (by simp only [go_sem, seval, ax_, as_, aq_, leV, ao_, ap_, V.inn, us, T9_, Ta_] <;> (simp only [T3_] at h17; rw [List.take_add_one, T6_ (show k < ts.length by omega)]; simp [-List.map_take, -List.take_append_getElem, bi_, T8_, T6_ (show k < ts.length by omega)])))
 ·refine .exit (.seq (.rgn [] (by simp only [go_sem, seval, ax_, as_]; rfl) ?_ ?_))
  ·(first | trivial | (simp; done) | (simp only [T3_] at h17; simp [bi_, cm_]; omega))
  refine .frz 23 (by simp only [go_sem, seval, ax_, as_]; rfl) (by simp only [go_sem, seval, ax_, as_]) (by simp only [go_sem, seval, ax_, as_]; rfl) (by simp only [go_sem, seval, ax_, as_]; rfl) ?_
  refine .ret ⟨.inr rfl, ?_⟩
  exact Out.plainL (by simp only [Tryz.results79]; rfl) (by simp only [av_, a3_, go_sem, seval, ax_, as_] <;> (split <;> rfl)) (by simp only [a2_, go_sem, seval, ax_, as_] <;> (simp at h17; rw [T1_ h17, if_pos (by simpa using hI)]; simp [peel, leV, ba_, bi_, T1_, h17])) (by simp only [go_sem, seval, ax_, as_])
theorem yx_ (l : List Str) (hl : l.length < 4611686018427387904) : ACall En 132 [.sl false (bi_ l)] [] [.i .i64 (co_ l br_)] [] := by
 refine al_ (fn := Tryz.f132) [] Tryz.func132 rfl rfl (by simp) fun C => ?_
 rw [aw_]
 simp only [Tryz.ntmps132, T7_, List.length_nil, Nat.reduceAdd, Nat.reduceSub, List.replicate_succ, List.replicate_zero, List.cons_append, List.nil_append, bo_]
 refine .seq (.rgn [] (by simp only [go_sem, seval, ab_, aa_]; rfl) ?_ ?_)
 ·first | trivial | simp
 refine .seq (.seq (.rgn [] (by simp only [go_sem, seval, ab_, aa_]; rfl) ?_ ?_))
 ·first | trivial | simp
 refine .block (.loopK (fun k : Nat => ⟨[.sl false (bi_ l), .no, .no, .i .i64 k, .no, .no, .no, .no, .no, .no, .no, .no, .no, .no, .no, .no], bc_ [], us []⟩) (fun k : Nat => k ≤ l.length ∧ ∀ x ∈ l.take k, x ≠ br_) (fun k : Nat => l.length - k) (0) ?_ ?_ (fun k hI => ?_))
 ·simp
 ·exact Can.weak (Weak.lit (by simp only [go_sem, seval, ab_, aa_, aq_, leV, ao_, ap_, V.inn, us, T9_, Ta_] <;> (simp)) (by simp only [go_sem, seval, ab_, aa_, aq_, leV, ao_, ap_, V.inn, us, T9_, Ta_]) (by simp only [go_sem, seval, ab_, aa_, aq_, leV, ao_, ap_, V.inn, us, T9_, Ta_]))
 refine .seq (.seq (.rgn [] (by simp only [go_sem, seval, ab_, aa_]; rfl) ?_ ?_))
 ·first | trivial | simp
 refine .condB (by simp only [go_sem, seval, ab_, aa_]; rfl) (by simp only [go_sem, seval, ab_, aa_]) (fun h7 => ?_) (fun h7 => ?_)
 ·refine .skip (.seq (.block (.seq (.rgn [] (by simp only [go_sem, seval, ab_, aa_, cj_ (show k < l.length by simpa using h7)]; rfl) ?_ ?_))))
  ·simp at h7; simp [ab_, h7]
  refine .condB (by simp only [go_sem, seval, ab_, aa_]; rfl) (by simp only [go_sem, seval, ab_, aa_]) (fun h14 => ?_) (fun h14 => ?_)
  ·refine .seq (.rgn [] (by simp only [go_sem, seval, ab_, aa_]; rfl) ?_ ?_)
   ·first | trivial | simp
   refine .ret ⟨.inr rfl, ?_⟩
   exact Out.plain (by simp only [Tryz.results132]; rfl) (by simp only [av_, a3_, go_sem, seval, ab_, aa_] <;> (split <;> rfl)) (by simp only [a2_, go_sem, seval, ab_, aa_] <;> (simp at h7; obtain ⟨g1, g2⟩ := ux_ h7 hI.2 (eq_of_beq h14); unfold co_; rw [if_pos g1, g2])) (by simp only [go_sem, seval, ab_, aa_])
  ·refine .skip (.rgn [] (by simp only [go_sem, seval, ab_, aa_]; rfl) ?_ ?_)
   ·first | trivial | simp
   refine Exists.intro (k + 1) ⟨?_, ?_, ?_⟩
   ·simp at h7; refine ⟨by omega, fun x hx => ?_⟩; rw [List.take_add_one, List.mem_append, T6_ h7] at hx; rcases hx with hx | hx; exact hI.2 x hx; simp at hx; subst hx; simp [T8_, T6_ h7] at h14; exact h14
   ·simp at h7; omega
   exact Can.weak (Weak.lit (by simp only [go_sem, seval, ab_, aa_, aq_, leV, ao_, ap_, V.inn, us, T9_, Ta_] <;> (rw [bd_ (by omega) (by omega)]; simp)) (by simp only [go_sem, seval, ab_, aa_, aq_, leV, ao_, ap_, V.inn, us, T9_, Ta_]) (by simp only [go_sem, seval, ab_, aa_, aq_, leV, ao_, ap_, V.inn, us, T9_, Ta_]))
 ·refine .exit (.seq (.rgn [] (by simp only [go_sem, seval, ab_, aa_]; rfl) ?_ ?_))
  ·first | trivial | simp
  refine .ret ⟨.inr rfl, ?_⟩
  exact Out.plain (by simp only [Tryz.results132]; rfl) (by simp only [av_, a3_, go_sem, seval, ab_, aa_] <;> (split <;> rfl)) (by simp only [a2_, go_sem, seval, ab_, aa_] <;> (simp at h7; have : ¬ br_ ∈ l := fun hm => hI.2 br_ (by rw [T1_ h7]; exact hm) rfl; simp [co_, this])) (by simp only [go_sem, seval, ab_, aa_])
end
section
set_option maxRecDepth 100000
set_option maxHeartbeats 8000000
theorem hq_ {w : List Str} (h : ((w.length : Int) == 0) = false) : 0 < w.length := by
 rw [beq_eq_false_iff_ne] at h; omega
end
section
set_option maxRecDepth 100000
set_option maxHeartbeats 8000000
theorem l7if {w : List Str} {b : Bool} (h : ((w.getD 0 [] == [105, 102] && decide (co_ w [58] > 0)) && atI w (co_ w [58] + 1) == [112, 114, 105, 110, 116]) = b) : (b = true ↔ (w.getD 0 [] = wIf ∧ 0 < co_ w br_ ∧ w.getD ((co_ w br_).toNat + 1) [] = b9_)) := by
 have e : 0 < co_ w [58] → atI w (co_ w [58] + 1) = w.getD ((co_ w [58]).toNat + 1) [] := fun q => by
  unfold atI
  rw [if_pos (by omega), show (co_ w [58] + 1).toNat = (co_ w [58]).toNat + 1 by omega]
 rw [← h]
 simp only [T5_, beq_iff_eq, T3_, wIf, br_, b9_, and_assoc]
 constructor
 ·rintro ⟨a, b, c⟩; exact ⟨a, b, by rw [← e b]; exact c⟩
 ·rintro ⟨a, b, c⟩; exact ⟨a, b, by rw [e b]; exact c⟩
theorem afz_ {w : List Str} (h : w.getD ((co_ w br_).toNat + 1) [] = b9_) : (co_ w br_).toNat + 1 < w.length := fv_ fun e => by rw [e] at h; exact absurd h (by decide)
theorem l7eq {w : List Str} {b : Bool} (h : (atI w 1 == [61]) = b) : (b = true ↔ w.getD 1 [] = wEq) := by
 rw [← h, show atI w 1 = w.getD 1 [] from rfl]; simp [wEq]
theorem aau_ (w : List Str) (hw : smW w) (hl : w.length ≤ 100000) : ACall En 80 [.sl false (bi_ w)] [] [.ag (bC (d9_ w).1), .b (d9_ w).2] [] := by
 have hs := xf_ w br_
 have hss := yx_ w (by omega)
 simp only [br_] at hs hss
 have hsw : IntKind.i64.wrap (co_ w [58] + 2) = co_ w [58] + 2 := bd_ (by omega) (by omega)
 have hsw1 : IntKind.i64.wrap (co_ w [58] + 1) = co_ w [58] + 1 := bd_ (by omega) (by omega)
 have ht : 0 < co_ w [58] → (co_ w [58] + 2).toNat = (co_ w [58]).toNat + 2 := fun h => by omega
 refine al_ (fn := Tryz.f80) [] Tryz.func80 rfl rfl (by simp) fun C => ?_
 rw [aw_]
 simp only [Tryz.ntmps80, T7_, List.length_nil, Nat.reduceAdd, Nat.reduceSub, List.replicate_succ, List.replicate_zero, List.cons_append, List.nil_append, bo_]
 refine .seq (.rgn [] (by simp only [go_sem, seval, ab_, aa_, a7_, a6_, br_, hsw, hsw1, ay_, a4_]; rfl) ?_ ?_)
 ·(first | trivial | (simp; done) | (simp [a9_]; done) | (simp [a9_]; omega) | (have := hq_ h15; omega))
 refine .seq (.rgn [a1_ hss] (by simp only [go_sem, seval, ab_, aa_, a7_, a6_, br_, hsw, hsw1, ay_, a4_]; rfl) ?_ ?_)
 ·(first | trivial | (simp; done) | (simp [a9_]; done) | (simp [a9_]; omega) | (have := hq_ h15; omega))
 refine .seq (.block (.seq (.rgn [] (by simp only [go_sem, seval, ab_, aa_, a7_, a6_, br_, hsw, hsw1, ay_, a4_]; rfl) ?_ ?_)))
 ·(first | trivial | (simp; done) | (simp [a9_]; done) | (simp [a9_]; omega) | (have := hq_ h15; omega))
 refine .condB (by simp only [go_sem, seval, ab_, aa_, a7_, a6_, br_, hsw, hsw1, ay_, a4_]; rfl) (by simp only [go_sem, seval, ab_, aa_, a7_, a6_, br_, hsw, hsw1, ay_, a4_]) (fun h15 => ?_) (fun h15 => ?_)
 ·refine .seq (.rgn [] (by simp only [go_sem, seval, ab_, aa_, a7_, a6_, br_, hsw, hsw1, ay_, a4_]; rfl) ?_ ?_)
  ·(first | trivial | (simp; done) | (simp [a9_]; done) | (simp [a9_]; omega) | (have := hq_ h15; omega))
  refine .ret ⟨.inr rfl, ?_⟩
  exact Out.plainL (by simp only [Tryz.results80]; rfl) (by simp only [av_, a3_, go_sem, seval, ab_, aa_, a7_, a6_, br_, hsw, hsw1, ay_, a4_] <;> (split <;> rfl)) (by simp only [a2_, go_sem, seval, ab_, aa_, a7_, a6_, br_, hsw, hsw1, ay_, a4_] <;> ((have e : d9_ w = (B0, true) := (by unfold d9_; rw [if_pos (by simpa using h15)])); rw [e, ae_]; simp [les, leV, ler, ba_, gz_, gx_, g0_, cy_, dn_, B0])) (by simp only [go_sem, seval, ab_, aa_, a7_, a6_, br_, hsw, hsw1, ay_, a4_])
 ·refine .seq (.rgn [] (by simp only [go_sem, seval, ab_, aa_, a7_, a6_, br_, hsw, hsw1, ay_, a4_, cj_ (hq_ h15)]; rfl) ?_ ?_)
  ·(first | trivial | (simp; done) | (simp [a9_]; done) | (simp [a9_]; omega) | (have := hq_ h15; omega))
  refine .condB (by simp only [go_sem, seval, ab_, aa_, a7_, a6_, br_, hsw, hsw1, ay_, a4_]; rfl) (by simp only [go_sem, seval, ab_, aa_, a7_, a6_, br_, hsw, hsw1, ay_, a4_]) (fun h20 => ?_) (fun h20 => ?_)
  ·refine .seq (.rgn [a1_ (gu_ (w.drop 1) (dx_ hw 1) (by simp; omega))] (by simp only [go_sem, seval, ab_, aa_, a7_, a6_, br_, hsw, hsw1, ay_, a4_]; rfl) ?_ ?_)
   ·have h5 := hq_ h15; refine ⟨⟨by omega, .inr (of_eq_true (a9_ w))⟩, ?_⟩; rw [List.take_length]; exact ba_ _
   refine .seq (.rgn [] (by simp only [go_sem, seval, ab_, aa_, a7_, a6_, br_, hsw, hsw1, ay_, a4_]; rfl) ?_ ?_)
   ·(first | trivial | (simp; done) | (simp [a9_]; done) | (simp [a9_]; omega) | (have := hq_ h15; omega))
   refine .ret ⟨.inr rfl, ?_⟩
   exact Out.plainL (by simp only [Tryz.results80]; rfl) (by simp only [av_, a3_, go_sem, seval, ab_, aa_, a7_, a6_, br_, hsw, hsw1, ay_, a4_] <;> (split <;> rfl)) (by simp only [a2_, go_sem, seval, ab_, aa_, a7_, a6_, br_, hsw, hsw1, ay_, a4_] <;> ((have e : d9_ w = (⟨2, [], ex (w.drop 1), E0⟩, jv_ (w.drop 1)) := (by have := hq_ h15; unfold d9_; rw [if_neg (by omega), if_pos (by simpa [b9_] using h20)]; rfl)); rw [e, ae_]; simp [les, leV, ler, ba_, gz_, gx_, g0_, cy_, dn_, jv_])) (by simp only [go_sem, seval, ab_, aa_, a7_, a6_, br_, hsw, hsw1, ay_, a4_])
  ·refine .seq (.rgn [a1_ (hz_ w (co_ w [58] + 1))] (by simp only [go_sem, seval, ab_, aa_, a7_, a6_, br_, hsw, hsw1, ay_, a4_, cj_ (hq_ h15)]; rfl) ?_ ?_)
   ·(first | trivial | (simp; done) | (simp [a9_]; done) | (simp [a9_]; omega) | (have := hq_ h15; omega))
   refine .condB (by simp only [go_sem, seval, ab_, aa_, a7_, a6_, br_, hsw, hsw1, ay_, a4_]; rfl) (by simp only [go_sem, seval, ab_, aa_, a7_, a6_, br_, hsw, hsw1, ay_, a4_]) (fun h34 => ?_) (fun h34 => ?_)
   ·refine .seq (.rgn [a1_ (gu_ ((w.take (co_ w br_).toNat).drop 1) (dx_ (j5_ hw _) 1) (by simp; omega))] (by simp only [go_sem, seval, ab_, aa_, a7_, a6_, br_, hsw, hsw1, ay_, a4_]; rfl) ?_ ?_)
    ·have h5 := ((l7if h34).1 rfl).2.1; simp only [br_] at h5; exact ⟨⟨by omega, by omega, by omega, fun h => absurd rfl h⟩, .inr (of_eq_true (a9_ w))⟩
    refine .seq (.rgn [a1_ (gu_ (w.drop ((co_ w br_).toNat + 2)) (dx_ hw _) (by simp; omega))] (by simp only [go_sem, seval, ab_, aa_, a7_, a6_, br_, hsw, hsw1, ay_, a4_]; rfl) ?_ ?_)
    ·have h5 := ((l7if h34).1 rfl).2; have h6 := afz_ h5.2; simp only [br_] at h5 h6; refine ⟨⟨by omega, .inr (of_eq_true (a9_ w))⟩, ?_⟩; rw [List.take_length, ht h5.1]; exact ba_ _
    refine .seq (.rgn [] (by simp only [go_sem, seval, ab_, aa_, a7_, a6_, br_, hsw, hsw1, ay_, a4_]; rfl) ?_ ?_)
    ·(first | trivial | (simp; done) | (simp [a9_]; done) | (simp [a9_]; omega) | (have := hq_ h15; omega))
    refine .ret ⟨.inr rfl, ?_⟩
    exact Out.plainL (by simp only [Tryz.results80]; rfl) (by simp only [av_, a3_, go_sem, seval, ab_, aa_, a7_, a6_, br_, hsw, hsw1, ay_, a4_] <;> (split <;> rfl)) (by simp only [a2_, go_sem, seval, ab_, aa_, a7_, a6_, br_, hsw, hsw1, ay_, a4_] <;> ((have e : d9_ w = (⟨3, [], ex ((w.take (co_ w br_).toNat).drop 1), ex (w.drop ((co_ w br_).toNat + 2))⟩, jv_ ((w.take (co_ w br_).toNat).drop 1) && jv_ (w.drop ((co_ w br_).toNat + 2))) := (by have := hq_ h15; unfold d9_; rw [if_neg (by omega), if_neg (by simpa [b9_] using h20), if_pos ((l7if h34).1 rfl)]; rfl)); rw [e, ae_]; simp [br_, les, leV, ler, ba_, gz_, gx_, g0_, cy_, dn_, jv_])) (by simp only [go_sem, seval, ab_, aa_, a7_, a6_, br_, hsw, hsw1, ay_, a4_])
   ·refine .seq (.rgn [a1_ (hz_ w 1)] (by simp only [go_sem, seval, ab_, aa_, a7_, a6_, br_, hsw, hsw1, ay_, a4_]; rfl) ?_ ?_)
    ·(first | trivial | (simp; done) | (simp [a9_]; done) | (simp [a9_]; omega) | (have := hq_ h15; omega))
    refine .condB (by simp only [go_sem, seval, ab_, aa_, a7_, a6_, br_, hsw, hsw1, ay_, a4_]; rfl) (by simp only [go_sem, seval, ab_, aa_, a7_, a6_, br_, hsw, hsw1, ay_, a4_]) (fun h72 => ?_) (fun h72 => ?_)
    ·refine .seq (.rgn [a1_ (gu_ (w.drop 2) (dx_ hw 2) (by simp; omega))] (by simp only [go_sem, seval, ab_, aa_, a7_, a6_, br_, hsw, hsw1, ay_, a4_]; rfl) ?_ ?_)
     ·have h5 : 1 < w.length := fv_ (by rw [(l7eq h72).1 rfl]; decide); refine ⟨⟨by omega, .inr (of_eq_true (a9_ w))⟩, ?_⟩; rw [List.take_length]; exact ba_ _
     refine .seq (.rgnD [] enM (by simp only [go_sem, seval, ab_, aa_, a7_, a6_, br_, hsw, hsw1, ay_, a4_, cj_ (hq_ h15)]; rfl) (by rfl) ?_ ?_)
     ·have := hq_ h15; exact ⟨by omega, rfl⟩
     refine .ret ⟨.inr rfl, ?_⟩
     exact Out.plainL (by simp only [Tryz.results80]; rfl) (by simp only [av_, a3_, go_sem, seval, ab_, aa_, a7_, a6_, br_, hsw, hsw1, ay_, a4_] <;> (split <;> rfl)) (by simp only [a2_, go_sem, seval, ab_, aa_, a7_, a6_, br_, hsw, hsw1, ay_, a4_] <;> ((have e : d9_ w = (⟨1, w.getD 0 [], ex (w.drop 2), E0⟩, jv_ (w.drop 2)) := (by have := hq_ h15; unfold d9_; rw [if_neg (by omega), if_neg (by simpa [b9_] using h20), if_neg (fun h => absurd ((l7if h34).2 h) (by decide)), if_pos ((l7eq h72).1 rfl)]; rfl)); rw [e, ae_]; simp [les, leV, ler, ba_, gz_, gx_, g0_, cy_, dn_, jv_])) (by simp only [go_sem, seval, ab_, aa_, a7_, a6_, br_, hsw, hsw1, ay_, a4_])
    ·refine .skip (.seq (.rgn [] (by simp only [go_sem, seval, ab_, aa_, a7_, a6_, br_, hsw, hsw1, ay_, a4_]; rfl) ?_ ?_))
     ·(first | trivial | (simp; done) | (simp [a9_]; done) | (simp [a9_]; omega) | (have := hq_ h15; omega))
     refine .ret ⟨.inr rfl, ?_⟩
     exact Out.plainL (by simp only [Tryz.results80]; rfl) (by simp only [av_, a3_, go_sem, seval, ab_, aa_, a7_, a6_, br_, hsw, hsw1, ay_, a4_] <;> (split <;> rfl)) (by simp only [a2_, go_sem, seval, ab_, aa_, a7_, a6_, br_, hsw, hsw1, ay_, a4_] <;> ((have e : d9_ w = (B0, false) := (by have := hq_ h15; unfold d9_; rw [if_neg (by omega), if_neg (by simpa [b9_] using h20), if_neg (fun h => absurd ((l7if h34).2 h) (by decide)), if_neg (fun h => absurd ((l7eq h72).2 h) (by decide))])); rw [e, ae_]; simp [les, leV, ler, ba_, gz_, gx_, g0_, cy_, dn_, B0])) (by simp only [go_sem, seval, ab_, aa_, a7_, a6_, br_, hsw, hsw1, ay_, a4_])
theorem l8_ {line : Str} (h : ¬ ((b4_ line).isSome = true ∧ (d9_ (cl_ line)).2 = true ∧ bok (d9_ (cl_ line)).1 = true ∧ b1_ (bw (d9_ (cl_ line)).1) = line)) : js_ line = none := by
 unfold js_ cl_ at *
 cases ht : b4_ line with
 | none => rfl
 | some ts =>
  rw [ht] at h
  simp only [Option.getD_some] at h
  dsimp only
  rw [if_neg]
  exact fun q => h ⟨rfl, q⟩
theorem uu_ {line : Str} (h : (b4_ line).isSome = true) (h0 : (d9_ (cl_ line)).2 = true) (h1 : bok (d9_ (cl_ line)).1 = true) (h2 : b1_ (bw (d9_ (cl_ line)).1) = line) : js_ line = some (d9_ (cl_ line)).1 := by
 unfold js_ cl_ at *
 cases ht : b4_ line with
 | none => rw [ht] at h; cases h
 | some ts =>
  rw [ht] at h0 h1 h2
  simp only [Option.getD_some] at h0 h1 h2 ⊢
  rw [if_pos ⟨h0, h1, h2⟩]
theorem aev_ {w : List Str} (h : smW w) : smb (d9_ w).1 = true := by
 have g := xt_ h
 have e := fun k => w8_ (dx_ h k)
 have e0 : sm E0 = true := by decide
 unfold d9_
 split
 ·decide
 ·split
  ·simp only [smb, e, e0, Bool.and_true]; rfl
  ·split
   ·simp only [smb, e, w8_ (dx_ (j5_ h _) 1), Bool.and_true]; rfl
   ·split
    ·simp only [smb, e, e0, Bool.and_true, T3_]; have := g 0; omega
    ·decide
theorem l5_ (line : Str) (hl : line.length ≤ 281474976710656) : ACall En 26 [.s line] [] [.ag (bC ((c7_ line).getD B0)), .b (c7_ line).isSome] [] := by
 obtain ⟨w1, w2⟩ := m1_ line
 have hs := aev_ w1
 rw [acs_]
 refine al_ (fn := Tryz.f26) [] Tryz.func26 rfl rfl (by simp) fun C => ?_
 rw [aw_]
 simp only [Tryz.ntmps26, T7_, List.length_nil, Nat.reduceAdd, Nat.reduceSub, List.replicate_succ, List.replicate_zero, List.cons_append, List.nil_append, bo_]
 refine .seq (.rgn [] (by simp only [go_sem, seval, aa_, ay_, ae_]; rfl) ?_ ?_)
 ·first | trivial | simp
 refine .seq (.rgn [a1_ (aaj_ line hl)] (by simp only [go_sem, seval, aa_, ay_, ae_]; rfl) ?_ ?_)
 ·first | trivial | simp
 refine .seq (.seq (.rgn [] (by simp only [go_sem, seval, aa_, ay_, ae_]; rfl) ?_ ?_))
 ·first | trivial | simp
 refine .condB (by simp only [go_sem, seval, aa_, ay_, ae_]; rfl) (by simp only [go_sem, seval, aa_, ay_, ae_]) (fun h14 => ?_) (fun h14 => ?_)
 ·refine .seq (.rgn [] (by simp only [go_sem, seval, aa_, ay_, ae_]; rfl) ?_ ?_)
  ·first | trivial | simp
  refine .ret ⟨.inr rfl, ?_⟩
  exact Out.plainL (by simp only [Tryz.results26]; rfl) (by simp only [av_, a3_, go_sem, seval, aa_, ay_, ae_] <;> (split <;> rfl)) (by simp only [a2_, go_sem, seval, aa_, ay_, ae_] <;> (rw [l8_ (fun q => by rw [q.1] at h14; simp at h14)]; simp [B0, les, leV, ler, ba_, gz_, gx_, g0_, cy_, dn_])) (by simp only [go_sem, seval, aa_, ay_, ae_])
 ·refine .skip (.seq (.rgn [a1_ (aau_ (cl_ line) w1 (by omega))] (by simp only [go_sem, seval, aa_, ay_, ae_]; rfl) ?_ ?_))
  ·first | trivial | simp
  refine .seq (.seq (.rgn [a1_ (f5_ (d9_ (cl_ line)).1 hs), ck_ (bok (d9_ (cl_ line)).1 = true) (fun h => i3_ (d9_ (cl_ line)).1 (of_ h) hs), ck_ (bok (d9_ (cl_ line)).1 = true) (fun h => hu_ (bw (d9_ (cl_ line)).1) (by have := (p6_ (of_ h)).1; omega) (by have := j1_ (of_ h); omega))] (by simp only [go_sem, seval, aa_, ay_, ae_]; rfl) ?_ ?_))
  ·first | trivial | simp
  refine .condB (by simp only [go_sem, seval, aa_, ay_, ae_]; rfl) (by simp only [go_sem, seval, aa_, ay_, ae_]) (fun h34 => ?_) (fun h34 => ?_)
  ·refine .seq (.rgn [] (by simp only [go_sem, seval, aa_, ay_, ae_]; rfl) ?_ ?_)
   ·first | trivial | simp
   refine .ret ⟨.inr rfl, ?_⟩
   exact Out.plainL (by simp only [Tryz.results26]; rfl) (by simp only [av_, a3_, go_sem, seval, aa_, ay_, ae_] <;> (split <;> rfl)) (by simp only [a2_, go_sem, seval, aa_, ay_, ae_] <;> (rw [l8_ (by intro q; simp [q.1, q.2.1, q.2.2] at h34)]; simp [B0, les, leV, ler, ba_, gz_, gx_, g0_, cy_, dn_])) (by simp only [go_sem, seval, aa_, ay_, ae_])
  ·refine .skip (.seq (.rgn [] (by simp only [go_sem, seval, aa_, ay_, ae_]; rfl) ?_ ?_))
   ·first | trivial | simp
   refine .ret ⟨.inr rfl, ?_⟩
   exact Out.plainL (by simp only [Tryz.results26]; rfl) (by simp only [av_, a3_, go_sem, seval, aa_, ay_, ae_] <;> (split <;> rfl)) (by simp only [a2_, go_sem, seval, aa_, ay_, ae_] <;> (rw [uu_ (by simp at h14; exact h14) (by simp at h34; exact h34.1.1) (by simp at h34; exact h34.1.2) (by simp at h34; exact h34.2)]; simp [les, leV, ler, ba_])) (by simp only [go_sem, seval, aa_, ay_, ae_])
end
end Go.Proofs.YtpikbndepapbhabGreatDoor
