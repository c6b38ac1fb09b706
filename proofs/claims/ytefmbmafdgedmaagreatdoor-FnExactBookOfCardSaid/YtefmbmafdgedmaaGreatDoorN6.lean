/- The words of a line; where a word stands: the reference's. Conditions: none. -/
import Derived.Test.YtefmbmafdgedmaaGreatDoorN5
import Derived.Test.YtefmbmafdgedmaaGreatDoorNg
import Derived.Test.YtefmbmafdgedmaaGreatDoorNl
import Derived.Test.YtefmbmafdgedmaaGreatDoorNi
set_option linter.unusedVariables false
set_option linter.unusedSimpArgs false
namespace Go.Proofs.YtefmbmafdgedmaaGreatDoor
section
set_option maxRecDepth 100000
set_option maxHeartbeats 4000000
theorem aak_ (s : Str) (hs : s.length ≤ 281474976710656) : ACall En 58 [.s s] [] [.sl false (bm_ (c6_ s)), .b (cg_ s).isSome] [] := by
 have T := vo_ s hs
 have hb := oa_ s
 unfold c6_
 generalize (cg_ s).getD [] = ts at *
 refine ah_ (fn := Tryz.f58) [] Tryz.func58 rfl rfl (by simp) fun C => ?_
 rw [ar_]
 simp only [Tryz.ntmps58, List.length_cons, List.length_nil, Nat.reduceAdd, Nat.reduceSub, List.replicate_succ, List.replicate_zero, List.cons_append, List.nil_append, bd_]
 refine .seq (.rgn [] (by simp only [go_sem, seval, ao_, aj_]; rfl) ?_ ?_)
 ·(first | trivial | (simp; done) | (simp only [decide_eq_true_eq] at h17; simp [bm_, cc_]; omega))
 refine .seq (.rgn [a2_ T] (by simp only [go_sem, seval, ao_, aj_]; rfl) ?_ ?_)
 ·(first | trivial | (simp; done) | (simp only [decide_eq_true_eq] at h17; simp [bm_, cc_]; omega))
 refine .seq (.rgn [] (by simp only [go_sem, seval, ao_, aj_]; rfl) ?_ ?_)
 ·(first | trivial | (simp; done) | (simp only [decide_eq_true_eq] at h17; simp [bm_, cc_]; omega))
 refine .seq (.seq (.rgn [] (by simp only [go_sem, seval, ao_, aj_]; rfl) ?_ ?_))
 ·(first | trivial | (simp; done) | (simp only [decide_eq_true_eq] at h17; simp [bm_, cc_]; omega))
 refine .block (.loopK (fun k : Nat => ⟨[.no, .no, .no, .no, .sl false (tkR ts), .b (cg_ s).isSome, .ow 23 1 0 k, .i .i64 k, .no, .no, .no, .no, .no, .no, .no, .no, .no, .no, .no, .no, .no, .no, .no, .no, .no, .no, .no, .no, .no, .no], aw_ [(23, ⟨9, 1, bm_ ((ts.take k).map (·.s))⟩)], us [23]⟩) (fun k : Nat => k ≤ ts.length) (fun k : Nat => ts.length - k) (0) ?_ ?_ (fun k hI => ?_))
 ·simp
 ·refine Can.trans (Can.ownSlot 6 23 9 1 (by simp only [go_sem, seval, ao_, aj_] <;> rfl) (by simp only [go_sem, seval, ao_, aj_]) (by simp only [go_sem, seval, ao_, aj_] <;> rfl)) ?_
  exact Can.weak (Weak.lit (by simp only [go_sem, seval, ao_, aj_, an_, leV, al_, am_, V.inn, us, true_or, or_true] <;> ((try simp))) (by simp only [go_sem, seval, ao_, aj_, an_, leV, al_, am_, V.inn, us, true_or, or_true]) (by simp only [go_sem, seval, ao_, aj_, an_, leV, al_, am_, V.inn, us, true_or, or_true] <;> ((try simp [bm_]))))
 refine .seq (.seq (.rgn [] (by simp only [go_sem, seval, ao_, aj_]; rfl) ?_ ?_))
 ·(first | trivial | (simp; done) | (simp only [decide_eq_true_eq] at h17; simp [bm_, cc_]; omega))
 refine .condB (by simp only [go_sem, seval, ao_, aj_]; rfl) (by simp only [go_sem, seval, ao_, aj_]) (fun h17 => ?_) (fun h17 => ?_)
 ·refine .skip (.seq (.block (.rgn [] (by simp only [go_sem, seval, ao_, aj_, ws_ (show k < ts.length by simpa using h17)]; rfl) ?_ ?_)))
  ·(first | trivial | (simp; done) | (simp only [decide_eq_true_eq] at h17; simp [bm_, cc_]; omega))
  refine .rgn [] (by simp only [go_sem, seval, ao_, aj_]; rfl) ?_ ?_
  ·(first | trivial | (simp; done) | (simp only [decide_eq_true_eq] at h17; simp [bm_, cc_]; omega))
  refine Exists.intro (k + 1) ⟨?_, ?_, ?_⟩
  ·simp at h17; omega
  ·simp at h17; omega
  refine Can.trans (Can.swap 37 23 (by decide) (by decide) (by decide) (by decide) (by simp only [go_sem, seval, ao_, aj_, V.cl]) (by simp only [go_sem, seval, ao_, aj_, V.cl]) (by simp only [go_sem, seval, ao_, aj_, bn_, sw, swM, rnB] <;> rfl) (by simp only [go_sem, seval, ao_, aj_, bn_, sw, swM, rnB] <;> rfl) (by simp only [go_sem, seval, ao_, aj_, bn_, sw, swM, rnB] <;> rfl)) ?_
  exact Can.weak (Weak.lit (by simp only [go_sem, seval, ao_, aj_, an_, leV, al_, am_, V.inn, us, true_or, or_true] <;> (rw [bc_ (by simp at h17; omega) (by simp at h17; omega)]; (try simp))) (by simp only [go_sem, seval, ao_, aj_, an_, leV, al_, am_, V.inn, us, true_or, or_true]) (by simp only [go_sem, seval, ao_, aj_, an_, leV, al_, am_, V.inn, us, true_or, or_true] <;> (simp only [decide_eq_true_eq] at h17; rw [List.take_add_one, List.getElem?_eq_getElem (show k < ts.length by omega)]; simp [-List.map_take, -List.take_append_getElem, bm_, List.getD_eq_getElem?_getD, List.getElem?_eq_getElem (show k < ts.length by omega)])))
 ·refine .exit (.seq (.rgn [] (by simp only [go_sem, seval, ao_, aj_]; rfl) ?_ ?_))
  ·(first | trivial | (simp; done) | (simp only [decide_eq_true_eq] at h17; simp [bm_, cc_]; omega))
  refine .frz 23 (by simp only [go_sem, seval, ao_, aj_]; rfl) (by simp only [go_sem, seval, ao_, aj_]) (by simp only [go_sem, seval, ao_, aj_]; rfl) (by simp only [go_sem, seval, ao_, aj_]; rfl) ?_
  refine .ret ⟨.inr rfl, ?_⟩
  exact Out.plainL (by simp only [Tryz.results58]; rfl) (by simp only [aq_, a8_, go_sem, seval, ao_, aj_] <;> (split <;> rfl)) (by simp only [a7_, go_sem, seval, ao_, aj_] <;> (simp at h17; rw [List.take_of_length_le h17, if_pos (by simpa using hI)]; simp [peel, leV, ba_, bm_, List.take_of_length_le, h17])) (by simp only [go_sem, seval, ao_, aj_])
theorem aeh_ (l : List Str) (hl : l.length < 4611686018427387904) : ACall En 209 [.sl false (bm_ l)] [] [.i .i64 (dy_ l bj_)] [] := by
 refine ah_ (fn := Tryz.f209) [] Tryz.func209 rfl rfl (by simp) fun C => ?_
 rw [ar_]
 simp only [Tryz.ntmps209, List.length_cons, List.length_nil, Nat.reduceAdd, Nat.reduceSub, List.replicate_succ, List.replicate_zero, List.cons_append, List.nil_append, bd_]
 refine .seq (.rgn [] (by simp only [go_sem, seval, ab_, aa_]; rfl) ?_ ?_)
 ·first | trivial | simp
 refine .seq (.seq (.rgn [] (by simp only [go_sem, seval, ab_, aa_]; rfl) ?_ ?_))
 ·first | trivial | simp
 refine .block (.loopK (fun k : Nat => ⟨[.sl false (bm_ l), .no, .no, .i .i64 k, .no, .no, .no, .no, .no, .no, .no, .no, .no, .no, .no, .no], aw_ [], us []⟩) (fun k : Nat => k ≤ l.length ∧ ∀ x ∈ l.take k, x ≠ bj_) (fun k : Nat => l.length - k) (0) ?_ ?_ (fun k hI => ?_))
 ·simp
 ·exact Can.weak (Weak.lit (by simp only [go_sem, seval, ab_, aa_, an_, leV, al_, am_, V.inn, us, true_or, or_true] <;> (simp)) (by simp only [go_sem, seval, ab_, aa_, an_, leV, al_, am_, V.inn, us, true_or, or_true]) (by simp only [go_sem, seval, ab_, aa_, an_, leV, al_, am_, V.inn, us, true_or, or_true]))
 refine .seq (.seq (.rgn [] (by simp only [go_sem, seval, ab_, aa_]; rfl) ?_ ?_))
 ·first | trivial | simp
 refine .condB (by simp only [go_sem, seval, ab_, aa_]; rfl) (by simp only [go_sem, seval, ab_, aa_]) (fun h7 => ?_) (fun h7 => ?_)
 ·refine .skip (.seq (.block (.seq (.rgn [] (by simp only [go_sem, seval, ab_, aa_, co_ (show k < l.length by simpa using h7)]; rfl) ?_ ?_))))
  ·simp at h7; simp [ab_, h7]
  refine .condB (by simp only [go_sem, seval, ab_, aa_]; rfl) (by simp only [go_sem, seval, ab_, aa_]) (fun h14 => ?_) (fun h14 => ?_)
  ·refine .seq (.rgn [] (by simp only [go_sem, seval, ab_, aa_]; rfl) ?_ ?_)
   ·first | trivial | simp
   refine .ret ⟨.inr rfl, ?_⟩
   exact Out.plain (by simp only [Tryz.results209]; rfl) (by simp only [aq_, a8_, go_sem, seval, ab_, aa_] <;> (split <;> rfl)) (by simp only [a7_, go_sem, seval, ab_, aa_] <;> (simp at h7; obtain ⟨g1, g2⟩ := t1_ h7 hI.2 (eq_of_beq h14); unfold dy_; rw [if_pos g1, g2])) (by simp only [go_sem, seval, ab_, aa_])
  ·refine .skip (.rgn [] (by simp only [go_sem, seval, ab_, aa_]; rfl) ?_ ?_)
   ·first | trivial | simp
   refine Exists.intro (k + 1) ⟨?_, ?_, ?_⟩
   ·simp at h7; refine ⟨by omega, fun x hx => ?_⟩; rw [List.take_add_one, List.mem_append, List.getElem?_eq_getElem h7] at hx; rcases hx with hx | hx; exact hI.2 x hx; simp at hx; subst hx; simp [List.getD_eq_getElem?_getD, List.getElem?_eq_getElem h7] at h14; exact h14
   ·simp at h7; omega
   exact Can.weak (Weak.lit (by simp only [go_sem, seval, ab_, aa_, an_, leV, al_, am_, V.inn, us, true_or, or_true] <;> (rw [bc_ (by omega) (by omega)]; simp)) (by simp only [go_sem, seval, ab_, aa_, an_, leV, al_, am_, V.inn, us, true_or, or_true]) (by simp only [go_sem, seval, ab_, aa_, an_, leV, al_, am_, V.inn, us, true_or, or_true]))
 ·refine .exit (.seq (.rgn [] (by simp only [go_sem, seval, ab_, aa_]; rfl) ?_ ?_))
  ·first | trivial | simp
  refine .ret ⟨.inr rfl, ?_⟩
  exact Out.plain (by simp only [Tryz.results209]; rfl) (by simp only [aq_, a8_, go_sem, seval, ab_, aa_] <;> (split <;> rfl)) (by simp only [a7_, go_sem, seval, ab_, aa_] <;> (simp at h7; have : ¬ bj_ ∈ l := fun hm => hI.2 bj_ (by rw [List.take_of_length_le h7]; exact hm) rfl; simp [dy_, this])) (by simp only [go_sem, seval, ab_, aa_])
end
section
set_option maxRecDepth 100000
set_option maxHeartbeats 8000000
theorem sk_ (w : List Str) (k : Nat) (c : Bool) (hc : c = true → k < w.length) : (c = true → c = true ∧ (k : Int) < w.length ∧ ((bm_ w).getD k []).length = 1) ∧ (c = true → (c = true ∧ 1 ≤ ((bm_ w).getD k []).length) ∧ ({ v := ((bm_ w).getD k []).getD 0 .no } : Eff) = { v := .s (w.getD k []) }) := by
 have e := fun h => co_ (l := w) (hc h)
 exact ⟨fun h => ⟨h, by have := hc h; omega, by rw [e h]; rfl⟩, fun h => ⟨⟨h, by rw [e h]; exact Nat.le_refl _⟩, by rw [e h]; rfl⟩⟩
theorem og_ {w : List Str} (h : ((w.length : Int) == 0) = false) : 0 < w.length := by
 rw [beq_eq_false_iff_ne] at h; omega
theorem qn_ {w : List Str} {b : Bool} (h : (w.getD 0 [] == [108, 101, 116] && decide ((w.length : Int) > 5) && w.getD 2 [] == [58] && w.getD 4 [] == [61]) = b) : (b = true ↔ (w.getD 0 [] = hn_ ∧ 5 < w.length ∧ w.getD 2 [] = g7_ ∧ w.getD 4 [] = wEq)) := by
 rw [← h]
 simp only [Bool.and_eq_true, beq_iff_eq, decide_eq_true_eq, hn_, g7_, wEq, and_assoc]
 constructor
 ·rintro ⟨a, b, c, d⟩; exact ⟨a, by omega, c, d⟩
 ·rintro ⟨a, b, c, d⟩; exact ⟨a, by omega, c, d⟩
theorem sa_ {w : List Str} {b : Bool} (h : (w.getD 0 [] == [119, 104, 101, 110] && decide (dy_ w [115, 97, 121] > 0)) = b) : (b = true ↔ (w.getD 0 [] = dr_ ∧ 0 < dy_ w bj_)) := by
 rw [← h]
 simp only [Bool.and_eq_true, beq_iff_eq, decide_eq_true_eq, dr_, bj_]
 try exact Iff.rfl
theorem abn_ (w : List Str) (hw : smW w) (hl : w.length ≤ 100000) : ACall En 176 [.sl false (bm_ w)] [] [.ag (sC (et_ w).1), .b (et_ w).2] [] := by
 have hs := wk_ w bj_
 have hss := aeh_ w (by omega)
 simp only [bj_] at hs hss
 have hsw : IntKind.i64.wrap (dy_ w [115, 97, 121] + 1) = dy_ w [115, 97, 121] + 1 := bc_ (by omega) (by omega)
 have ht : 0 < dy_ w [115, 97, 121] → (dy_ w [115, 97, 121] + 1).toNat = (dy_ w [115, 97, 121]).toNat + 1 := fun h => by omega
 refine ah_ (fn := Tryz.f176) [] Tryz.func176 rfl rfl (by simp) fun C => ?_
 rw [ar_]
 simp only [Tryz.ntmps176, List.length_cons, List.length_nil, Nat.reduceAdd, Nat.reduceSub, List.replicate_succ, List.replicate_zero, List.cons_append, List.nil_append, bd_]
 refine .seq (.rgn [] (by simp only [go_sem, seval, asO, ab_, aa_, az_, a0_, bj_, hsw, au_, a3_]; rfl) ?_ ?_)
 ·(first | trivial | (simp; done) | (simp [a6_]; done) | (simp [a6_]; omega))
 refine .seq (.rgn [] (by simp only [go_sem, seval, asO, ab_, aa_, az_, a0_, bj_, hsw, au_, a3_]; rfl) ?_ ?_)
 ·(first | trivial | (simp; done) | (simp [a6_]; done) | (simp [a6_]; omega))
 refine .seq (.block (.seq (.rgn [] (by simp only [go_sem, seval, asO, ab_, aa_, az_, a0_, bj_, hsw, au_, a3_]; rfl) ?_ ?_)))
 ·(first | trivial | (simp; done) | (simp [a6_]; done) | (simp [a6_]; omega))
 refine .condB (by simp only [go_sem, seval, asO, ab_, aa_, az_, a0_, bj_, hsw, au_, a3_]; rfl) (by simp only [go_sem, seval, asO, ab_, aa_, az_, a0_, bj_, hsw, au_, a3_]) (fun h15 => ?_) (fun h15 => ?_)
 ·refine .seq (.rgn [] (by simp only [go_sem, seval, asO, ab_, aa_, az_, a0_, bj_, hsw, au_, a3_]; rfl) ?_ ?_)
  ·(first | trivial | (simp; done) | (simp [a6_]; done) | (simp [a6_]; omega))
  refine .ret ⟨.inr rfl, ?_⟩
  exact Out.plainL (by simp only [Tryz.results176]; rfl) (by simp only [aq_, a8_, go_sem, seval, asO, ab_, aa_, az_, a0_, bj_, hsw, au_, a3_] <;> (split <;> rfl)) (by simp only [a7_, go_sem, seval, asO, ab_, aa_, az_, a0_, bj_, hsw, au_, a3_] <;> ((have e : et_ w = (S0, true) := (by unfold et_; rw [if_pos (by simpa using h15)])); rw [e, ag_]; simp [les, leV, ler, ba_, j9_, jy_, ka_, d9_, e8_, S0])) (by simp only [go_sem, seval, asO, ab_, aa_, az_, a0_, bj_, hsw, au_, a3_])
 ·refine .seq (.rgnS [33, 39] [asO En { v := .s (w.getD 2 []) }, asO En { v := .s (w.getD 4 []) }] (by simp only [go_sem, seval, asO, ab_, aa_, az_, a0_, bj_, hsw, au_, a3_, co_ (og_ h15)]; rfl) ?_ ?_)
  ·have k1 : (w.getD 0 [] == [108, 101, 116] && decide ((w.length : Int) > 5)) = true → 2 < w.length := (fun h => by simp only [Bool.and_eq_true, decide_eq_true_eq] at h; omega); have k2 : (w.getD 0 [] == [108, 101, 116] && decide ((w.length : Int) > 5) && w.getD 2 [] == [58]) = true → 4 < w.length := (fun h => by simp only [Bool.and_eq_true, decide_eq_true_eq] at h; omega); exact ⟨⟨⟨⟨by have := og_ h15; omega, (sk_ w 2 _ k1).1⟩, (sk_ w 2 _ k1).2⟩, (sk_ w 4 _ k2).1⟩, (sk_ w 4 _ k2).2⟩
  refine .condB (by simp only [go_sem, seval, asO, ab_, aa_, az_, a0_, bj_, hsw, au_, a3_]; rfl) (by simp only [go_sem, seval, asO, ab_, aa_, az_, a0_, bj_, hsw, au_, a3_]) (fun h20 => ?_) (fun h20 => ?_)
  ·refine .seq (.rgn [a2_ (hh_ (w.drop 5) (ec_ hw 5) (by simp; omega))] (by simp only [go_sem, seval, asO, ab_, aa_, az_, a0_, bj_, hsw, au_, a3_]; rfl) ?_ ?_)
   ·have h5 := ((qn_ h20).1 rfl).2.1; refine ⟨⟨by omega, .inr (of_eq_true (a6_ w))⟩, ?_⟩; rw [List.take_length]; exact ba_ _
   refine .seq (.rgnD [] enM (by simp only [go_sem, seval, asO, ab_, aa_, az_, a0_, bj_, hsw, au_, a3_, co_ (show 1 < w.length by simp at h20; omega), co_ (show 3 < w.length by simp at h20; omega)]; rfl) (by rfl) ?_ ?_)
   ·have h5 := ((qn_ h20).1 rfl).2.1; exact ⟨by omega, rfl⟩
   refine .ret ⟨.inr rfl, ?_⟩
   exact Out.plainL (by simp only [Tryz.results176]; rfl) (by simp only [aq_, a8_, go_sem, seval, asO, ab_, aa_, az_, a0_, bj_, hsw, au_, a3_] <;> (split <;> rfl)) (by simp only [a7_, go_sem, seval, asO, ab_, aa_, az_, a0_, bj_, hsw, au_, a3_] <;> ((have e : et_ w = (⟨1, w.getD 1 [], w.getD 3 [], ex (w.drop 5), E0⟩, j3_ (w.drop 5)) := (by have := og_ h15; unfold et_; rw [if_neg (by omega), if_pos ((qn_ h20).1 rfl)]; rfl)); rw [e, ag_]; simp [les, leV, ler, ba_, j9_, jy_, ka_, d9_, e8_, j3_])) (by simp only [go_sem, seval, asO, ab_, aa_, az_, a0_, bj_, hsw, au_, a3_])
  ·refine .seq (.rgn [] (by simp only [go_sem, seval, asO, ab_, aa_, az_, a0_, bj_, hsw, au_, a3_, co_ (og_ h15)]; rfl) ?_ ?_)
   ·have := og_ h15; omega
   refine .condB (by simp only [go_sem, seval, asO, ab_, aa_, az_, a0_, bj_, hsw, au_, a3_]; rfl) (by simp only [go_sem, seval, asO, ab_, aa_, az_, a0_, bj_, hsw, au_, a3_]) (fun h57 => ?_) (fun h57 => ?_)
   ·refine .seq (.rgn [a2_ (hh_ (w.drop 1) (ec_ hw 1) (by simp; omega))] (by simp only [go_sem, seval, asO, ab_, aa_, az_, a0_, bj_, hsw, au_, a3_]; rfl) ?_ ?_)
    ·have h5 := og_ h15; refine ⟨⟨by omega, .inr (of_eq_true (a6_ w))⟩, ?_⟩; rw [List.take_length]; exact ba_ _
    refine .seq (.rgn [] (by simp only [go_sem, seval, asO, ab_, aa_, az_, a0_, bj_, hsw, au_, a3_]; rfl) ?_ ?_)
    ·(first | trivial | (simp; done) | (simp [a6_]; done) | (simp [a6_]; omega))
    refine .ret ⟨.inr rfl, ?_⟩
    exact Out.plainL (by simp only [Tryz.results176]; rfl) (by simp only [aq_, a8_, go_sem, seval, asO, ab_, aa_, az_, a0_, bj_, hsw, au_, a3_] <;> (split <;> rfl)) (by simp only [a7_, go_sem, seval, asO, ab_, aa_, az_, a0_, bj_, hsw, au_, a3_] <;> ((have e : et_ w = (⟨2, [], [], ex (w.drop 1), E0⟩, j3_ (w.drop 1)) := (by have := og_ h15; unfold et_; rw [if_neg (by omega), if_neg (fun h => absurd ((qn_ h20).2 h) (by decide)), if_pos (by simpa [bj_] using h57)]; rfl)); rw [e, ag_]; simp [les, leV, ler, ba_, j9_, jy_, ka_, d9_, e8_, j3_])) (by simp only [go_sem, seval, asO, ab_, aa_, az_, a0_, bj_, hsw, au_, a3_])
   ·refine .seq (.rgn [a2_ hss] (by simp only [go_sem, seval, asO, ab_, aa_, az_, a0_, bj_, hsw, au_, a3_, co_ (og_ h15)]; rfl) ?_ ?_)
    ·have := og_ h15; omega
    refine .condB (by simp only [go_sem, seval, asO, ab_, aa_, az_, a0_, bj_, hsw, au_, a3_]; rfl) (by simp only [go_sem, seval, asO, ab_, aa_, az_, a0_, bj_, hsw, au_, a3_]) (fun h71 => ?_) (fun h71 => ?_)
    ·refine .seq (.rgn [a2_ hss] (by simp only [go_sem, seval, asO, ab_, aa_, az_, a0_, bj_, hsw, au_, a3_]; rfl) ?_ ?_)
     ·(first | trivial | (simp; done) | (simp [a6_]; done) | (simp [a6_]; omega))
     refine .seq (.rgn [a2_ (hh_ ((w.take (dy_ w bj_).toNat).drop 1) (ec_ (lg_ hw _) 1) (by simp; omega))] (by simp only [go_sem, seval, asO, ab_, aa_, az_, a0_, bj_, hsw, au_, a3_]; rfl) ?_ ?_)
     ·have h5 := ((sa_ h71).1 rfl).2; simp only [bj_] at h5; exact ⟨⟨by omega, by omega, by omega, fun h => absurd rfl h⟩, .inr (of_eq_true (a6_ w))⟩
     refine .seq (.rgn [a2_ (hh_ (w.drop ((dy_ w bj_).toNat + 1)) (ec_ hw _) (by simp; omega))] (by simp only [go_sem, seval, asO, ab_, aa_, az_, a0_, bj_, hsw, au_, a3_]; rfl) ?_ ?_)
     ·have h5 := ((sa_ h71).1 rfl).2; simp only [bj_] at h5; refine ⟨⟨by omega, .inr (of_eq_true (a6_ w))⟩, ?_⟩; rw [List.take_length, ht h5]; exact ba_ _
     refine .seq (.rgn [] (by simp only [go_sem, seval, asO, ab_, aa_, az_, a0_, bj_, hsw, au_, a3_]; rfl) ?_ ?_)
     ·(first | trivial | (simp; done) | (simp [a6_]; done) | (simp [a6_]; omega))
     refine .ret ⟨.inr rfl, ?_⟩
     exact Out.plainL (by simp only [Tryz.results176]; rfl) (by simp only [aq_, a8_, go_sem, seval, asO, ab_, aa_, az_, a0_, bj_, hsw, au_, a3_] <;> (split <;> rfl)) (by simp only [a7_, go_sem, seval, asO, ab_, aa_, az_, a0_, bj_, hsw, au_, a3_] <;> ((have e : et_ w = (⟨3, [], [], ex ((w.take (dy_ w bj_).toNat).drop 1), ex (w.drop ((dy_ w bj_).toNat + 1))⟩, j3_ ((w.take (dy_ w bj_).toNat).drop 1) && j3_ (w.drop ((dy_ w bj_).toNat + 1))) := (by have := og_ h15; unfold et_; rw [if_neg (by omega), if_neg (fun h => absurd ((qn_ h20).2 h) (by decide)), if_neg (by simpa [bj_] using h57), if_pos ((sa_ h71).1 rfl)]; rfl)); rw [e, ag_]; simp [bj_, les, leV, ler, ba_, j9_, jy_, ka_, d9_, e8_, j3_])) (by simp only [go_sem, seval, asO, ab_, aa_, az_, a0_, bj_, hsw, au_, a3_])
    ·refine .skip (.seq (.rgn [] (by simp only [go_sem, seval, asO, ab_, aa_, az_, a0_, bj_, hsw, au_, a3_]; rfl) ?_ ?_))
     ·(first | trivial | (simp; done) | (simp [a6_]; done) | (simp [a6_]; omega))
     refine .ret ⟨.inr rfl, ?_⟩
     exact Out.plainL (by simp only [Tryz.results176]; rfl) (by simp only [aq_, a8_, go_sem, seval, asO, ab_, aa_, az_, a0_, bj_, hsw, au_, a3_] <;> (split <;> rfl)) (by simp only [a7_, go_sem, seval, asO, ab_, aa_, az_, a0_, bj_, hsw, au_, a3_] <;> ((have e : et_ w = (S0, false) := (by have := og_ h15; unfold et_; rw [if_neg (by omega), if_neg (fun h => absurd ((qn_ h20).2 h) (by decide)), if_neg (by simpa [bj_] using h57), if_neg (fun h => absurd ((sa_ h71).2 h) (by decide))])); rw [e, ag_]; simp [les, leV, ler, ba_, j9_, jy_, ka_, d9_, e8_, S0])) (by simp only [go_sem, seval, asO, ab_, aa_, az_, a0_, bj_, hsw, au_, a3_])
theorem mo_ {line : Str} (h : ¬ ((cg_ line).isSome = true ∧ (et_ (c6_ line)).2 = true ∧ sok (et_ (c6_ line)).1 = true ∧ bv_ (sw' (et_ (c6_ line)).1) = line)) : kc_ line = none := by
 unfold kc_ c6_ at *
 cases ht : cg_ line with
 | none => rfl
 | some ts =>
  rw [ht] at h
  simp only [Option.getD_some] at h
  dsimp only
  rw [if_neg]
  exact fun q => h ⟨rfl, q⟩
theorem s9_ {line : Str} (h : (cg_ line).isSome = true) (h0 : (et_ (c6_ line)).2 = true) (h1 : sok (et_ (c6_ line)).1 = true) (h2 : bv_ (sw' (et_ (c6_ line)).1) = line) : kc_ line = some (et_ (c6_ line)).1 := by
 unfold kc_ c6_ at *
 cases ht : cg_ line with
 | none => rw [ht] at h; cases h
 | some ts =>
  rw [ht] at h0 h1 h2
  simp only [Option.getD_some] at h0 h1 h2 ⊢
  rw [if_pos ⟨h0, h1, h2⟩]
theorem aft_ {w : List Str} (h : smW w) : gi_ (et_ w).1 = true := by
 have g := wr_ h
 have e := fun k => w1_ (ec_ h k)
 have e0 : sm E0 = true := by decide
 unfold et_
 split
 ·decide
 ·split
  ·simp only [gi_, e, e0, Bool.and_true, Bool.and_eq_true, decide_eq_true_eq]; have := g 1; have := g 3; omega
  ·split
   ·simp only [gi_, e, e0, Bool.and_true]; rfl
   ·split
    ·simp only [gi_, e, w1_ (ec_ (lg_ h _) 1), Bool.and_true]; rfl
    ·decide
theorem va_ (line : Str) (hl : line.length ≤ 281474976710656) : ACall En 123 [.s line] [] [.ag (sC ((dq_ line).getD S0)), .b (dq_ line).isSome] [] := by
 obtain ⟨w1, w2⟩ := r2_ line
 have hs := aft_ w1
 rw [ab2_]
 refine ah_ (fn := Tryz.f123) [] Tryz.func123 rfl rfl (by simp) fun C => ?_
 rw [ar_]
 simp only [Tryz.ntmps123, List.length_cons, List.length_nil, Nat.reduceAdd, Nat.reduceSub, List.replicate_succ, List.replicate_zero, List.cons_append, List.nil_append, bd_]
 refine .seq (.rgn [] (by simp only [go_sem, seval, aa_, au_, ag_]; rfl) ?_ ?_)
 ·first | trivial | simp
 refine .seq (.rgn [a2_ (aak_ line hl)] (by simp only [go_sem, seval, aa_, au_, ag_]; rfl) ?_ ?_)
 ·first | trivial | simp
 refine .seq (.seq (.rgn [] (by simp only [go_sem, seval, aa_, au_, ag_]; rfl) ?_ ?_))
 ·first | trivial | simp
 refine .condB (by simp only [go_sem, seval, aa_, au_, ag_]; rfl) (by simp only [go_sem, seval, aa_, au_, ag_]) (fun h14 => ?_) (fun h14 => ?_)
 ·refine .seq (.rgn [] (by simp only [go_sem, seval, aa_, au_, ag_]; rfl) ?_ ?_)
  ·first | trivial | simp
  refine .ret ⟨.inr rfl, ?_⟩
  exact Out.plainL (by simp only [Tryz.results123]; rfl) (by simp only [aq_, a8_, go_sem, seval, aa_, au_, ag_] <;> (split <;> rfl)) (by simp only [a7_, go_sem, seval, aa_, au_, ag_] <;> (rw [mo_ (fun q => by rw [q.1] at h14; simp at h14)]; simp [S0, les, leV, ler, ba_, j9_, jy_, ka_, d9_, e8_])) (by simp only [go_sem, seval, aa_, au_, ag_])
 ·refine .skip (.seq (.rgn [a2_ (abn_ (c6_ line) w1 (by omega))] (by simp only [go_sem, seval, aa_, au_, ag_]; rfl) ?_ ?_))
  ·first | trivial | simp
  refine .seq (.seq (.rgn [a2_ (qh_ (et_ (c6_ line)).1 hs), c1_ (sok (et_ (c6_ line)).1 = true) (fun h => jj_ (et_ (c6_ line)).1 (dz_ h) hs), c1_ (sok (et_ (c6_ line)).1 = true) (fun h => ig_ (sw' (et_ (c6_ line)).1) (by have := (mk_ (dz_ h)).1; omega) (by have := m3_ (dz_ h); omega))] (by simp only [go_sem, seval, aa_, au_, ag_]; rfl) ?_ ?_))
  ·first | trivial | simp
  refine .condB (by simp only [go_sem, seval, aa_, au_, ag_]; rfl) (by simp only [go_sem, seval, aa_, au_, ag_]) (fun h34 => ?_) (fun h34 => ?_)
  ·refine .seq (.rgn [] (by simp only [go_sem, seval, aa_, au_, ag_]; rfl) ?_ ?_)
   ·first | trivial | simp
   refine .ret ⟨.inr rfl, ?_⟩
   exact Out.plainL (by simp only [Tryz.results123]; rfl) (by simp only [aq_, a8_, go_sem, seval, aa_, au_, ag_] <;> (split <;> rfl)) (by simp only [a7_, go_sem, seval, aa_, au_, ag_] <;> (rw [mo_ (by intro q; simp [q.1, q.2.1, q.2.2] at h34)]; simp [S0, les, leV, ler, ba_, j9_, jy_, ka_, d9_, e8_])) (by simp only [go_sem, seval, aa_, au_, ag_])
  ·refine .skip (.seq (.rgn [] (by simp only [go_sem, seval, aa_, au_, ag_]; rfl) ?_ ?_))
   ·first | trivial | simp
   refine .ret ⟨.inr rfl, ?_⟩
   exact Out.plainL (by simp only [Tryz.results123]; rfl) (by simp only [aq_, a8_, go_sem, seval, aa_, au_, ag_] <;> (split <;> rfl)) (by simp only [a7_, go_sem, seval, aa_, au_, ag_] <;> (rw [s9_ (by simp at h14; exact h14) (by simp at h34; exact h34.1.1) (by simp at h34; exact h34.1.2) (by simp at h34; exact h34.2)]; simp [les, leV, ler, ba_])) (by simp only [go_sem, seval, aa_, au_, ag_])
end
section
set_option maxRecDepth 100000
set_option maxHeartbeats 8000000
end
end Go.Proofs.YtefmbmafdgedmaaGreatDoor
