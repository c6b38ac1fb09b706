/- The words of a line; where a word stands: the reference's. Conditions: none. -/
import Derived.Test.YtefmbmafdgedmaaGreatDoorK5
import Derived.Test.YtefmbmafdgedmaaGreatDoorKg
import Derived.Test.YtefmbmafdgedmaaGreatDoorKl
import Derived.Test.YtefmbmafdgedmaaGreatDoorKi
set_option linter.unusedVariables false
set_option linter.unusedSimpArgs false
namespace Go.Proofs.YtefmbmafdgedmaaGreatDoor
section
set_option maxRecDepth 100000
set_option maxHeartbeats 4000000
theorem afn_ (s : Str) (hs : s.length ≤ 281474976710656) : ACall En 58 [.s s] [] [.sl false (cb_ (du_ s)), .b (c0_ s).isSome] [] := by
 have T := ym_ s hs
 have hb := q1_ s
 unfold du_
 generalize (c0_ s).getD [] = ts at *
 refine ao_ (fn := Tryz.f58) [] Tryz.func58 rfl rfl (by simp) fun C => ?_
 rw [bb_]
 simp only [Tryz.ntmps58, T7_, List.length_nil, Nat.reduceAdd, Nat.reduceSub, List.replicate_succ, List.replicate_zero, List.cons_append, List.nil_append, bu_]
 refine .seq (.rgn [] (by simp only [go_sem, seval, be_, a6_]; rfl) ?_ ?_)
 ·(first | trivial | (simp; done) | (simp only [T3_] at h17; simp [cb_, cv_]; omega))
 refine .seq (.rgn [bj_ T] (by simp only [go_sem, seval, be_, a6_]; rfl) ?_ ?_)
 ·(first | trivial | (simp; done) | (simp only [T3_] at h17; simp [cb_, cv_]; omega))
 refine .seq (.rgn [] (by simp only [go_sem, seval, be_, a6_]; rfl) ?_ ?_)
 ·(first | trivial | (simp; done) | (simp only [T3_] at h17; simp [cb_, cv_]; omega))
 refine .seq (.seq (.rgn [] (by simp only [go_sem, seval, be_, a6_]; rfl) ?_ ?_))
 ·(first | trivial | (simp; done) | (simp only [T3_] at h17; simp [cb_, cv_]; omega))
 refine .block (.loopK (fun k : Nat => ⟨[.no, .no, .no, .no, .sl false (tkR ts), .b (c0_ s).isSome, .ow 23 1 0 k, .i .i64 k, .no, .no, .no, .no, .no, .no, .no, .no, .no, .no, .no, .no, .no, .no, .no, .no, .no, .no, .no, .no, .no, .no], bk_ [(23, ⟨9, 1, cb_ ((ts.take k).map (·.s))⟩)], us [23]⟩) (fun k : Nat => k ≤ ts.length) (fun k : Nat => ts.length - k) (0) ?_ ?_ (fun k hI => ?_))
 ·simp
 ·refine Can.trans (Can.ownSlot 6 23 9 1 (by simp only [go_sem, seval, be_, a6_] <;> rfl) (by simp only [go_sem, seval, be_, a6_]) (by simp only [go_sem, seval, be_, a6_] <;> rfl)) ?_
  exact Can.weak (Weak.lit (by simp only [go_sem, seval, be_, a6_, ay_, leV, aw_, ax_, V.inn, us, T9_, Ta_] <;> ((try simp))) (by simp only [go_sem, seval, be_, a6_, ay_, leV, aw_, ax_, V.inn, us, T9_, Ta_]) (by simp only [go_sem, seval, be_, a6_, ay_, leV, aw_, ax_, V.inn, us, T9_, Ta_] <;> ((try simp [cb_]))))
 refine .seq (.seq (.rgn [] (by simp only [go_sem, seval, be_, a6_]; rfl) ?_ ?_))
 ·(first | trivial | (simp; done) | (simp only [T3_] at h17; simp [cb_, cv_]; omega))
 refine .condB (by simp only [go_sem, seval, be_, a6_]; rfl) (by simp only [go_sem, seval, be_, a6_]) (fun h17 => ?_) (fun h17 => ?_)
 ·refine .skip (.seq (.block (.rgn [] (by simp only [go_sem, seval, be_, a6_, aag_ (show k < ts.length by simpa using h17)]; rfl) ?_ ?_)))
  ·(first | trivial | (simp; done) | (simp only [T3_] at h17; simp [cb_, cv_]; omega))
  refine .rgn [] (by simp only [go_sem, seval, be_, a6_]; rfl) ?_ ?_
  ·(first | trivial | (simp; done) | (simp only [T3_] at h17; simp [cb_, cv_]; omega))
  refine Exists.intro (k + 1) ⟨?_, ?_, ?_⟩
  ·simp at h17; omega
  ·simp at h17; omega
  refine Can.trans (Can.swap 37 23 (by decide) (by decide) (by decide) (by decide) (by simp only [go_sem, seval, be_, a6_, V.cl]) (by simp only [go_sem, seval, be_, a6_, V.cl]) (by simp only [go_sem, seval, be_, a6_, b5_, sw, swM, rnB] <;> rfl) (by simp only [go_sem, seval, be_, a6_, b5_, sw, swM, rnB] <;> rfl) (by simp only [go_sem, seval, be_, a6_, b5_, sw, swM, rnB] <;> rfl)) ?_
  exact Can.weak (Weak.lit (by simp only [go_sem, seval, be_, a6_, ay_, leV, aw_, ax_, V.inn, us, T9_, Ta_] <;> (rw [bx_ (by simp at h17; omega) (by simp at h17; omega)]; (try simp))) (by simp only [go_sem, seval, be_, a6_, ay_, leV, aw_, ax_, V.inn, us, T9_, Ta_]) (by simp only [go_sem, seval, be_, a6_, ay_, leV, aw_, ax_, V.inn, us, T9_, Ta_] <;> (simp only [T3_] at h17; rw [List.take_add_one, T6_ (show k < ts.length by omega)]; simp [-List.map_take, -List.take_append_getElem, cb_, T8_, T6_ (show k < ts.length by omega)])))
 ·refine .exit (.seq (.rgn [] (by simp only [go_sem, seval, be_, a6_]; rfl) ?_ ?_))
  ·(first | trivial | (simp; done) | (simp only [T3_] at h17; simp [cb_, cv_]; omega))
  refine .frz 23 (by simp only [go_sem, seval, be_, a6_]; rfl) (by simp only [go_sem, seval, be_, a6_]) (by simp only [go_sem, seval, be_, a6_]; rfl) (by simp only [go_sem, seval, be_, a6_]; rfl) ?_
  refine .ret ⟨.inr rfl, ?_⟩
  exact Out.plainL (by simp only [Tryz.results58]; rfl) (by simp only [bd_, bo_, go_sem, seval, be_, a6_] <;> (split <;> rfl)) (by simp only [bn_, go_sem, seval, be_, a6_] <;> (simp at h17; rw [T1_ h17, if_pos (by simpa using hI)]; simp [peel, leV, by_, cb_, T1_, h17])) (by simp only [go_sem, seval, be_, a6_])
theorem aii_ (l : List Str) (hl : l.length < 4611686018427387904) : ACall En 209 [.sl false (cb_ l)] [] [.i .i64 (ej_ l b7_)] [] := by
 refine ao_ (fn := Tryz.f209) [] Tryz.func209 rfl rfl (by simp) fun C => ?_
 rw [bb_]
 simp only [Tryz.ntmps209, T7_, List.length_nil, Nat.reduceAdd, Nat.reduceSub, List.replicate_succ, List.replicate_zero, List.cons_append, List.nil_append, bu_]
 refine .seq (.rgn [] (by simp only [go_sem, seval, ab_, aa_]; rfl) ?_ ?_)
 ·first | trivial | simp
 refine .seq (.seq (.rgn [] (by simp only [go_sem, seval, ab_, aa_]; rfl) ?_ ?_))
 ·first | trivial | simp
 refine .block (.loopK (fun k : Nat => ⟨[.sl false (cb_ l), .no, .no, .i .i64 k, .no, .no, .no, .no, .no, .no, .no, .no, .no, .no, .no, .no], bk_ [], us []⟩) (fun k : Nat => k ≤ l.length ∧ ∀ x ∈ l.take k, x ≠ b7_) (fun k : Nat => l.length - k) (0) ?_ ?_ (fun k hI => ?_))
 ·simp
 ·exact Can.weak (Weak.lit (by simp only [go_sem, seval, ab_, aa_, ay_, leV, aw_, ax_, V.inn, us, T9_, Ta_] <;> (simp)) (by simp only [go_sem, seval, ab_, aa_, ay_, leV, aw_, ax_, V.inn, us, T9_, Ta_]) (by simp only [go_sem, seval, ab_, aa_, ay_, leV, aw_, ax_, V.inn, us, T9_, Ta_]))
 refine .seq (.seq (.rgn [] (by simp only [go_sem, seval, ab_, aa_]; rfl) ?_ ?_))
 ·first | trivial | simp
 refine .condB (by simp only [go_sem, seval, ab_, aa_]; rfl) (by simp only [go_sem, seval, ab_, aa_]) (fun h7 => ?_) (fun h7 => ?_)
 ·refine .skip (.seq (.block (.seq (.rgn [] (by simp only [go_sem, seval, ab_, aa_, db_ (show k < l.length by simpa using h7)]; rfl) ?_ ?_))))
  ·simp at h7; simp [ab_, h7]
  refine .condB (by simp only [go_sem, seval, ab_, aa_]; rfl) (by simp only [go_sem, seval, ab_, aa_]) (fun h14 => ?_) (fun h14 => ?_)
  ·refine .seq (.rgn [] (by simp only [go_sem, seval, ab_, aa_]; rfl) ?_ ?_)
   ·first | trivial | simp
   refine .ret ⟨.inr rfl, ?_⟩
   exact Out.plain (by simp only [Tryz.results209]; rfl) (by simp only [bd_, bo_, go_sem, seval, ab_, aa_] <;> (split <;> rfl)) (by simp only [bn_, go_sem, seval, ab_, aa_] <;> (simp at h7; obtain ⟨g1, g2⟩ := xe_ h7 hI.2 (eq_of_beq h14); unfold ej_; rw [if_pos g1, g2])) (by simp only [go_sem, seval, ab_, aa_])
  ·refine .skip (.rgn [] (by simp only [go_sem, seval, ab_, aa_]; rfl) ?_ ?_)
   ·first | trivial | simp
   refine Exists.intro (k + 1) ⟨?_, ?_, ?_⟩
   ·simp at h7; refine ⟨by omega, fun x hx => ?_⟩; rw [List.take_add_one, List.mem_append, T6_ h7] at hx; rcases hx with hx | hx; exact hI.2 x hx; simp at hx; subst hx; simp [T8_, T6_ h7] at h14; exact h14
   ·simp at h7; omega
   exact Can.weak (Weak.lit (by simp only [go_sem, seval, ab_, aa_, ay_, leV, aw_, ax_, V.inn, us, T9_, Ta_] <;> (rw [bx_ (by omega) (by omega)]; simp)) (by simp only [go_sem, seval, ab_, aa_, ay_, leV, aw_, ax_, V.inn, us, T9_, Ta_]) (by simp only [go_sem, seval, ab_, aa_, ay_, leV, aw_, ax_, V.inn, us, T9_, Ta_]))
 ·refine .exit (.seq (.rgn [] (by simp only [go_sem, seval, ab_, aa_]; rfl) ?_ ?_))
  ·first | trivial | simp
  refine .ret ⟨.inr rfl, ?_⟩
  exact Out.plain (by simp only [Tryz.results209]; rfl) (by simp only [bd_, bo_, go_sem, seval, ab_, aa_] <;> (split <;> rfl)) (by simp only [bn_, go_sem, seval, ab_, aa_] <;> (simp at h7; have : ¬ b7_ ∈ l := fun hm => hI.2 b7_ (by rw [T1_ h7]; exact hm) rfl; simp [ej_, this])) (by simp only [go_sem, seval, ab_, aa_])
end
section
set_option maxRecDepth 100000
set_option maxHeartbeats 8000000
theorem tv_ (w : List Str) (k : Nat) (c : Bool) (hc : c = true → k < w.length) : (c = true → c = true ∧ (k : Int) < w.length ∧ ((cb_ w).getD k []).length = 1) ∧ (c = true → (c = true ∧ 1 ≤ ((cb_ w).getD k []).length) ∧ ({ v := ((cb_ w).getD k []).getD 0 .no } : Eff) = { v := .s (w.getD k []) }) := by
 have e := fun h => db_ (l := w) (hc h)
 exact ⟨fun h => ⟨h, by have := hc h; omega, by rw [e h]; rfl⟩, fun h => ⟨⟨h, by rw [e h]; exact Nat.le_refl _⟩, by rw [e h]; rfl⟩⟩
theorem qm_ {w : List Str} (h : ((w.length : Int) == 0) = false) : 0 < w.length := by
 rw [beq_eq_false_iff_ne] at h; omega
theorem ti_ {w : List Str} {b : Bool} (h : (w.getD 0 [] == [108, 101, 116] && decide ((w.length : Int) > 5) && w.getD 2 [] == [58] && w.getD 4 [] == [61]) = b) : (b = true ↔ (w.getD 0 [] = ik_ ∧ 5 < w.length ∧ w.getD 2 [] = h7_ ∧ w.getD 4 [] = wEq)) := by
 rw [← h]
 simp only [T5_, beq_iff_eq, T3_, ik_, h7_, wEq, and_assoc]
 constructor
 ·rintro ⟨a, b, c, d⟩; exact ⟨a, by omega, c, d⟩
 ·rintro ⟨a, b, c, d⟩; exact ⟨a, by omega, c, d⟩
theorem t6_ {w : List Str} {b : Bool} (h : (w.getD 0 [] == [119, 104, 101, 110] && decide (ej_ w [115, 97, 121] > 0)) = b) : (b = true ↔ (w.getD 0 [] = ea_ ∧ 0 < ej_ w b7_)) := by
 rw [← h]
 simp only [T5_, beq_iff_eq, T3_, ea_, b7_]
 try exact Iff.rfl
theorem afd_ (w : List Str) (hw : smW w) (hl : w.length ≤ 100000) : ACall En 176 [.sl false (cb_ w)] [] [.ag (sC (fm_ w).1), .b (fm_ w).2] [] := by
 have hs := aam_ w b7_
 have hss := aii_ w (by omega)
 simp only [b7_] at hs hss
 have hsw : IntKind.i64.wrap (ej_ w [115, 97, 121] + 1) = ej_ w [115, 97, 121] + 1 := bx_ (by omega) (by omega)
 have ht : 0 < ej_ w [115, 97, 121] → (ej_ w [115, 97, 121] + 1).toNat = (ej_ w [115, 97, 121]).toNat + 1 := fun h => by omega
 refine ao_ (fn := Tryz.f176) [] Tryz.func176 rfl rfl (by simp) fun C => ?_
 rw [bb_]
 simp only [Tryz.ntmps176, T7_, List.length_nil, Nat.reduceAdd, Nat.reduceSub, List.replicate_succ, List.replicate_zero, List.cons_append, List.nil_append, bu_]
 refine .seq (.rgn [] (by simp only [go_sem, seval, asO, ab_, aa_, br_, bq_, b7_, hsw, bi_, bs_]; rfl) ?_ ?_)
 ·(first | trivial | (simp; done) | (simp [bw_]; done) | (simp [bw_]; omega))
 refine .seq (.rgn [] (by simp only [go_sem, seval, asO, ab_, aa_, br_, bq_, b7_, hsw, bi_, bs_]; rfl) ?_ ?_)
 ·(first | trivial | (simp; done) | (simp [bw_]; done) | (simp [bw_]; omega))
 refine .seq (.block (.seq (.rgn [] (by simp only [go_sem, seval, asO, ab_, aa_, br_, bq_, b7_, hsw, bi_, bs_]; rfl) ?_ ?_)))
 ·(first | trivial | (simp; done) | (simp [bw_]; done) | (simp [bw_]; omega))
 refine .condB (by simp only [go_sem, seval, asO, ab_, aa_, br_, bq_, b7_, hsw, bi_, bs_]; rfl) (by simp only [go_sem, seval, asO, ab_, aa_, br_, bq_, b7_, hsw, bi_, bs_]) (fun h15 => ?_) (fun h15 => ?_)
 ·refine .seq (.rgn [] (by simp only [go_sem, seval, asO, ab_, aa_, br_, bq_, b7_, hsw, bi_, bs_]; rfl) ?_ ?_)
  ·(first | trivial | (simp; done) | (simp [bw_]; done) | (simp [bw_]; omega))
  refine .ret ⟨.inr rfl, ?_⟩
  exact Out.plainL (by simp only [Tryz.results176]; rfl) (by simp only [bd_, bo_, go_sem, seval, asO, ab_, aa_, br_, bq_, b7_, hsw, bi_, bs_] <;> (split <;> rfl)) (by simp only [bn_, go_sem, seval, asO, ab_, aa_, br_, bq_, b7_, hsw, bi_, bs_] <;> ((have e : fm_ w = (S0, true) := (by unfold fm_; rw [if_pos (by simpa using h15)])); rw [e, as_]; simp [les, leV, ler, by_, lm_, lp_, ld_, ex_, f1_, S0])) (by simp only [go_sem, seval, asO, ab_, aa_, br_, bq_, b7_, hsw, bi_, bs_])
 ·refine .seq (.rgnS [33, 39] [asO En { v := .s (w.getD 2 []) }, asO En { v := .s (w.getD 4 []) }] (by simp only [go_sem, seval, asO, ab_, aa_, br_, bq_, b7_, hsw, bi_, bs_, db_ (qm_ h15)]; rfl) ?_ ?_)
  ·have k1 : (w.getD 0 [] == [108, 101, 116] && decide ((w.length : Int) > 5)) = true → 2 < w.length := (fun h => by simp only [T5_, T3_] at h; omega); have k2 : (w.getD 0 [] == [108, 101, 116] && decide ((w.length : Int) > 5) && w.getD 2 [] == [58]) = true → 4 < w.length := (fun h => by simp only [T5_, T3_] at h; omega); exact ⟨⟨⟨⟨by have := qm_ h15; omega, (tv_ w 2 _ k1).1⟩, (tv_ w 2 _ k1).2⟩, (tv_ w 4 _ k2).1⟩, (tv_ w 4 _ k2).2⟩
  refine .condB (by simp only [go_sem, seval, asO, ab_, aa_, br_, bq_, b7_, hsw, bi_, bs_]; rfl) (by simp only [go_sem, seval, asO, ab_, aa_, br_, bq_, b7_, hsw, bi_, bs_]) (fun h20 => ?_) (fun h20 => ?_)
  ·refine .seq (.rgn [bj_ (if_ (w.drop 5) (e4_ hw 5) (by simp; omega))] (by simp only [go_sem, seval, asO, ab_, aa_, br_, bq_, b7_, hsw, bi_, bs_]; rfl) ?_ ?_)
   ·have h5 := ((ti_ h20).1 rfl).2.1; refine ⟨⟨by omega, .inr (of_eq_true (bw_ w))⟩, ?_⟩; rw [List.take_length]; exact by_ _
   refine .seq (.rgnD [] enM (by simp only [go_sem, seval, asO, ab_, aa_, br_, bq_, b7_, hsw, bi_, bs_, db_ (show 1 < w.length by simp at h20; omega), db_ (show 3 < w.length by simp at h20; omega)]; rfl) (by rfl) ?_ ?_)
   ·have h5 := ((ti_ h20).1 rfl).2.1; exact ⟨by omega, rfl⟩
   refine .ret ⟨.inr rfl, ?_⟩
   exact Out.plainL (by simp only [Tryz.results176]; rfl) (by simp only [bd_, bo_, go_sem, seval, asO, ab_, aa_, br_, bq_, b7_, hsw, bi_, bs_] <;> (split <;> rfl)) (by simp only [bn_, go_sem, seval, asO, ab_, aa_, br_, bq_, b7_, hsw, bi_, bs_] <;> ((have e : fm_ w = (⟨1, w.getD 1 [], w.getD 3 [], ex (w.drop 5), E0⟩, la_ (w.drop 5)) := (by have := qm_ h15; unfold fm_; rw [if_neg (by omega), if_pos ((ti_ h20).1 rfl)]; rfl)); rw [e, as_]; simp [les, leV, ler, by_, lm_, lp_, ld_, ex_, f1_, la_])) (by simp only [go_sem, seval, asO, ab_, aa_, br_, bq_, b7_, hsw, bi_, bs_])
  ·refine .seq (.rgn [] (by simp only [go_sem, seval, asO, ab_, aa_, br_, bq_, b7_, hsw, bi_, bs_, db_ (qm_ h15)]; rfl) ?_ ?_)
   ·have := qm_ h15; omega
   refine .condB (by simp only [go_sem, seval, asO, ab_, aa_, br_, bq_, b7_, hsw, bi_, bs_]; rfl) (by simp only [go_sem, seval, asO, ab_, aa_, br_, bq_, b7_, hsw, bi_, bs_]) (fun h57 => ?_) (fun h57 => ?_)
   ·refine .seq (.rgn [bj_ (if_ (w.drop 1) (e4_ hw 1) (by simp; omega))] (by simp only [go_sem, seval, asO, ab_, aa_, br_, bq_, b7_, hsw, bi_, bs_]; rfl) ?_ ?_)
    ·have h5 := qm_ h15; refine ⟨⟨by omega, .inr (of_eq_true (bw_ w))⟩, ?_⟩; rw [List.take_length]; exact by_ _
    refine .seq (.rgn [] (by simp only [go_sem, seval, asO, ab_, aa_, br_, bq_, b7_, hsw, bi_, bs_]; rfl) ?_ ?_)
    ·(first | trivial | (simp; done) | (simp [bw_]; done) | (simp [bw_]; omega))
    refine .ret ⟨.inr rfl, ?_⟩
    exact Out.plainL (by simp only [Tryz.results176]; rfl) (by simp only [bd_, bo_, go_sem, seval, asO, ab_, aa_, br_, bq_, b7_, hsw, bi_, bs_] <;> (split <;> rfl)) (by simp only [bn_, go_sem, seval, asO, ab_, aa_, br_, bq_, b7_, hsw, bi_, bs_] <;> ((have e : fm_ w = (⟨2, [], [], ex (w.drop 1), E0⟩, la_ (w.drop 1)) := (by have := qm_ h15; unfold fm_; rw [if_neg (by omega), if_neg (fun h => absurd ((ti_ h20).2 h) (by decide)), if_pos (by simpa [b7_] using h57)]; rfl)); rw [e, as_]; simp [les, leV, ler, by_, lm_, lp_, ld_, ex_, f1_, la_])) (by simp only [go_sem, seval, asO, ab_, aa_, br_, bq_, b7_, hsw, bi_, bs_])
   ·refine .seq (.rgn [bj_ hss] (by simp only [go_sem, seval, asO, ab_, aa_, br_, bq_, b7_, hsw, bi_, bs_, db_ (qm_ h15)]; rfl) ?_ ?_)
    ·have := qm_ h15; omega
    refine .condB (by simp only [go_sem, seval, asO, ab_, aa_, br_, bq_, b7_, hsw, bi_, bs_]; rfl) (by simp only [go_sem, seval, asO, ab_, aa_, br_, bq_, b7_, hsw, bi_, bs_]) (fun h71 => ?_) (fun h71 => ?_)
    ·refine .seq (.rgn [bj_ hss] (by simp only [go_sem, seval, asO, ab_, aa_, br_, bq_, b7_, hsw, bi_, bs_]; rfl) ?_ ?_)
     ·(first | trivial | (simp; done) | (simp [bw_]; done) | (simp [bw_]; omega))
     refine .seq (.rgn [bj_ (if_ ((w.take (ej_ w b7_).toNat).drop 1) (e4_ (mt_ hw _) 1) (by simp; omega))] (by simp only [go_sem, seval, asO, ab_, aa_, br_, bq_, b7_, hsw, bi_, bs_]; rfl) ?_ ?_)
     ·have h5 := ((t6_ h71).1 rfl).2; simp only [b7_] at h5; exact ⟨⟨by omega, by omega, by omega, fun h => absurd rfl h⟩, .inr (of_eq_true (bw_ w))⟩
     refine .seq (.rgn [bj_ (if_ (w.drop ((ej_ w b7_).toNat + 1)) (e4_ hw _) (by simp; omega))] (by simp only [go_sem, seval, asO, ab_, aa_, br_, bq_, b7_, hsw, bi_, bs_]; rfl) ?_ ?_)
     ·have h5 := ((t6_ h71).1 rfl).2; simp only [b7_] at h5; refine ⟨⟨by omega, .inr (of_eq_true (bw_ w))⟩, ?_⟩; rw [List.take_length, ht h5]; exact by_ _
     refine .seq (.rgn [] (by simp only [go_sem, seval, asO, ab_, aa_, br_, bq_, b7_, hsw, bi_, bs_]; rfl) ?_ ?_)
     ·(first | trivial | (simp; done) | (simp [bw_]; done) | (simp [bw_]; omega))
     refine .ret ⟨.inr rfl, ?_⟩
     exact Out.plainL (by simp only [Tryz.results176]; rfl) (by simp only [bd_, bo_, go_sem, seval, asO, ab_, aa_, br_, bq_, b7_, hsw, bi_, bs_] <;> (split <;> rfl)) (by simp only [bn_, go_sem, seval, asO, ab_, aa_, br_, bq_, b7_, hsw, bi_, bs_] <;> ((have e : fm_ w = (⟨3, [], [], ex ((w.take (ej_ w b7_).toNat).drop 1), ex (w.drop ((ej_ w b7_).toNat + 1))⟩, la_ ((w.take (ej_ w b7_).toNat).drop 1) && la_ (w.drop ((ej_ w b7_).toNat + 1))) := (by have := qm_ h15; unfold fm_; rw [if_neg (by omega), if_neg (fun h => absurd ((ti_ h20).2 h) (by decide)), if_neg (by simpa [b7_] using h57), if_pos ((t6_ h71).1 rfl)]; rfl)); rw [e, as_]; simp [b7_, les, leV, ler, by_, lm_, lp_, ld_, ex_, f1_, la_])) (by simp only [go_sem, seval, asO, ab_, aa_, br_, bq_, b7_, hsw, bi_, bs_])
    ·refine .skip (.seq (.rgn [] (by simp only [go_sem, seval, asO, ab_, aa_, br_, bq_, b7_, hsw, bi_, bs_]; rfl) ?_ ?_))
     ·(first | trivial | (simp; done) | (simp [bw_]; done) | (simp [bw_]; omega))
     refine .ret ⟨.inr rfl, ?_⟩
     exact Out.plainL (by simp only [Tryz.results176]; rfl) (by simp only [bd_, bo_, go_sem, seval, asO, ab_, aa_, br_, bq_, b7_, hsw, bi_, bs_] <;> (split <;> rfl)) (by simp only [bn_, go_sem, seval, asO, ab_, aa_, br_, bq_, b7_, hsw, bi_, bs_] <;> ((have e : fm_ w = (S0, false) := (by have := qm_ h15; unfold fm_; rw [if_neg (by omega), if_neg (fun h => absurd ((ti_ h20).2 h) (by decide)), if_neg (by simpa [b7_] using h57), if_neg (fun h => absurd ((t6_ h71).2 h) (by decide))])); rw [e, as_]; simp [les, leV, ler, by_, lm_, lp_, ld_, ex_, f1_, S0])) (by simp only [go_sem, seval, asO, ab_, aa_, br_, bq_, b7_, hsw, bi_, bs_])
theorem op_ {line : Str} (h : ¬ ((c0_ line).isSome = true ∧ (fm_ (du_ line)).2 = true ∧ sok (fm_ (du_ line)).1 = true ∧ ch_ (sw' (fm_ (du_ line)).1) = line)) : lh_ line = none := by
 unfold lh_ du_ at *
 cases ht : c0_ line with
 | none => rfl
 | some ts =>
  rw [ht] at h
  simp only [Option.getD_some] at h
  dsimp only
  rw [if_neg]
  exact fun q => h ⟨rfl, q⟩
theorem wn_ {line : Str} (h : (c0_ line).isSome = true) (h0 : (fm_ (du_ line)).2 = true) (h1 : sok (fm_ (du_ line)).1 = true) (h2 : ch_ (sw' (fm_ (du_ line)).1) = line) : lh_ line = some (fm_ (du_ line)).1 := by
 unfold lh_ du_ at *
 cases ht : c0_ line with
 | none => rw [ht] at h; cases h
 | some ts =>
  rw [ht] at h0 h1 h2
  simp only [Option.getD_some] at h0 h1 h2 ⊢
  rw [if_pos ⟨h0, h1, h2⟩]
theorem ah8_ {w : List Str} (h : smW w) : hi_ (fm_ w).1 = true := by
 have g := aaw_ h
 have e := fun k => z5_ (e4_ h k)
 have e0 : sm E0 = true := by decide
 unfold fm_
 split
 ·decide
 ·split
  ·simp only [hi_, e, e0, Bool.and_true, T5_, T3_]; have := g 1; have := g 3; omega
  ·split
   ·simp only [hi_, e, e0, Bool.and_true]; rfl
   ·split
    ·simp only [hi_, e, z5_ (e4_ (mt_ h _) 1), Bool.and_true]; rfl
    ·decide
theorem wr_ (line : Str) (hl : line.length ≤ 281474976710656) : ACall En 123 [.s line] [] [.ag (sC ((d4_ line).getD S0)), .b (d4_ line).isSome] [] := by
 obtain ⟨w1, w2⟩ := uk_ line
 have hs := ah8_ w1
 rw [agl_]
 refine ao_ (fn := Tryz.f123) [] Tryz.func123 rfl rfl (by simp) fun C => ?_
 rw [bb_]
 simp only [Tryz.ntmps123, T7_, List.length_nil, Nat.reduceAdd, Nat.reduceSub, List.replicate_succ, List.replicate_zero, List.cons_append, List.nil_append, bu_]
 refine .seq (.rgn [] (by simp only [go_sem, seval, aa_, bi_, as_]; rfl) ?_ ?_)
 ·first | trivial | simp
 refine .seq (.rgn [bj_ (afn_ line hl)] (by simp only [go_sem, seval, aa_, bi_, as_]; rfl) ?_ ?_)
 ·first | trivial | simp
 refine .seq (.seq (.rgn [] (by simp only [go_sem, seval, aa_, bi_, as_]; rfl) ?_ ?_))
 ·first | trivial | simp
 refine .condB (by simp only [go_sem, seval, aa_, bi_, as_]; rfl) (by simp only [go_sem, seval, aa_, bi_, as_]) (fun h14 => ?_) (fun h14 => ?_)
 ·refine .seq (.rgn [] (by simp only [go_sem, seval, aa_, bi_, as_]; rfl) ?_ ?_)
  ·first | trivial | simp
  refine .ret ⟨.inr rfl, ?_⟩
  exact Out.plainL (by simp only [Tryz.results123]; rfl) (by simp only [bd_, bo_, go_sem, seval, aa_, bi_, as_] <;> (split <;> rfl)) (by simp only [bn_, go_sem, seval, aa_, bi_, as_] <;> (rw [op_ (fun q => by rw [q.1] at h14; simp at h14)]; simp [S0, les, leV, ler, by_, lm_, lp_, ld_, ex_, f1_])) (by simp only [go_sem, seval, aa_, bi_, as_])
 ·refine .skip (.seq (.rgn [bj_ (afd_ (du_ line) w1 (by omega))] (by simp only [go_sem, seval, aa_, bi_, as_]; rfl) ?_ ?_))
  ·first | trivial | simp
  refine .seq (.seq (.rgn [bj_ (rz_ (fm_ (du_ line)).1 hs), dc_ (sok (fm_ (du_ line)).1 = true) (fun h => kk_ (fm_ (du_ line)).1 (ek_ h) hs), dc_ (sok (fm_ (du_ line)).1 = true) (fun h => jg_ (sw' (fm_ (du_ line)).1) (by have := (oh_ (ek_ h)).1; omega) (by have := o4_ (ek_ h); omega))] (by simp only [go_sem, seval, aa_, bi_, as_]; rfl) ?_ ?_))
  ·first | trivial | simp
  refine .condB (by simp only [go_sem, seval, aa_, bi_, as_]; rfl) (by simp only [go_sem, seval, aa_, bi_, as_]) (fun h34 => ?_) (fun h34 => ?_)
  ·refine .seq (.rgn [] (by simp only [go_sem, seval, aa_, bi_, as_]; rfl) ?_ ?_)
   ·first | trivial | simp
   refine .ret ⟨.inr rfl, ?_⟩
   exact Out.plainL (by simp only [Tryz.results123]; rfl) (by simp only [bd_, bo_, go_sem, seval, aa_, bi_, as_] <;> (split <;> rfl)) (by simp only [bn_, go_sem, seval, aa_, bi_, as_] <;> (rw [op_ (by intro q; simp [q.1, q.2.1, q.2.2] at h34)]; simp [S0, les, leV, ler, by_, lm_, lp_, ld_, ex_, f1_])) (by simp only [go_sem, seval, aa_, bi_, as_])
  ·refine .skip (.seq (.rgn [] (by simp only [go_sem, seval, aa_, bi_, as_]; rfl) ?_ ?_))
   ·first | trivial | simp
   refine .ret ⟨.inr rfl, ?_⟩
   exact Out.plainL (by simp only [Tryz.results123]; rfl) (by simp only [bd_, bo_, go_sem, seval, aa_, bi_, as_] <;> (split <;> rfl)) (by simp only [bn_, go_sem, seval, aa_, bi_, as_] <;> (rw [wn_ (by simp at h14; exact h14) (by simp at h34; exact h34.1.1) (by simp at h34; exact h34.1.2) (by simp at h34; exact h34.2)]; simp [les, leV, ler, by_])) (by simp only [go_sem, seval, aa_, bi_, as_])
end
section
set_option maxRecDepth 100000
set_option maxHeartbeats 8000000
end
end Go.Proofs.YtefmbmafdgedmaaGreatDoor
