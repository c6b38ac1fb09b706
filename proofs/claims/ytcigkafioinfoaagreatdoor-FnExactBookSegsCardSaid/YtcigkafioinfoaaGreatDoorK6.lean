/- The words of a line; where a word stands: the reference's. Conditions: none. -/
import Derived.Test.YtcigkafioinfoaaGreatDoorK5
import Derived.Test.YtcigkafioinfoaaGreatDoorKg
import Derived.Test.YtcigkafioinfoaaGreatDoorKl
import Derived.Test.YtcigkafioinfoaaGreatDoorKi
set_option linter.unusedVariables false
set_option linter.unusedSimpArgs false
namespace Go.Proofs.YtcigkafioinfoaaGreatDoor
section
set_option maxRecDepth 100000
set_option maxHeartbeats 4000000
theorem aeg_ (s : Str) (hs : s.length ≤ 281474976710656) : ACall En 184 [.s s] [] [.sl false (b6_ (dc_ s)), .b (b1_ s).isSome] [] := by
 have T := o5_ s hs
 have hb := p8_ s
 unfold dc_
 generalize (b1_ s).getD [] = ts at *
 refine al_ (fn := Tryz.f184) [] Tryz.func184 rfl rfl (by simp) fun C => ?_
 rw [ay_]
 simp only [Tryz.ntmps184, T7_, List.length_nil, Nat.reduceAdd, Nat.reduceSub, List.replicate_succ, List.replicate_zero, List.cons_append, List.nil_append, bs_]
 refine .seq (.rgn [] (by simp only [go_sem, seval, as_, am_]; rfl) ?_ ?_)
 ·(first | trivial | (simp; done) | (simp only [T3_] at h17; simp [b6_, cb_]; omega))
 refine .seq (.rgn [a9_ T] (by simp only [go_sem, seval, as_, am_]; rfl) ?_ ?_)
 ·(first | trivial | (simp; done) | (simp only [T3_] at h17; simp [b6_, cb_]; omega))
 refine .seq (.rgn [] (by simp only [go_sem, seval, as_, am_]; rfl) ?_ ?_)
 ·(first | trivial | (simp; done) | (simp only [T3_] at h17; simp [b6_, cb_]; omega))
 refine .seq (.seq (.rgn [] (by simp only [go_sem, seval, as_, am_]; rfl) ?_ ?_))
 ·(first | trivial | (simp; done) | (simp only [T3_] at h17; simp [b6_, cb_]; omega))
 refine .block (.loopK (fun k : Nat => ⟨[.no, .no, .no, .no, .sl false (tkR ts), .b (b1_ s).isSome, .ow 23 1 0 k, .i .i64 k, .no, .no, .no, .no, .no, .no, .no, .no, .no, .no, .no, .no, .no, .no, .no, .no, .no, .no, .no, .no, .no, .no], a7_ [(23, ⟨9, 1, b6_ ((ts.take k).map (·.s))⟩)], us [23]⟩) (fun k : Nat => k ≤ ts.length) (fun k : Nat => ts.length - k) (0) ?_ ?_ (fun k hI => ?_))
 ·simp
 ·refine Can.trans (Can.ownSlot 6 23 9 1 (by simp only [go_sem, seval, as_, am_] <;> rfl) (by simp only [go_sem, seval, as_, am_]) (by simp only [go_sem, seval, as_, am_] <;> rfl)) ?_
  exact Can.weak (Weak.lit (by simp only [go_sem, seval, as_, am_, at_, leV, aq_, ar_, V.inn, us, T9_, Ta_] <;> ((try simp))) (by simp only [go_sem, seval, as_, am_, at_, leV, aq_, ar_, V.inn, us, T9_, Ta_]) (by simp only [go_sem, seval, as_, am_, at_, leV, aq_, ar_, V.inn, us, T9_, Ta_] <;> ((try simp [b6_]))))
 refine .seq (.seq (.rgn [] (by simp only [go_sem, seval, as_, am_]; rfl) ?_ ?_))
 ·(first | trivial | (simp; done) | (simp only [T3_] at h17; simp [b6_, cb_]; omega))
 refine .condB (by simp only [go_sem, seval, as_, am_]; rfl) (by simp only [go_sem, seval, as_, am_]) (fun h17 => ?_) (fun h17 => ?_)
 ·refine .skip (.seq (.block (.rgn [] (by simp only [go_sem, seval, as_, am_, n9_ (show k < ts.length by simpa using h17)]; rfl) ?_ ?_)))
  ·(first | trivial | (simp; done) | (simp only [T3_] at h17; simp [b6_, cb_]; omega))
  refine .rgn [] (by simp only [go_sem, seval, as_, am_]; rfl) ?_ ?_
  ·(first | trivial | (simp; done) | (simp only [T3_] at h17; simp [b6_, cb_]; omega))
  refine Exists.intro (k + 1) ⟨?_, ?_, ?_⟩
  ·simp at h17; omega
  ·simp at h17; omega
  refine Can.trans (Can.swap 37 23 (by decide) (by decide) (by decide) (by decide) (by simp only [go_sem, seval, as_, am_, V.cl]) (by simp only [go_sem, seval, as_, am_, V.cl]) (by simp only [go_sem, seval, as_, am_, by_, sw, swM, rnB] <;> rfl) (by simp only [go_sem, seval, as_, am_, by_, sw, swM, rnB] <;> rfl) (by simp only [go_sem, seval, as_, am_, by_, sw, swM, rnB] <;> rfl)) ?_
  exact Can.weak (Weak.lit (by simp only [go_sem, seval, as_, am_, at_, leV, aq_, ar_, V.inn, us, T9_, Ta_] <;> (rw [bp_ (by simp at h17; omega) (by simp at h17; omega)]; (try simp))) (by simp only [go_sem, seval, as_, am_, at_, leV, aq_, ar_, V.inn, us, T9_, Ta_]) (by simp only [go_sem, seval, as_, am_, at_, leV, aq_, ar_, V.inn, us, T9_, Ta_] <;> (simp only [T3_] at h17; rw [List.take_add_one, T6_ (show k < ts.length by omega)]; simp [-List.map_take, -List.take_append_getElem, b6_, T8_, T6_ (show k < ts.length by omega)])))
 ·refine .exit (.seq (.rgn [] (by simp only [go_sem, seval, as_, am_]; rfl) ?_ ?_))
  ·(first | trivial | (simp; done) | (simp only [T3_] at h17; simp [b6_, cb_]; omega))
  refine .frz 23 (by simp only [go_sem, seval, as_, am_]; rfl) (by simp only [go_sem, seval, as_, am_]) (by simp only [go_sem, seval, as_, am_]; rfl) (by simp only [go_sem, seval, as_, am_]; rfl) ?_
  refine .ret ⟨.inr rfl, ?_⟩
  exact Out.plainL (by simp only [Tryz.results184]; rfl) (by simp only [az_, bj_, go_sem, seval, as_, am_] <;> (split <;> rfl)) (by simp only [bg_, go_sem, seval, as_, am_] <;> (simp at h17; rw [T1_ h17, if_pos (by simpa using hI)]; simp [peel, leV, ap_, b6_, T1_, h17])) (by simp only [go_sem, seval, as_, am_])
theorem ahg_ (l : List Str) (hl : l.length < 4611686018427387904) : ACall En 230 [.sl false (b6_ l)] [] [.i .i64 (d2_ l b3_)] [] := by
 refine al_ (fn := Tryz.f230) [] Tryz.func230 rfl rfl (by simp) fun C => ?_
 rw [ay_]
 simp only [Tryz.ntmps230, T7_, List.length_nil, Nat.reduceAdd, Nat.reduceSub, List.replicate_succ, List.replicate_zero, List.cons_append, List.nil_append, bs_]
 refine .seq (.rgn [] (by simp only [go_sem, seval, ac_, ab_]; rfl) ?_ ?_)
 ·first | trivial | simp
 refine .seq (.seq (.rgn [] (by simp only [go_sem, seval, ac_, ab_]; rfl) ?_ ?_))
 ·first | trivial | simp
 refine .block (.loopK (fun k : Nat => ⟨[.sl false (b6_ l), .no, .no, .i .i64 k, .no, .no, .no, .no, .no, .no, .no, .no, .no, .no, .no, .no], a7_ [], us []⟩) (fun k : Nat => k ≤ l.length ∧ ∀ x ∈ l.take k, x ≠ b3_) (fun k : Nat => l.length - k) (0) ?_ ?_ (fun k hI => ?_))
 ·simp
 ·exact Can.weak (Weak.lit (by simp only [go_sem, seval, ac_, ab_, at_, leV, aq_, ar_, V.inn, us, T9_, Ta_] <;> (simp)) (by simp only [go_sem, seval, ac_, ab_, at_, leV, aq_, ar_, V.inn, us, T9_, Ta_]) (by simp only [go_sem, seval, ac_, ab_, at_, leV, aq_, ar_, V.inn, us, T9_, Ta_]))
 refine .seq (.seq (.rgn [] (by simp only [go_sem, seval, ac_, ab_]; rfl) ?_ ?_))
 ·first | trivial | simp
 refine .condB (by simp only [go_sem, seval, ac_, ab_]; rfl) (by simp only [go_sem, seval, ac_, ab_]) (fun h7 => ?_) (fun h7 => ?_)
 ·refine .skip (.seq (.block (.seq (.rgn [] (by simp only [go_sem, seval, ac_, ab_, cy_ (show k < l.length by simpa using h7)]; rfl) ?_ ?_))))
  ·simp at h7; simp [ac_, h7]
  refine .condB (by simp only [go_sem, seval, ac_, ab_]; rfl) (by simp only [go_sem, seval, ac_, ab_]) (fun h14 => ?_) (fun h14 => ?_)
  ·refine .seq (.rgn [] (by simp only [go_sem, seval, ac_, ab_]; rfl) ?_ ?_)
   ·first | trivial | simp
   refine .ret ⟨.inr rfl, ?_⟩
   exact Out.plain (by simp only [Tryz.results230]; rfl) (by simp only [az_, bj_, go_sem, seval, ac_, ab_] <;> (split <;> rfl)) (by simp only [bg_, go_sem, seval, ac_, ab_] <;> (simp at h7; obtain ⟨g1, g2⟩ := vq_ h7 hI.2 (eq_of_beq h14); unfold d2_; rw [if_pos g1, g2])) (by simp only [go_sem, seval, ac_, ab_])
  ·refine .skip (.rgn [] (by simp only [go_sem, seval, ac_, ab_]; rfl) ?_ ?_)
   ·first | trivial | simp
   refine Exists.intro (k + 1) ⟨?_, ?_, ?_⟩
   ·simp at h7; refine ⟨by omega, fun x hx => ?_⟩; rw [List.take_add_one, List.mem_append, T6_ h7] at hx; rcases hx with hx | hx; exact hI.2 x hx; simp at hx; subst hx; simp [T8_, T6_ h7] at h14; exact h14
   ·simp at h7; omega
   exact Can.weak (Weak.lit (by simp only [go_sem, seval, ac_, ab_, at_, leV, aq_, ar_, V.inn, us, T9_, Ta_] <;> (rw [bp_ (by omega) (by omega)]; simp)) (by simp only [go_sem, seval, ac_, ab_, at_, leV, aq_, ar_, V.inn, us, T9_, Ta_]) (by simp only [go_sem, seval, ac_, ab_, at_, leV, aq_, ar_, V.inn, us, T9_, Ta_]))
 ·refine .exit (.seq (.rgn [] (by simp only [go_sem, seval, ac_, ab_]; rfl) ?_ ?_))
  ·first | trivial | simp
  refine .ret ⟨.inr rfl, ?_⟩
  exact Out.plain (by simp only [Tryz.results230]; rfl) (by simp only [az_, bj_, go_sem, seval, ac_, ab_] <;> (split <;> rfl)) (by simp only [bg_, go_sem, seval, ac_, ab_] <;> (simp at h7; have : ¬ b3_ ∈ l := fun hm => hI.2 b3_ (by rw [T1_ h7]; exact hm) rfl; simp [d2_, this])) (by simp only [go_sem, seval, ac_, ab_])
end
section
set_option maxRecDepth 100000
set_option maxHeartbeats 8000000
theorem t0_ (w : List Str) (k : Nat) (c : Bool) (hc : c = true → k < w.length) : (c = true → c = true ∧ (k : Int) < w.length ∧ ((b6_ w).getD k []).length = 1) ∧ (c = true → (c = true ∧ 1 ≤ ((b6_ w).getD k []).length) ∧ ({ v := ((b6_ w).getD k []).getD 0 .no } : Eff) = { v := .s (w.getD k []) }) := by
 have e := fun h => cy_ (l := w) (hc h)
 exact ⟨fun h => ⟨h, by have := hc h; omega, by rw [e h]; rfl⟩, fun h => ⟨⟨h, by rw [e h]; exact Nat.le_refl _⟩, by rw [e h]; rfl⟩⟩
theorem qm_ {w : List Str} (h : ((w.length : Int) == 0) = false) : 0 < w.length := by
 rw [beq_eq_false_iff_ne] at h; omega
theorem ri_ {w : List Str} {b : Bool} (h : (w.getD 0 [] == [108, 101, 116] && decide ((w.length : Int) > 5) && w.getD 2 [] == [58] && w.getD 4 [] == [61]) = b) : (b = true ↔ (w.getD 0 [] = h1_ ∧ 5 < w.length ∧ w.getD 2 [] = hm_ ∧ w.getD 4 [] = wEq)) := by
 rw [← h]
 simp only [T5_, beq_iff_eq, T3_, h1_, hm_, wEq, and_assoc]
 constructor
 ·rintro ⟨a, b, c, d⟩; exact ⟨a, by omega, c, d⟩
 ·rintro ⟨a, b, c, d⟩; exact ⟨a, by omega, c, d⟩
theorem sl_ {w : List Str} {b : Bool} (h : (w.getD 0 [] == [119, 104, 101, 110] && decide (d2_ w [115, 97, 121] > 0)) = b) : (b = true ↔ (w.getD 0 [] = dt_ ∧ 0 < d2_ w b3_)) := by
 rw [← h]
 simp only [T5_, beq_iff_eq, T3_, dt_, b3_]
 try exact Iff.rfl
theorem ac0_ (w : List Str) (hw : smW w) (hl : w.length ≤ 100000) : ACall En 185 [.sl false (b6_ w)] [] [.ag (sC (e4_ w).1), .b (e4_ w).2] [] := by
 have hs := z1_ w b3_
 have hss := ahg_ w (by omega)
 simp only [b3_] at hs hss
 have hsw : IntKind.i64.wrap (d2_ w [115, 97, 121] + 1) = d2_ w [115, 97, 121] + 1 := bp_ (by omega) (by omega)
 have ht : 0 < d2_ w [115, 97, 121] → (d2_ w [115, 97, 121] + 1).toNat = (d2_ w [115, 97, 121]).toNat + 1 := fun h => by omega
 refine al_ (fn := Tryz.f185) [] Tryz.func185 rfl rfl (by simp) fun C => ?_
 rw [ay_]
 simp only [Tryz.ntmps185, T7_, List.length_nil, Nat.reduceAdd, Nat.reduceSub, List.replicate_succ, List.replicate_zero, List.cons_append, List.nil_append, bs_]
 refine .seq (.rgn [] (by simp only [go_sem, seval, asO, ac_, ab_, bh_, bi_, b3_, hsw, a5_, bk_]; rfl) ?_ ?_)
 ·(first | trivial | (simp; done) | (simp [bn_]; done) | (simp [bn_]; omega))
 refine .seq (.rgn [] (by simp only [go_sem, seval, asO, ac_, ab_, bh_, bi_, b3_, hsw, a5_, bk_]; rfl) ?_ ?_)
 ·(first | trivial | (simp; done) | (simp [bn_]; done) | (simp [bn_]; omega))
 refine .seq (.block (.seq (.rgn [] (by simp only [go_sem, seval, asO, ac_, ab_, bh_, bi_, b3_, hsw, a5_, bk_]; rfl) ?_ ?_)))
 ·(first | trivial | (simp; done) | (simp [bn_]; done) | (simp [bn_]; omega))
 refine .condB (by simp only [go_sem, seval, asO, ac_, ab_, bh_, bi_, b3_, hsw, a5_, bk_]; rfl) (by simp only [go_sem, seval, asO, ac_, ab_, bh_, bi_, b3_, hsw, a5_, bk_]) (fun h15 => ?_) (fun h15 => ?_)
 ·refine .seq (.rgn [] (by simp only [go_sem, seval, asO, ac_, ab_, bh_, bi_, b3_, hsw, a5_, bk_]; rfl) ?_ ?_)
  ·(first | trivial | (simp; done) | (simp [bn_]; done) | (simp [bn_]; omega))
  refine .ret ⟨.inr rfl, ?_⟩
  exact Out.plainL (by simp only [Tryz.results185]; rfl) (by simp only [az_, bj_, go_sem, seval, asO, ac_, ab_, bh_, bi_, b3_, hsw, a5_, bk_] <;> (split <;> rfl)) (by simp only [bg_, go_sem, seval, asO, ac_, ab_, bh_, bi_, b3_, hsw, a5_, bk_] <;> ((have e : e4_ w = (S0, true) := (by unfold e4_; rw [if_pos (by simpa using h15)])); rw [e, an_]; simp [les, leV, ler, ap_, k1_, ky_, k2_, eg_, fj_, S0])) (by simp only [go_sem, seval, asO, ac_, ab_, bh_, bi_, b3_, hsw, a5_, bk_])
 ·refine .seq (.rgnS [33, 39] [asO En { v := .s (w.getD 2 []) }, asO En { v := .s (w.getD 4 []) }] (by simp only [go_sem, seval, asO, ac_, ab_, bh_, bi_, b3_, hsw, a5_, bk_, cy_ (qm_ h15)]; rfl) ?_ ?_)
  ·have k1 : (w.getD 0 [] == [108, 101, 116] && decide ((w.length : Int) > 5)) = true → 2 < w.length := (fun h => by simp only [T5_, T3_] at h; omega); have k2 : (w.getD 0 [] == [108, 101, 116] && decide ((w.length : Int) > 5) && w.getD 2 [] == [58]) = true → 4 < w.length := (fun h => by simp only [T5_, T3_] at h; omega); exact ⟨⟨⟨⟨by have := qm_ h15; omega, (t0_ w 2 _ k1).1⟩, (t0_ w 2 _ k1).2⟩, (t0_ w 4 _ k2).1⟩, (t0_ w 4 _ k2).2⟩
  refine .condB (by simp only [go_sem, seval, asO, ac_, ab_, bh_, bi_, b3_, hsw, a5_, bk_]; rfl) (by simp only [go_sem, seval, asO, ac_, ab_, bh_, bi_, b3_, hsw, a5_, bk_]) (fun h20 => ?_) (fun h20 => ?_)
  ·refine .seq (.rgn [a9_ (hs_ (w.drop 5) (el_ hw 5) (by simp; omega))] (by simp only [go_sem, seval, asO, ac_, ab_, bh_, bi_, b3_, hsw, a5_, bk_]; rfl) ?_ ?_)
   ·have h5 := ((ri_ h20).1 rfl).2.1; refine ⟨⟨by omega, .inr (of_eq_true (bn_ w))⟩, ?_⟩; rw [List.take_length]; exact ap_ _
   refine .seq (.rgnD [] enM (by simp only [go_sem, seval, asO, ac_, ab_, bh_, bi_, b3_, hsw, a5_, bk_, cy_ (show 1 < w.length by simp at h20; omega), cy_ (show 3 < w.length by simp at h20; omega)]; rfl) (by rfl) ?_ ?_)
   ·have h5 := ((ri_ h20).1 rfl).2.1; exact ⟨by omega, rfl⟩
   refine .ret ⟨.inr rfl, ?_⟩
   exact Out.plainL (by simp only [Tryz.results185]; rfl) (by simp only [az_, bj_, go_sem, seval, asO, ac_, ab_, bh_, bi_, b3_, hsw, a5_, bk_] <;> (split <;> rfl)) (by simp only [bg_, go_sem, seval, asO, ac_, ab_, bh_, bi_, b3_, hsw, a5_, bk_] <;> ((have e : e4_ w = (⟨1, w.getD 1 [], w.getD 3 [], ex (w.drop 5), E0⟩, kn_ (w.drop 5)) := (by have := qm_ h15; unfold e4_; rw [if_neg (by omega), if_pos ((ri_ h20).1 rfl)]; rfl)); rw [e, an_]; simp [les, leV, ler, ap_, k1_, ky_, k2_, eg_, fj_, kn_])) (by simp only [go_sem, seval, asO, ac_, ab_, bh_, bi_, b3_, hsw, a5_, bk_])
  ·refine .seq (.rgn [] (by simp only [go_sem, seval, asO, ac_, ab_, bh_, bi_, b3_, hsw, a5_, bk_, cy_ (qm_ h15)]; rfl) ?_ ?_)
   ·have := qm_ h15; omega
   refine .condB (by simp only [go_sem, seval, asO, ac_, ab_, bh_, bi_, b3_, hsw, a5_, bk_]; rfl) (by simp only [go_sem, seval, asO, ac_, ab_, bh_, bi_, b3_, hsw, a5_, bk_]) (fun h57 => ?_) (fun h57 => ?_)
   ·refine .seq (.rgn [a9_ (hs_ (w.drop 1) (el_ hw 1) (by simp; omega))] (by simp only [go_sem, seval, asO, ac_, ab_, bh_, bi_, b3_, hsw, a5_, bk_]; rfl) ?_ ?_)
    ·have h5 := qm_ h15; refine ⟨⟨by omega, .inr (of_eq_true (bn_ w))⟩, ?_⟩; rw [List.take_length]; exact ap_ _
    refine .seq (.rgn [] (by simp only [go_sem, seval, asO, ac_, ab_, bh_, bi_, b3_, hsw, a5_, bk_]; rfl) ?_ ?_)
    ·(first | trivial | (simp; done) | (simp [bn_]; done) | (simp [bn_]; omega))
    refine .ret ⟨.inr rfl, ?_⟩
    exact Out.plainL (by simp only [Tryz.results185]; rfl) (by simp only [az_, bj_, go_sem, seval, asO, ac_, ab_, bh_, bi_, b3_, hsw, a5_, bk_] <;> (split <;> rfl)) (by simp only [bg_, go_sem, seval, asO, ac_, ab_, bh_, bi_, b3_, hsw, a5_, bk_] <;> ((have e : e4_ w = (⟨2, [], [], ex (w.drop 1), E0⟩, kn_ (w.drop 1)) := (by have := qm_ h15; unfold e4_; rw [if_neg (by omega), if_neg (fun h => absurd ((ri_ h20).2 h) (by decide)), if_pos (by simpa [b3_] using h57)]; rfl)); rw [e, an_]; simp [les, leV, ler, ap_, k1_, ky_, k2_, eg_, fj_, kn_])) (by simp only [go_sem, seval, asO, ac_, ab_, bh_, bi_, b3_, hsw, a5_, bk_])
   ·refine .seq (.rgn [a9_ hss] (by simp only [go_sem, seval, asO, ac_, ab_, bh_, bi_, b3_, hsw, a5_, bk_, cy_ (qm_ h15)]; rfl) ?_ ?_)
    ·have := qm_ h15; omega
    refine .condB (by simp only [go_sem, seval, asO, ac_, ab_, bh_, bi_, b3_, hsw, a5_, bk_]; rfl) (by simp only [go_sem, seval, asO, ac_, ab_, bh_, bi_, b3_, hsw, a5_, bk_]) (fun h71 => ?_) (fun h71 => ?_)
    ·refine .seq (.rgn [a9_ hss] (by simp only [go_sem, seval, asO, ac_, ab_, bh_, bi_, b3_, hsw, a5_, bk_]; rfl) ?_ ?_)
     ·(first | trivial | (simp; done) | (simp [bn_]; done) | (simp [bn_]; omega))
     refine .seq (.rgn [a9_ (hs_ ((w.take (d2_ w b3_).toNat).drop 1) (el_ (lh_ hw _) 1) (by simp; omega))] (by simp only [go_sem, seval, asO, ac_, ab_, bh_, bi_, b3_, hsw, a5_, bk_]; rfl) ?_ ?_)
     ·have h5 := ((sl_ h71).1 rfl).2; simp only [b3_] at h5; exact ⟨⟨by omega, by omega, by omega, fun h => absurd rfl h⟩, .inr (of_eq_true (bn_ w))⟩
     refine .seq (.rgn [a9_ (hs_ (w.drop ((d2_ w b3_).toNat + 1)) (el_ hw _) (by simp; omega))] (by simp only [go_sem, seval, asO, ac_, ab_, bh_, bi_, b3_, hsw, a5_, bk_]; rfl) ?_ ?_)
     ·have h5 := ((sl_ h71).1 rfl).2; simp only [b3_] at h5; refine ⟨⟨by omega, .inr (of_eq_true (bn_ w))⟩, ?_⟩; rw [List.take_length, ht h5]; exact ap_ _
     refine .seq (.rgn [] (by simp only [go_sem, seval, asO, ac_, ab_, bh_, bi_, b3_, hsw, a5_, bk_]; rfl) ?_ ?_)
     ·(first | trivial | (simp; done) | (simp [bn_]; done) | (simp [bn_]; omega))
     refine .ret ⟨.inr rfl, ?_⟩
     exact Out.plainL (by simp only [Tryz.results185]; rfl) (by simp only [az_, bj_, go_sem, seval, asO, ac_, ab_, bh_, bi_, b3_, hsw, a5_, bk_] <;> (split <;> rfl)) (by simp only [bg_, go_sem, seval, asO, ac_, ab_, bh_, bi_, b3_, hsw, a5_, bk_] <;> ((have e : e4_ w = (⟨3, [], [], ex ((w.take (d2_ w b3_).toNat).drop 1), ex (w.drop ((d2_ w b3_).toNat + 1))⟩, kn_ ((w.take (d2_ w b3_).toNat).drop 1) && kn_ (w.drop ((d2_ w b3_).toNat + 1))) := (by have := qm_ h15; unfold e4_; rw [if_neg (by omega), if_neg (fun h => absurd ((ri_ h20).2 h) (by decide)), if_neg (by simpa [b3_] using h57), if_pos ((sl_ h71).1 rfl)]; rfl)); rw [e, an_]; simp [b3_, les, leV, ler, ap_, k1_, ky_, k2_, eg_, fj_, kn_])) (by simp only [go_sem, seval, asO, ac_, ab_, bh_, bi_, b3_, hsw, a5_, bk_])
    ·refine .skip (.seq (.rgn [] (by simp only [go_sem, seval, asO, ac_, ab_, bh_, bi_, b3_, hsw, a5_, bk_]; rfl) ?_ ?_))
     ·(first | trivial | (simp; done) | (simp [bn_]; done) | (simp [bn_]; omega))
     refine .ret ⟨.inr rfl, ?_⟩
     exact Out.plainL (by simp only [Tryz.results185]; rfl) (by simp only [az_, bj_, go_sem, seval, asO, ac_, ab_, bh_, bi_, b3_, hsw, a5_, bk_] <;> (split <;> rfl)) (by simp only [bg_, go_sem, seval, asO, ac_, ab_, bh_, bi_, b3_, hsw, a5_, bk_] <;> ((have e : e4_ w = (S0, false) := (by have := qm_ h15; unfold e4_; rw [if_neg (by omega), if_neg (fun h => absurd ((ri_ h20).2 h) (by decide)), if_neg (by simpa [b3_] using h57), if_neg (fun h => absurd ((sl_ h71).2 h) (by decide))])); rw [e, an_]; simp [les, leV, ler, ap_, k1_, ky_, k2_, eg_, fj_, S0])) (by simp only [go_sem, seval, asO, ac_, ab_, bh_, bi_, b3_, hsw, a5_, bk_])
theorem nm_ {line : Str} (h : ¬ ((b1_ line).isSome = true ∧ (e4_ (dc_ line)).2 = true ∧ sok (e4_ (dc_ line)).1 = true ∧ b9_ (sw' (e4_ (dc_ line)).1) = line)) : k0_ line = none := by
 unfold k0_ dc_ at *
 cases ht : b1_ line with
 | none => rfl
 | some ts =>
  rw [ht] at h
  simp only [Option.getD_some] at h
  dsimp only
  rw [if_neg]
  exact fun q => h ⟨rfl, q⟩
theorem vu_ {line : Str} (h : (b1_ line).isSome = true) (h0 : (e4_ (dc_ line)).2 = true) (h1 : sok (e4_ (dc_ line)).1 = true) (h2 : b9_ (sw' (e4_ (dc_ line)).1) = line) : k0_ line = some (e4_ (dc_ line)).1 := by
 unfold k0_ dc_ at *
 cases ht : b1_ line with
 | none => rw [ht] at h; cases h
 | some ts =>
  rw [ht] at h0 h1 h2
  simp only [Option.getD_some] at h0 h1 h2 ⊢
  rw [if_pos ⟨h0, h1, h2⟩]
theorem ah6_ {w : List Str} (h : smW w) : gz_ (e4_ w).1 = true := by
 have g := yi_ h
 have e := fun k => yt_ (el_ h k)
 have e0 : sm E0 = true := by decide
 unfold e4_
 split
 ·decide
 ·split
  ·simp only [gz_, e, e0, Bool.and_true, T5_, T3_]; have := g 1; have := g 3; omega
  ·split
   ·simp only [gz_, e, e0, Bool.and_true]; rfl
   ·split
    ·simp only [gz_, e, yt_ (el_ (lh_ h _) 1), Bool.and_true]; rfl
    ·decide
theorem uo_ (line : Str) (hl : line.length ≤ 281474976710656) : ACall En 129 [.s line] [] [.ag (sC ((dm_ line).getD S0)), .b (dm_ line).isSome] [] := by
 obtain ⟨w1, w2⟩ := t2_ line
 have hs := ah6_ w1
 rw [acg_]
 refine al_ (fn := Tryz.f129) [] Tryz.func129 rfl rfl (by simp) fun C => ?_
 rw [ay_]
 simp only [Tryz.ntmps129, T7_, List.length_nil, Nat.reduceAdd, Nat.reduceSub, List.replicate_succ, List.replicate_zero, List.cons_append, List.nil_append, bs_]
 refine .seq (.rgn [] (by simp only [go_sem, seval, ab_, a5_, an_]; rfl) ?_ ?_)
 ·first | trivial | simp
 refine .seq (.rgn [a9_ (aeg_ line hl)] (by simp only [go_sem, seval, ab_, a5_, an_]; rfl) ?_ ?_)
 ·first | trivial | simp
 refine .seq (.seq (.rgn [] (by simp only [go_sem, seval, ab_, a5_, an_]; rfl) ?_ ?_))
 ·first | trivial | simp
 refine .condB (by simp only [go_sem, seval, ab_, a5_, an_]; rfl) (by simp only [go_sem, seval, ab_, a5_, an_]) (fun h14 => ?_) (fun h14 => ?_)
 ·refine .seq (.rgn [] (by simp only [go_sem, seval, ab_, a5_, an_]; rfl) ?_ ?_)
  ·first | trivial | simp
  refine .ret ⟨.inr rfl, ?_⟩
  exact Out.plainL (by simp only [Tryz.results129]; rfl) (by simp only [az_, bj_, go_sem, seval, ab_, a5_, an_] <;> (split <;> rfl)) (by simp only [bg_, go_sem, seval, ab_, a5_, an_] <;> (rw [nm_ (fun q => by rw [q.1] at h14; simp at h14)]; simp [S0, les, leV, ler, ap_, k1_, ky_, k2_, eg_, fj_])) (by simp only [go_sem, seval, ab_, a5_, an_])
 ·refine .skip (.seq (.rgn [a9_ (ac0_ (dc_ line) w1 (by omega))] (by simp only [go_sem, seval, ab_, a5_, an_]; rfl) ?_ ?_))
  ·first | trivial | simp
  refine .seq (.seq (.rgn [a9_ (q5_ (e4_ (dc_ line)).1 hs), cw_ (sok (e4_ (dc_ line)).1 = true) (fun h => jy_ (e4_ (dc_ line)).1 (d3_ h) hs), cw_ (sok (e4_ (dc_ line)).1 = true) (fun h => iv_ (sw' (e4_ (dc_ line)).1) (by have := (nh_ (d3_ h)).1; omega) (by have := n6_ (d3_ h); omega))] (by simp only [go_sem, seval, ab_, a5_, an_]; rfl) ?_ ?_))
  ·first | trivial | simp
  refine .condB (by simp only [go_sem, seval, ab_, a5_, an_]; rfl) (by simp only [go_sem, seval, ab_, a5_, an_]) (fun h34 => ?_) (fun h34 => ?_)
  ·refine .seq (.rgn [] (by simp only [go_sem, seval, ab_, a5_, an_]; rfl) ?_ ?_)
   ·first | trivial | simp
   refine .ret ⟨.inr rfl, ?_⟩
   exact Out.plainL (by simp only [Tryz.results129]; rfl) (by simp only [az_, bj_, go_sem, seval, ab_, a5_, an_] <;> (split <;> rfl)) (by simp only [bg_, go_sem, seval, ab_, a5_, an_] <;> (rw [nm_ (by intro q; simp [q.1, q.2.1, q.2.2] at h34)]; simp [S0, les, leV, ler, ap_, k1_, ky_, k2_, eg_, fj_])) (by simp only [go_sem, seval, ab_, a5_, an_])
  ·refine .skip (.seq (.rgn [] (by simp only [go_sem, seval, ab_, a5_, an_]; rfl) ?_ ?_))
   ·first | trivial | simp
   refine .ret ⟨.inr rfl, ?_⟩
   exact Out.plainL (by simp only [Tryz.results129]; rfl) (by simp only [az_, bj_, go_sem, seval, ab_, a5_, an_] <;> (split <;> rfl)) (by simp only [bg_, go_sem, seval, ab_, a5_, an_] <;> (rw [vu_ (by simp at h14; exact h14) (by simp at h34; exact h34.1.1) (by simp at h34; exact h34.1.2) (by simp at h34; exact h34.2)]; simp [les, leV, ler, ap_])) (by simp only [go_sem, seval, ab_, a5_, an_])
end
section
set_option maxRecDepth 100000
set_option maxHeartbeats 8000000
end
end Go.Proofs.YtcigkafioinfoaaGreatDoor
