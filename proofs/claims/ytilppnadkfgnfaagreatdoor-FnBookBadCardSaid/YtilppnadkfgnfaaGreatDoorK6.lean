/- The words of a line; where a word stands: the reference's. Conditions: none. -/
import Derived.Test.YtilppnadkfgnfaaGreatDoorK5
import Derived.Test.YtilppnadkfgnfaaGreatDoorKg
import Derived.Test.YtilppnadkfgnfaaGreatDoorKl
import Derived.Test.YtilppnadkfgnfaaGreatDoorKi
set_option linter.unusedVariables false
set_option linter.unusedSimpArgs false
namespace Go.Proofs.YtilppnadkfgnfaaGreatDoor
section
set_option maxRecDepth 100000
set_option maxHeartbeats 4000000
theorem adt_ (s : Str) (hs : s.length ≤ 281474976710656) : ACall En 132 [.s s] [] [.sl false (bn_ (cz_ s)), .b (br_ s).isSome] [] := by
 have T := o2_ s hs
 have hb := pe_ s
 unfold cz_
 generalize (br_ s).getD [] = ts at *
 refine al_ (fn := Tryz.f132) [] Tryz.func132 rfl rfl (by simp) fun C => ?_
 rw [ay_]
 simp only [Tryz.ntmps132, T7_, List.length_nil, Nat.reduceAdd, Nat.reduceSub, List.replicate_succ, List.replicate_zero, List.cons_append, List.nil_append, bp_]
 refine .seq (.rgn [] (by simp only [go_sem, seval, at_, an_]; rfl) ?_ ?_)
 ·(first | trivial | (simp; done) | (simp only [T3_] at h17; simp [bn_, bx_]; omega))
 refine .seq (.rgn [a4_ T] (by simp only [go_sem, seval, at_, an_]; rfl) ?_ ?_)
 ·(first | trivial | (simp; done) | (simp only [T3_] at h17; simp [bn_, bx_]; omega))
 refine .seq (.rgn [] (by simp only [go_sem, seval, at_, an_]; rfl) ?_ ?_)
 ·(first | trivial | (simp; done) | (simp only [T3_] at h17; simp [bn_, bx_]; omega))
 refine .seq (.seq (.rgn [] (by simp only [go_sem, seval, at_, an_]; rfl) ?_ ?_))
 ·(first | trivial | (simp; done) | (simp only [T3_] at h17; simp [bn_, bx_]; omega))
 refine .block (.loopK (fun k : Nat => ⟨[.no, .no, .no, .no, .sl false (tkR ts), .b (br_ s).isSome, .ow 23 1 0 k, .i .i64 k, .no, .no, .no, .no, .no, .no, .no, .no, .no, .no, .no, .no, .no, .no, .no, .no, .no, .no, .no, .no, .no, .no], bc_ [(23, ⟨9, 1, bn_ ((ts.take k).map (·.s))⟩)], us [23]⟩) (fun k : Nat => k ≤ ts.length) (fun k : Nat => ts.length - k) (0) ?_ ?_ (fun k hI => ?_))
 ·simp
 ·refine Can.trans (Can.ownSlot 6 23 9 1 (by simp only [go_sem, seval, at_, an_] <;> rfl) (by simp only [go_sem, seval, at_, an_]) (by simp only [go_sem, seval, at_, an_] <;> rfl)) ?_
  exact Can.weak (Weak.lit (by simp only [go_sem, seval, at_, an_, as_, leV, aq_, ar_, V.inn, us, T9_, Ta_] <;> ((try simp))) (by simp only [go_sem, seval, at_, an_, as_, leV, aq_, ar_, V.inn, us, T9_, Ta_]) (by simp only [go_sem, seval, at_, an_, as_, leV, aq_, ar_, V.inn, us, T9_, Ta_] <;> ((try simp [bn_]))))
 refine .seq (.seq (.rgn [] (by simp only [go_sem, seval, at_, an_]; rfl) ?_ ?_))
 ·(first | trivial | (simp; done) | (simp only [T3_] at h17; simp [bn_, bx_]; omega))
 refine .condB (by simp only [go_sem, seval, at_, an_]; rfl) (by simp only [go_sem, seval, at_, an_]) (fun h17 => ?_) (fun h17 => ?_)
 ·refine .skip (.seq (.block (.rgn [] (by simp only [go_sem, seval, at_, an_, n6_ (show k < ts.length by simpa using h17)]; rfl) ?_ ?_)))
  ·(first | trivial | (simp; done) | (simp only [T3_] at h17; simp [bn_, bx_]; omega))
  refine .rgn [] (by simp only [go_sem, seval, at_, an_]; rfl) ?_ ?_
  ·(first | trivial | (simp; done) | (simp only [T3_] at h17; simp [bn_, bx_]; omega))
  refine Exists.intro (k + 1) ⟨?_, ?_, ?_⟩
  ·simp at h17; omega
  ·simp at h17; omega
  refine Can.trans (Can.swap 37 23 (by decide) (by decide) (by decide) (by decide) (by simp only [go_sem, seval, at_, an_, V.cl]) (by simp only [go_sem, seval, at_, an_, V.cl]) (by simp only [go_sem, seval, at_, an_, bi_, sw, swM, rnB] <;> rfl) (by simp only [go_sem, seval, at_, an_, bi_, sw, swM, rnB] <;> rfl) (by simp only [go_sem, seval, at_, an_, bi_, sw, swM, rnB] <;> rfl)) ?_
  exact Can.weak (Weak.lit (by simp only [go_sem, seval, at_, an_, as_, leV, aq_, ar_, V.inn, us, T9_, Ta_] <;> (rw [bf_ (by simp at h17; omega) (by simp at h17; omega)]; (try simp))) (by simp only [go_sem, seval, at_, an_, as_, leV, aq_, ar_, V.inn, us, T9_, Ta_]) (by simp only [go_sem, seval, at_, an_, as_, leV, aq_, ar_, V.inn, us, T9_, Ta_] <;> (simp only [T3_] at h17; rw [List.take_add_one, T6_ (show k < ts.length by omega)]; simp [-List.map_take, -List.take_append_getElem, bn_, T8_, T6_ (show k < ts.length by omega)])))
 ·refine .exit (.seq (.rgn [] (by simp only [go_sem, seval, at_, an_]; rfl) ?_ ?_))
  ·(first | trivial | (simp; done) | (simp only [T3_] at h17; simp [bn_, bx_]; omega))
  refine .frz 23 (by simp only [go_sem, seval, at_, an_]; rfl) (by simp only [go_sem, seval, at_, an_]) (by simp only [go_sem, seval, at_, an_]; rfl) (by simp only [go_sem, seval, at_, an_]; rfl) ?_
  refine .ret ⟨.inr rfl, ?_⟩
  exact Out.plainL (by simp only [Tryz.results132]; rfl) (by simp only [az_, a7_, go_sem, seval, at_, an_] <;> (split <;> rfl)) (by simp only [a5_, go_sem, seval, at_, an_] <;> (simp at h17; rw [T1_ h17, if_pos (by simpa using hI)]; simp [peel, leV, bd_, bn_, T1_, h17])) (by simp only [go_sem, seval, at_, an_])
theorem aiw_ (l : List Str) (hl : l.length < 4611686018427387904) : ACall En 170 [.sl false (bn_ l)] [] [.i .i64 (do_ l bs_)] [] := by
 refine al_ (fn := Tryz.f170) [] Tryz.func170 rfl rfl (by simp) fun C => ?_
 rw [ay_]
 simp only [Tryz.ntmps170, T7_, List.length_nil, Nat.reduceAdd, Nat.reduceSub, List.replicate_succ, List.replicate_zero, List.cons_append, List.nil_append, bp_]
 refine .seq (.rgn [] (by simp only [go_sem, seval, ab_, aa_]; rfl) ?_ ?_)
 ·first | trivial | simp
 refine .seq (.seq (.rgn [] (by simp only [go_sem, seval, ab_, aa_]; rfl) ?_ ?_))
 ·first | trivial | simp
 refine .block (.loopK (fun k : Nat => ⟨[.sl false (bn_ l), .no, .no, .i .i64 k, .no, .no, .no, .no, .no, .no, .no, .no, .no, .no, .no, .no], bc_ [], us []⟩) (fun k : Nat => k ≤ l.length ∧ ∀ x ∈ l.take k, x ≠ bs_) (fun k : Nat => l.length - k) (0) ?_ ?_ (fun k hI => ?_))
 ·simp
 ·exact Can.weak (Weak.lit (by simp only [go_sem, seval, ab_, aa_, as_, leV, aq_, ar_, V.inn, us, T9_, Ta_] <;> (simp)) (by simp only [go_sem, seval, ab_, aa_, as_, leV, aq_, ar_, V.inn, us, T9_, Ta_]) (by simp only [go_sem, seval, ab_, aa_, as_, leV, aq_, ar_, V.inn, us, T9_, Ta_]))
 refine .seq (.seq (.rgn [] (by simp only [go_sem, seval, ab_, aa_]; rfl) ?_ ?_))
 ·first | trivial | simp
 refine .condB (by simp only [go_sem, seval, ab_, aa_]; rfl) (by simp only [go_sem, seval, ab_, aa_]) (fun h7 => ?_) (fun h7 => ?_)
 ·refine .skip (.seq (.block (.seq (.rgn [] (by simp only [go_sem, seval, ab_, aa_, b6_ (show k < l.length by simpa using h7)]; rfl) ?_ ?_))))
  ·simp at h7; simp [ab_, h7]
  refine .condB (by simp only [go_sem, seval, ab_, aa_]; rfl) (by simp only [go_sem, seval, ab_, aa_]) (fun h14 => ?_) (fun h14 => ?_)
  ·refine .seq (.rgn [] (by simp only [go_sem, seval, ab_, aa_]; rfl) ?_ ?_)
   ·first | trivial | simp
   refine .ret ⟨.inr rfl, ?_⟩
   exact Out.plain (by simp only [Tryz.results170]; rfl) (by simp only [az_, a7_, go_sem, seval, ab_, aa_] <;> (split <;> rfl)) (by simp only [a5_, go_sem, seval, ab_, aa_] <;> (simp at h7; obtain ⟨g1, g2⟩ := vg_ h7 hI.2 (eq_of_beq h14); unfold do_; rw [if_pos g1, g2])) (by simp only [go_sem, seval, ab_, aa_])
  ·refine .skip (.rgn [] (by simp only [go_sem, seval, ab_, aa_]; rfl) ?_ ?_)
   ·first | trivial | simp
   refine Exists.intro (k + 1) ⟨?_, ?_, ?_⟩
   ·simp at h7; refine ⟨by omega, fun x hx => ?_⟩; rw [List.take_add_one, List.mem_append, T6_ h7] at hx; rcases hx with hx | hx; exact hI.2 x hx; simp at hx; subst hx; simp [T8_, T6_ h7] at h14; exact h14
   ·simp at h7; omega
   exact Can.weak (Weak.lit (by simp only [go_sem, seval, ab_, aa_, as_, leV, aq_, ar_, V.inn, us, T9_, Ta_] <;> (rw [bf_ (by omega) (by omega)]; simp)) (by simp only [go_sem, seval, ab_, aa_, as_, leV, aq_, ar_, V.inn, us, T9_, Ta_]) (by simp only [go_sem, seval, ab_, aa_, as_, leV, aq_, ar_, V.inn, us, T9_, Ta_]))
 ·refine .exit (.seq (.rgn [] (by simp only [go_sem, seval, ab_, aa_]; rfl) ?_ ?_))
  ·first | trivial | simp
  refine .ret ⟨.inr rfl, ?_⟩
  exact Out.plain (by simp only [Tryz.results170]; rfl) (by simp only [az_, a7_, go_sem, seval, ab_, aa_] <;> (split <;> rfl)) (by simp only [a5_, go_sem, seval, ab_, aa_] <;> (simp at h7; have : ¬ bs_ ∈ l := fun hm => hI.2 bs_ (by rw [T1_ h7]; exact hm) rfl; simp [do_, this])) (by simp only [go_sem, seval, ab_, aa_])
end
section
set_option maxRecDepth 100000
set_option maxHeartbeats 8000000
theorem s0_ (w : List Str) (k : Nat) (c : Bool) (hc : c = true → k < w.length) : (c = true → c = true ∧ (k : Int) < w.length ∧ ((bn_ w).getD k []).length = 1) ∧ (c = true → (c = true ∧ 1 ≤ ((bn_ w).getD k []).length) ∧ ({ v := ((bn_ w).getD k []).getD 0 .no } : Eff) = { v := .s (w.getD k []) }) := by
 have e := fun h => b6_ (l := w) (hc h)
 exact ⟨fun h => ⟨h, by have := hc h; omega, by rw [e h]; rfl⟩, fun h => ⟨⟨h, by rw [e h]; exact Nat.le_refl _⟩, by rw [e h]; rfl⟩⟩
theorem qg_ {w : List Str} (h : ((w.length : Int) == 0) = false) : 0 < w.length := by
 rw [beq_eq_false_iff_ne] at h; omega
theorem q4_ {w : List Str} {b : Bool} (h : (w.getD 0 [] == [108, 101, 116] && decide ((w.length : Int) > 5) && w.getD 2 [] == [58] && w.getD 4 [] == [61]) = b) : (b = true ↔ (w.getD 0 [] = hs_ ∧ 5 < w.length ∧ w.getD 2 [] = hf_ ∧ w.getD 4 [] = wEq)) := by
 rw [← h]
 simp only [T5_, beq_iff_eq, T3_, hs_, hf_, wEq, and_assoc]
 constructor
 ·rintro ⟨a, b, c, d⟩; exact ⟨a, by omega, c, d⟩
 ·rintro ⟨a, b, c, d⟩; exact ⟨a, by omega, c, d⟩
theorem s6_ {w : List Str} {b : Bool} (h : (w.getD 0 [] == [119, 104, 101, 110] && decide (do_ w [115, 97, 121] > 0)) = b) : (b = true ↔ (w.getD 0 [] = dh_ ∧ 0 < do_ w bs_)) := by
 rw [← h]
 simp only [T5_, beq_iff_eq, T3_, dh_, bs_]
 try exact Iff.rfl
theorem af1_ (w : List Str) (hw : smW w) (hl : w.length ≤ 100000) : ACall En 133 [.sl false (bn_ w)] [] [.ag (sC (eo_ w).1), .b (eo_ w).2] [] := by
 have hs := zy_ w bs_
 have hss := aiw_ w (by omega)
 simp only [bs_] at hs hss
 have hsw : IntKind.i64.wrap (do_ w [115, 97, 121] + 1) = do_ w [115, 97, 121] + 1 := bf_ (by omega) (by omega)
 have ht : 0 < do_ w [115, 97, 121] → (do_ w [115, 97, 121] + 1).toNat = (do_ w [115, 97, 121]).toNat + 1 := fun h => by omega
 refine al_ (fn := Tryz.f133) [] Tryz.func133 rfl rfl (by simp) fun C => ?_
 rw [ay_]
 simp only [Tryz.ntmps133, T7_, List.length_nil, Nat.reduceAdd, Nat.reduceSub, List.replicate_succ, List.replicate_zero, List.cons_append, List.nil_append, bp_]
 refine .seq (.rgn [] (by simp only [go_sem, seval, asO, ab_, aa_, ba_, a9_, bs_, hsw, a3_, a8_]; rfl) ?_ ?_)
 ·(first | trivial | (simp; done) | (simp [be_]; done) | (simp [be_]; omega))
 refine .seq (.rgn [] (by simp only [go_sem, seval, asO, ab_, aa_, ba_, a9_, bs_, hsw, a3_, a8_]; rfl) ?_ ?_)
 ·(first | trivial | (simp; done) | (simp [be_]; done) | (simp [be_]; omega))
 refine .seq (.block (.seq (.rgn [] (by simp only [go_sem, seval, asO, ab_, aa_, ba_, a9_, bs_, hsw, a3_, a8_]; rfl) ?_ ?_)))
 ·(first | trivial | (simp; done) | (simp [be_]; done) | (simp [be_]; omega))
 refine .condB (by simp only [go_sem, seval, asO, ab_, aa_, ba_, a9_, bs_, hsw, a3_, a8_]; rfl) (by simp only [go_sem, seval, asO, ab_, aa_, ba_, a9_, bs_, hsw, a3_, a8_]) (fun h15 => ?_) (fun h15 => ?_)
 ·refine .seq (.rgn [] (by simp only [go_sem, seval, asO, ab_, aa_, ba_, a9_, bs_, hsw, a3_, a8_]; rfl) ?_ ?_)
  ·(first | trivial | (simp; done) | (simp [be_]; done) | (simp [be_]; omega))
  refine .ret ⟨.inr rfl, ?_⟩
  exact Out.plainL (by simp only [Tryz.results133]; rfl) (by simp only [az_, a7_, go_sem, seval, asO, ab_, aa_, ba_, a9_, bs_, hsw, a3_, a8_] <;> (split <;> rfl)) (by simp only [a5_, go_sem, seval, asO, ab_, aa_, ba_, a9_, bs_, hsw, a3_, a8_] <;> ((have e : eo_ w = (S0, true) := (by unfold eo_; rw [if_pos (by simpa using h15)])); rw [e, ak_]; simp [les, leV, ler, bd_, in_, ik_, ix_, db_, dx_, S0])) (by simp only [go_sem, seval, asO, ab_, aa_, ba_, a9_, bs_, hsw, a3_, a8_])
 ·refine .seq (.rgnS [33, 39] [asO En { v := .s (w.getD 2 []) }, asO En { v := .s (w.getD 4 []) }] (by simp only [go_sem, seval, asO, ab_, aa_, ba_, a9_, bs_, hsw, a3_, a8_, b6_ (qg_ h15)]; rfl) ?_ ?_)
  ·have k1 : (w.getD 0 [] == [108, 101, 116] && decide ((w.length : Int) > 5)) = true → 2 < w.length := (fun h => by simp only [T5_, T3_] at h; omega); have k2 : (w.getD 0 [] == [108, 101, 116] && decide ((w.length : Int) > 5) && w.getD 2 [] == [58]) = true → 4 < w.length := (fun h => by simp only [T5_, T3_] at h; omega); exact ⟨⟨⟨⟨by have := qg_ h15; omega, (s0_ w 2 _ k1).1⟩, (s0_ w 2 _ k1).2⟩, (s0_ w 4 _ k2).1⟩, (s0_ w 4 _ k2).2⟩
  refine .condB (by simp only [go_sem, seval, asO, ab_, aa_, ba_, a9_, bs_, hsw, a3_, a8_]; rfl) (by simp only [go_sem, seval, asO, ab_, aa_, ba_, a9_, bs_, hsw, a3_, a8_]) (fun h20 => ?_) (fun h20 => ?_)
  ·refine .seq (.rgn [a4_ (hl_ (w.drop 5) (d3_ hw 5) (by simp; omega))] (by simp only [go_sem, seval, asO, ab_, aa_, ba_, a9_, bs_, hsw, a3_, a8_]; rfl) ?_ ?_)
   ·have h5 := ((q4_ h20).1 rfl).2.1; refine ⟨⟨by omega, .inr (of_eq_true (be_ w))⟩, ?_⟩; rw [List.take_length]; exact bd_ _
   refine .seq (.rgnD [] enM (by simp only [go_sem, seval, asO, ab_, aa_, ba_, a9_, bs_, hsw, a3_, a8_, b6_ (show 1 < w.length by simp at h20; omega), b6_ (show 3 < w.length by simp at h20; omega)]; rfl) (by rfl) ?_ ?_)
   ·have h5 := ((q4_ h20).1 rfl).2.1; exact ⟨by omega, rfl⟩
   refine .ret ⟨.inr rfl, ?_⟩
   exact Out.plainL (by simp only [Tryz.results133]; rfl) (by simp only [az_, a7_, go_sem, seval, asO, ab_, aa_, ba_, a9_, bs_, hsw, a3_, a8_] <;> (split <;> rfl)) (by simp only [a5_, go_sem, seval, asO, ab_, aa_, ba_, a9_, bs_, hsw, a3_, a8_] <;> ((have e : eo_ w = (⟨1, w.getD 1 [], w.getD 3 [], ex (w.drop 5), E0⟩, ki_ (w.drop 5)) := (by have := qg_ h15; unfold eo_; rw [if_neg (by omega), if_pos ((q4_ h20).1 rfl)]; rfl)); rw [e, ak_]; simp [les, leV, ler, bd_, in_, ik_, ix_, db_, dx_, ki_])) (by simp only [go_sem, seval, asO, ab_, aa_, ba_, a9_, bs_, hsw, a3_, a8_])
  ·refine .seq (.rgn [] (by simp only [go_sem, seval, asO, ab_, aa_, ba_, a9_, bs_, hsw, a3_, a8_, b6_ (qg_ h15)]; rfl) ?_ ?_)
   ·have := qg_ h15; omega
   refine .condB (by simp only [go_sem, seval, asO, ab_, aa_, ba_, a9_, bs_, hsw, a3_, a8_]; rfl) (by simp only [go_sem, seval, asO, ab_, aa_, ba_, a9_, bs_, hsw, a3_, a8_]) (fun h57 => ?_) (fun h57 => ?_)
   ·refine .seq (.rgn [a4_ (hl_ (w.drop 1) (d3_ hw 1) (by simp; omega))] (by simp only [go_sem, seval, asO, ab_, aa_, ba_, a9_, bs_, hsw, a3_, a8_]; rfl) ?_ ?_)
    ·have h5 := qg_ h15; refine ⟨⟨by omega, .inr (of_eq_true (be_ w))⟩, ?_⟩; rw [List.take_length]; exact bd_ _
    refine .seq (.rgn [] (by simp only [go_sem, seval, asO, ab_, aa_, ba_, a9_, bs_, hsw, a3_, a8_]; rfl) ?_ ?_)
    ·(first | trivial | (simp; done) | (simp [be_]; done) | (simp [be_]; omega))
    refine .ret ⟨.inr rfl, ?_⟩
    exact Out.plainL (by simp only [Tryz.results133]; rfl) (by simp only [az_, a7_, go_sem, seval, asO, ab_, aa_, ba_, a9_, bs_, hsw, a3_, a8_] <;> (split <;> rfl)) (by simp only [a5_, go_sem, seval, asO, ab_, aa_, ba_, a9_, bs_, hsw, a3_, a8_] <;> ((have e : eo_ w = (⟨2, [], [], ex (w.drop 1), E0⟩, ki_ (w.drop 1)) := (by have := qg_ h15; unfold eo_; rw [if_neg (by omega), if_neg (fun h => absurd ((q4_ h20).2 h) (by decide)), if_pos (by simpa [bs_] using h57)]; rfl)); rw [e, ak_]; simp [les, leV, ler, bd_, in_, ik_, ix_, db_, dx_, ki_])) (by simp only [go_sem, seval, asO, ab_, aa_, ba_, a9_, bs_, hsw, a3_, a8_])
   ·refine .seq (.rgn [a4_ hss] (by simp only [go_sem, seval, asO, ab_, aa_, ba_, a9_, bs_, hsw, a3_, a8_, b6_ (qg_ h15)]; rfl) ?_ ?_)
    ·have := qg_ h15; omega
    refine .condB (by simp only [go_sem, seval, asO, ab_, aa_, ba_, a9_, bs_, hsw, a3_, a8_]; rfl) (by simp only [go_sem, seval, asO, ab_, aa_, ba_, a9_, bs_, hsw, a3_, a8_]) (fun h71 => ?_) (fun h71 => ?_)
    ·refine .seq (.rgn [a4_ hss] (by simp only [go_sem, seval, asO, ab_, aa_, ba_, a9_, bs_, hsw, a3_, a8_]; rfl) ?_ ?_)
     ·(first | trivial | (simp; done) | (simp [be_]; done) | (simp [be_]; omega))
     refine .seq (.rgn [a4_ (hl_ ((w.take (do_ w bs_).toNat).drop 1) (d3_ (kz_ hw _) 1) (by simp; omega))] (by simp only [go_sem, seval, asO, ab_, aa_, ba_, a9_, bs_, hsw, a3_, a8_]; rfl) ?_ ?_)
     ·have h5 := ((s6_ h71).1 rfl).2; simp only [bs_] at h5; exact ⟨⟨by omega, by omega, by omega, fun h => absurd rfl h⟩, .inr (of_eq_true (be_ w))⟩
     refine .seq (.rgn [a4_ (hl_ (w.drop ((do_ w bs_).toNat + 1)) (d3_ hw _) (by simp; omega))] (by simp only [go_sem, seval, asO, ab_, aa_, ba_, a9_, bs_, hsw, a3_, a8_]; rfl) ?_ ?_)
     ·have h5 := ((s6_ h71).1 rfl).2; simp only [bs_] at h5; refine ⟨⟨by omega, .inr (of_eq_true (be_ w))⟩, ?_⟩; rw [List.take_length, ht h5]; exact bd_ _
     refine .seq (.rgn [] (by simp only [go_sem, seval, asO, ab_, aa_, ba_, a9_, bs_, hsw, a3_, a8_]; rfl) ?_ ?_)
     ·(first | trivial | (simp; done) | (simp [be_]; done) | (simp [be_]; omega))
     refine .ret ⟨.inr rfl, ?_⟩
     exact Out.plainL (by simp only [Tryz.results133]; rfl) (by simp only [az_, a7_, go_sem, seval, asO, ab_, aa_, ba_, a9_, bs_, hsw, a3_, a8_] <;> (split <;> rfl)) (by simp only [a5_, go_sem, seval, asO, ab_, aa_, ba_, a9_, bs_, hsw, a3_, a8_] <;> ((have e : eo_ w = (⟨3, [], [], ex ((w.take (do_ w bs_).toNat).drop 1), ex (w.drop ((do_ w bs_).toNat + 1))⟩, ki_ ((w.take (do_ w bs_).toNat).drop 1) && ki_ (w.drop ((do_ w bs_).toNat + 1))) := (by have := qg_ h15; unfold eo_; rw [if_neg (by omega), if_neg (fun h => absurd ((q4_ h20).2 h) (by decide)), if_neg (by simpa [bs_] using h57), if_pos ((s6_ h71).1 rfl)]; rfl)); rw [e, ak_]; simp [bs_, les, leV, ler, bd_, in_, ik_, ix_, db_, dx_, ki_])) (by simp only [go_sem, seval, asO, ab_, aa_, ba_, a9_, bs_, hsw, a3_, a8_])
    ·refine .skip (.seq (.rgn [] (by simp only [go_sem, seval, asO, ab_, aa_, ba_, a9_, bs_, hsw, a3_, a8_]; rfl) ?_ ?_))
     ·(first | trivial | (simp; done) | (simp [be_]; done) | (simp [be_]; omega))
     refine .ret ⟨.inr rfl, ?_⟩
     exact Out.plainL (by simp only [Tryz.results133]; rfl) (by simp only [az_, a7_, go_sem, seval, asO, ab_, aa_, ba_, a9_, bs_, hsw, a3_, a8_] <;> (split <;> rfl)) (by simp only [a5_, go_sem, seval, asO, ab_, aa_, ba_, a9_, bs_, hsw, a3_, a8_] <;> ((have e : eo_ w = (S0, false) := (by have := qg_ h15; unfold eo_; rw [if_neg (by omega), if_neg (fun h => absurd ((q4_ h20).2 h) (by decide)), if_neg (by simpa [bs_] using h57), if_neg (fun h => absurd ((s6_ h71).2 h) (by decide))])); rw [e, ak_]; simp [les, leV, ler, bd_, in_, ik_, ix_, db_, dx_, S0])) (by simp only [go_sem, seval, asO, ab_, aa_, ba_, a9_, bs_, hsw, a3_, a8_])
theorem nd_ {line : Str} (h : ¬ ((br_ line).isSome = true ∧ (eo_ (cz_ line)).2 = true ∧ sok (eo_ (cz_ line)).1 = true ∧ bw_ (sw' (eo_ (cz_ line)).1) = line)) : kj_ line = none := by
 unfold kj_ cz_ at *
 cases ht : br_ line with
 | none => rfl
 | some ts =>
  rw [ht] at h
  simp only [Option.getD_some] at h
  dsimp only
  rw [if_neg]
  exact fun q => h ⟨rfl, q⟩
theorem w0_ {line : Str} (h : (br_ line).isSome = true) (h0 : (eo_ (cz_ line)).2 = true) (h1 : sok (eo_ (cz_ line)).1 = true) (h2 : bw_ (sw' (eo_ (cz_ line)).1) = line) : kj_ line = some (eo_ (cz_ line)).1 := by
 unfold kj_ cz_ at *
 cases ht : br_ line with
 | none => rw [ht] at h; cases h
 | some ts =>
  rw [ht] at h0 h1 h2
  simp only [Option.getD_some] at h0 h1 h2 ⊢
  rw [if_pos ⟨h0, h1, h2⟩]
theorem ah2_ {w : List Str} (h : smW w) : ep_ (eo_ w).1 = true := by
 have g := zz_ h
 have e := fun k => za_ (d3_ h k)
 have e0 : sm E0 = true := by decide
 unfold eo_
 split
 ·decide
 ·split
  ·simp only [ep_, e, e0, Bool.and_true, T5_, T3_]; have := g 1; have := g 3; omega
  ·split
   ·simp only [ep_, e, e0, Bool.and_true]; rfl
   ·split
    ·simp only [ep_, e, za_ (d3_ (kz_ h _) 1), Bool.and_true]; rfl
    ·decide
theorem ws_ (line : Str) (hl : line.length ≤ 281474976710656) : ACall En 94 [.s line] [] [.ag (sC ((c6_ line).getD S0)), .b (c6_ line).isSome] [] := by
 obtain ⟨w1, w2⟩ := sp_ line
 have hs := ah2_ w1
 rw [ae1_]
 refine al_ (fn := Tryz.f94) [] Tryz.func94 rfl rfl (by simp) fun C => ?_
 rw [ay_]
 simp only [Tryz.ntmps94, T7_, List.length_nil, Nat.reduceAdd, Nat.reduceSub, List.replicate_succ, List.replicate_zero, List.cons_append, List.nil_append, bp_]
 refine .seq (.rgn [] (by simp only [go_sem, seval, aa_, a3_, ak_]; rfl) ?_ ?_)
 ·first | trivial | simp
 refine .seq (.rgn [a4_ (adt_ line hl)] (by simp only [go_sem, seval, aa_, a3_, ak_]; rfl) ?_ ?_)
 ·first | trivial | simp
 refine .seq (.seq (.rgn [] (by simp only [go_sem, seval, aa_, a3_, ak_]; rfl) ?_ ?_))
 ·first | trivial | simp
 refine .condB (by simp only [go_sem, seval, aa_, a3_, ak_]; rfl) (by simp only [go_sem, seval, aa_, a3_, ak_]) (fun h14 => ?_) (fun h14 => ?_)
 ·refine .seq (.rgn [] (by simp only [go_sem, seval, aa_, a3_, ak_]; rfl) ?_ ?_)
  ·first | trivial | simp
  refine .ret ⟨.inr rfl, ?_⟩
  exact Out.plainL (by simp only [Tryz.results94]; rfl) (by simp only [az_, a7_, go_sem, seval, aa_, a3_, ak_] <;> (split <;> rfl)) (by simp only [a5_, go_sem, seval, aa_, a3_, ak_] <;> (rw [nd_ (fun q => by rw [q.1] at h14; simp at h14)]; simp [S0, les, leV, ler, bd_, in_, ik_, ix_, db_, dx_])) (by simp only [go_sem, seval, aa_, a3_, ak_])
 ·refine .skip (.seq (.rgn [a4_ (af1_ (cz_ line) w1 (by omega))] (by simp only [go_sem, seval, aa_, a3_, ak_]; rfl) ?_ ?_))
  ·first | trivial | simp
  refine .seq (.seq (.rgn [a4_ (m4_ (eo_ (cz_ line)).1 hs), cg_ (sok (eo_ (cz_ line)).1 = true) (fun h => hv_ (eo_ (cz_ line)).1 (c9_ h) hs), cg_ (sok (eo_ (cz_ line)).1 = true) (fun h => g5_ (sw' (eo_ (cz_ line)).1) (by have := (k3_ (c9_ h)).1; omega) (by have := lb_ (c9_ h); omega))] (by simp only [go_sem, seval, aa_, a3_, ak_]; rfl) ?_ ?_))
  ·first | trivial | simp
  refine .condB (by simp only [go_sem, seval, aa_, a3_, ak_]; rfl) (by simp only [go_sem, seval, aa_, a3_, ak_]) (fun h34 => ?_) (fun h34 => ?_)
  ·refine .seq (.rgn [] (by simp only [go_sem, seval, aa_, a3_, ak_]; rfl) ?_ ?_)
   ·first | trivial | simp
   refine .ret ⟨.inr rfl, ?_⟩
   exact Out.plainL (by simp only [Tryz.results94]; rfl) (by simp only [az_, a7_, go_sem, seval, aa_, a3_, ak_] <;> (split <;> rfl)) (by simp only [a5_, go_sem, seval, aa_, a3_, ak_] <;> (rw [nd_ (by intro q; simp [q.1, q.2.1, q.2.2] at h34)]; simp [S0, les, leV, ler, bd_, in_, ik_, ix_, db_, dx_])) (by simp only [go_sem, seval, aa_, a3_, ak_])
  ·refine .skip (.seq (.rgn [] (by simp only [go_sem, seval, aa_, a3_, ak_]; rfl) ?_ ?_))
   ·first | trivial | simp
   refine .ret ⟨.inr rfl, ?_⟩
   exact Out.plainL (by simp only [Tryz.results94]; rfl) (by simp only [az_, a7_, go_sem, seval, aa_, a3_, ak_] <;> (split <;> rfl)) (by simp only [a5_, go_sem, seval, aa_, a3_, ak_] <;> (rw [w0_ (by simp at h14; exact h14) (by simp at h34; exact h34.1.1) (by simp at h34; exact h34.1.2) (by simp at h34; exact h34.2)]; simp [les, leV, ler, bd_])) (by simp only [go_sem, seval, aa_, a3_, ak_])
end
section
set_option maxRecDepth 100000
set_option maxHeartbeats 8000000
end
end Go.Proofs.YtilppnadkfgnfaaGreatDoor
