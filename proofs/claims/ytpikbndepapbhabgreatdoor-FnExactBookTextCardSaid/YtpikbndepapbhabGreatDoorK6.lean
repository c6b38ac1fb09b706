/- The words of a line; where a word stands: the reference's. Conditions: none. -/
import Derived.Test.YtpikbndepapbhabGreatDoorK5
import Derived.Test.YtpikbndepapbhabGreatDoorKg
import Derived.Test.YtpikbndepapbhabGreatDoorKl
import Derived.Test.YtpikbndepapbhabGreatDoorKi
set_option linter.unusedVariables false
set_option linter.unusedSimpArgs false
namespace Go.Proofs.YtpikbndepapbhabGreatDoor
section
set_option maxRecDepth 100000
set_option maxHeartbeats 4000000
theorem ade_ (s : Str) (hs : s.length ≤ 281474976710656) : ACall En 79 [.s s] [] [.sl false (bl_ (cw_ s)), .b (b4_ s).isSome] [] := by
 have T := xf_ s hs
 have hb := pa_ s
 unfold cw_
 generalize (b4_ s).getD [] = ts at *
 refine ak_ (fn := Tryz.f79) [] Tryz.func79 rfl rfl (by simp) fun C => ?_
 rw [aw_]
 simp only [Tryz.ntmps79, T7_, List.length_nil, Nat.reduceAdd, Nat.reduceSub, List.replicate_succ, List.replicate_zero, List.cons_append, List.nil_append, bk_]
 refine .seq (.rgn [] (by simp only [go_sem, seval, ay_, au_]; rfl) ?_ ?_)
 ·(first | trivial | (simp; done) | (simp only [T3_] at h17; simp [bl_, b0_]; omega))
 refine .seq (.rgn [a3_ T] (by simp only [go_sem, seval, ay_, au_]; rfl) ?_ ?_)
 ·(first | trivial | (simp; done) | (simp only [T3_] at h17; simp [bl_, b0_]; omega))
 refine .seq (.rgn [] (by simp only [go_sem, seval, ay_, au_]; rfl) ?_ ?_)
 ·(first | trivial | (simp; done) | (simp only [T3_] at h17; simp [bl_, b0_]; omega))
 refine .seq (.seq (.rgn [] (by simp only [go_sem, seval, ay_, au_]; rfl) ?_ ?_))
 ·(first | trivial | (simp; done) | (simp only [T3_] at h17; simp [bl_, b0_]; omega))
 refine .block (.loopK (fun k : Nat => ⟨[.no, .no, .no, .no, .sl false (tkR ts), .b (b4_ s).isSome, .ow 23 1 0 k, .i .i64 k, .no, .no, .no, .no, .no, .no, .no, .no, .no, .no, .no, .no, .no, .no, .no, .no, .no, .no, .no, .no, .no, .no], be_ [(23, ⟨9, 1, bl_ ((ts.take k).map (·.s))⟩)], us [23]⟩) (fun k : Nat => k ≤ ts.length) (fun k : Nat => ts.length - k) (0) ?_ ?_ (fun k hI => ?_))
 ·simp
 ·refine Can.trans (Can.ownSlot 6 23 9 1 (by simp only [go_sem, seval, ay_, au_] <;> rfl) (by simp only [go_sem, seval, ay_, au_]) (by simp only [go_sem, seval, ay_, au_] <;> rfl)) ?_
  exact Can.weak (Weak.lit (by simp only [go_sem, seval, ay_, au_, as_, leV, aq_, ar_, V.inn, us, T9_, Ta_] <;> ((try simp))) (by simp only [go_sem, seval, ay_, au_, as_, leV, aq_, ar_, V.inn, us, T9_, Ta_]) (by simp only [go_sem, seval, ay_, au_, as_, leV, aq_, ar_, V.inn, us, T9_, Ta_] <;> ((try simp [bl_]))))
 refine .seq (.seq (.rgn [] (by simp only [go_sem, seval, ay_, au_]; rfl) ?_ ?_))
 ·(first | trivial | (simp; done) | (simp only [T3_] at h17; simp [bl_, b0_]; omega))
 refine .condB (by simp only [go_sem, seval, ay_, au_]; rfl) (by simp only [go_sem, seval, ay_, au_]) (fun h17 => ?_) (fun h17 => ?_)
 ·refine .skip (.seq (.block (.rgn [] (by simp only [go_sem, seval, ay_, au_, x9_ (show k < ts.length by simpa using h17)]; rfl) ?_ ?_)))
  ·(first | trivial | (simp; done) | (simp only [T3_] at h17; simp [bl_, b0_]; omega))
  refine .rgn [] (by simp only [go_sem, seval, ay_, au_]; rfl) ?_ ?_
  ·(first | trivial | (simp; done) | (simp only [T3_] at h17; simp [bl_, b0_]; omega))
  refine Exists.intro (k + 1) ⟨?_, ?_, ?_⟩
  ·simp at h17; omega
  ·simp at h17; omega
  refine Can.trans (Can.swap 37 23 (by decide) (by decide) (by decide) (by decide) (by simp only [go_sem, seval, ay_, au_, V.cl]) (by simp only [go_sem, seval, ay_, au_, V.cl]) (by simp only [go_sem, seval, ay_, au_, bq_, sw, swM, rnB] <;> rfl) (by simp only [go_sem, seval, ay_, au_, bq_, sw, swM, rnB] <;> rfl) (by simp only [go_sem, seval, ay_, au_, bq_, sw, swM, rnB] <;> rfl)) ?_
  exact Can.weak (Weak.lit (by simp only [go_sem, seval, ay_, au_, as_, leV, aq_, ar_, V.inn, us, T9_, Ta_] <;> (rw [bg_ (by simp at h17; omega) (by simp at h17; omega)]; (try simp))) (by simp only [go_sem, seval, ay_, au_, as_, leV, aq_, ar_, V.inn, us, T9_, Ta_]) (by simp only [go_sem, seval, ay_, au_, as_, leV, aq_, ar_, V.inn, us, T9_, Ta_] <;> (simp only [T3_] at h17; rw [List.take_add_one, T6_ (show k < ts.length by omega)]; simp [-List.map_take, -List.take_append_getElem, bl_, T8_, T6_ (show k < ts.length by omega)])))
 ·refine .exit (.seq (.rgn [] (by simp only [go_sem, seval, ay_, au_]; rfl) ?_ ?_))
  ·(first | trivial | (simp; done) | (simp only [T3_] at h17; simp [bl_, b0_]; omega))
  refine .frz 23 (by simp only [go_sem, seval, ay_, au_]; rfl) (by simp only [go_sem, seval, ay_, au_]) (by simp only [go_sem, seval, ay_, au_]; rfl) (by simp only [go_sem, seval, ay_, au_]; rfl) ?_
  refine .ret ⟨.inr rfl, ?_⟩
  exact Out.plainL (by simp only [Tryz.results79]; rfl) (by simp only [av_, a5_, go_sem, seval, ay_, au_] <;> (split <;> rfl)) (by simp only [a2_, go_sem, seval, ay_, au_] <;> (simp at h17; rw [T1_ h17, if_pos (by simpa using hI)]; simp [peel, leV, bd_, bl_, T1_, h17])) (by simp only [go_sem, seval, ay_, au_])
theorem af4_ (l : List Str) (hl : l.length < 4611686018427387904) : ACall En 180 [.sl false (bl_ l)] [] [.i .i64 (dk_ l bm_)] [] := by
 refine ak_ (fn := Tryz.f180) [] Tryz.func180 rfl rfl (by simp) fun C => ?_
 rw [aw_]
 simp only [Tryz.ntmps180, T7_, List.length_nil, Nat.reduceAdd, Nat.reduceSub, List.replicate_succ, List.replicate_zero, List.cons_append, List.nil_append, bk_]
 refine .seq (.rgn [] (by simp only [go_sem, seval, ac_, aa_]; rfl) ?_ ?_)
 ·first | trivial | simp
 refine .seq (.seq (.rgn [] (by simp only [go_sem, seval, ac_, aa_]; rfl) ?_ ?_))
 ·first | trivial | simp
 refine .block (.loopK (fun k : Nat => ⟨[.sl false (bl_ l), .no, .no, .i .i64 k, .no, .no, .no, .no, .no, .no, .no, .no, .no, .no, .no, .no], be_ [], us []⟩) (fun k : Nat => k ≤ l.length ∧ ∀ x ∈ l.take k, x ≠ bm_) (fun k : Nat => l.length - k) (0) ?_ ?_ (fun k hI => ?_))
 ·simp
 ·exact Can.weak (Weak.lit (by simp only [go_sem, seval, ac_, aa_, as_, leV, aq_, ar_, V.inn, us, T9_, Ta_] <;> (simp)) (by simp only [go_sem, seval, ac_, aa_, as_, leV, aq_, ar_, V.inn, us, T9_, Ta_]) (by simp only [go_sem, seval, ac_, aa_, as_, leV, aq_, ar_, V.inn, us, T9_, Ta_]))
 refine .seq (.seq (.rgn [] (by simp only [go_sem, seval, ac_, aa_]; rfl) ?_ ?_))
 ·first | trivial | simp
 refine .condB (by simp only [go_sem, seval, ac_, aa_]; rfl) (by simp only [go_sem, seval, ac_, aa_]) (fun h7 => ?_) (fun h7 => ?_)
 ·refine .skip (.seq (.block (.seq (.rgn [] (by simp only [go_sem, seval, ac_, aa_, cc_ (show k < l.length by simpa using h7)]; rfl) ?_ ?_))))
  ·simp at h7; simp [ac_, h7]
  refine .condB (by simp only [go_sem, seval, ac_, aa_]; rfl) (by simp only [go_sem, seval, ac_, aa_]) (fun h14 => ?_) (fun h14 => ?_)
  ·refine .seq (.rgn [] (by simp only [go_sem, seval, ac_, aa_]; rfl) ?_ ?_)
   ·first | trivial | simp
   refine .ret ⟨.inr rfl, ?_⟩
   exact Out.plain (by simp only [Tryz.results180]; rfl) (by simp only [av_, a5_, go_sem, seval, ac_, aa_] <;> (split <;> rfl)) (by simp only [a2_, go_sem, seval, ac_, aa_] <;> (simp at h7; obtain ⟨g1, g2⟩ := s6_ h7 hI.2 (eq_of_beq h14); unfold dk_; rw [if_pos g1, g2])) (by simp only [go_sem, seval, ac_, aa_])
  ·refine .skip (.rgn [] (by simp only [go_sem, seval, ac_, aa_]; rfl) ?_ ?_)
   ·first | trivial | simp
   refine Exists.intro (k + 1) ⟨?_, ?_, ?_⟩
   ·simp at h7; refine ⟨by omega, fun x hx => ?_⟩; rw [List.take_add_one, List.mem_append, T6_ h7] at hx; rcases hx with hx | hx; exact hI.2 x hx; simp at hx; subst hx; simp [T8_, T6_ h7] at h14; exact h14
   ·simp at h7; omega
   exact Can.weak (Weak.lit (by simp only [go_sem, seval, ac_, aa_, as_, leV, aq_, ar_, V.inn, us, T9_, Ta_] <;> (rw [bg_ (by omega) (by omega)]; simp)) (by simp only [go_sem, seval, ac_, aa_, as_, leV, aq_, ar_, V.inn, us, T9_, Ta_]) (by simp only [go_sem, seval, ac_, aa_, as_, leV, aq_, ar_, V.inn, us, T9_, Ta_]))
 ·refine .exit (.seq (.rgn [] (by simp only [go_sem, seval, ac_, aa_]; rfl) ?_ ?_))
  ·first | trivial | simp
  refine .ret ⟨.inr rfl, ?_⟩
  exact Out.plain (by simp only [Tryz.results180]; rfl) (by simp only [av_, a5_, go_sem, seval, ac_, aa_] <;> (split <;> rfl)) (by simp only [a2_, go_sem, seval, ac_, aa_] <;> (simp at h7; have : ¬ bm_ ∈ l := fun hm => hI.2 bm_ (by rw [T1_ h7]; exact hm) rfl; simp [dk_, this])) (by simp only [go_sem, seval, ac_, aa_])
end
section
set_option maxRecDepth 100000
set_option maxHeartbeats 8000000
theorem so_ (w : List Str) (k : Nat) (c : Bool) (hc : c = true → k < w.length) : (c = true → c = true ∧ (k : Int) < w.length ∧ ((bl_ w).getD k []).length = 1) ∧ (c = true → (c = true ∧ 1 ≤ ((bl_ w).getD k []).length) ∧ ({ v := ((bl_ w).getD k []).getD 0 .no } : Eff) = { v := .s (w.getD k []) }) := by
 have e := fun h => cc_ (l := w) (hc h)
 exact ⟨fun h => ⟨h, by have := hc h; omega, by rw [e h]; rfl⟩, fun h => ⟨⟨h, by rw [e h]; exact Nat.le_refl _⟩, by rw [e h]; rfl⟩⟩
theorem op_ {w : List Str} (h : ((w.length : Int) == 0) = false) : 0 < w.length := by
 rw [beq_eq_false_iff_ne] at h; omega
theorem qq_ {w : List Str} {b : Bool} (h : (w.getD 0 [] == [108, 101, 116] && decide ((w.length : Int) > 5) && w.getD 2 [] == [58] && w.getD 4 [] == [61]) = b) : (b = true ↔ (w.getD 0 [] = hh_ ∧ 5 < w.length ∧ w.getD 2 [] = g5_ ∧ w.getD 4 [] = wEq)) := by
 rw [← h]
 simp only [T5_, beq_iff_eq, T3_, hh_, g5_, wEq, and_assoc]
 constructor
 ·rintro ⟨a, b, c, d⟩; exact ⟨a, by omega, c, d⟩
 ·rintro ⟨a, b, c, d⟩; exact ⟨a, by omega, c, d⟩
theorem r5_ {w : List Str} {b : Bool} (h : (w.getD 0 [] == [119, 104, 101, 110] && decide (dk_ w [115, 97, 121] > 0)) = b) : (b = true ↔ (w.getD 0 [] = dd_ ∧ 0 < dk_ w bm_)) := by
 rw [← h]
 simp only [T5_, beq_iff_eq, T3_, dd_, bm_]
 try exact Iff.rfl
theorem ab0_ (w : List Str) (hw : smW w) (hl : w.length ≤ 100000) : ACall En 135 [.sl false (bl_ w)] [] [.ag (sC (ej_ w).1), .b (ej_ w).2] [] := by
 have hs := xm_ w bm_
 have hss := af4_ w (by omega)
 simp only [bm_] at hs hss
 have hsw : IntKind.i64.wrap (dk_ w [115, 97, 121] + 1) = dk_ w [115, 97, 121] + 1 := bg_ (by omega) (by omega)
 have ht : 0 < dk_ w [115, 97, 121] → (dk_ w [115, 97, 121] + 1).toNat = (dk_ w [115, 97, 121]).toNat + 1 := fun h => by omega
 refine ak_ (fn := Tryz.f135) [] Tryz.func135 rfl rfl (by simp) fun C => ?_
 rw [aw_]
 simp only [Tryz.ntmps135, T7_, List.length_nil, Nat.reduceAdd, Nat.reduceSub, List.replicate_succ, List.replicate_zero, List.cons_append, List.nil_append, bk_]
 refine .seq (.rgn [] (by simp only [go_sem, seval, asO, ac_, aa_, a9_, a8_, bm_, hsw, a1_, a7_]; rfl) ?_ ?_)
 ·(first | trivial | (simp; done) | (simp [bf_]; done) | (simp [bf_]; omega))
 refine .seq (.rgn [] (by simp only [go_sem, seval, asO, ac_, aa_, a9_, a8_, bm_, hsw, a1_, a7_]; rfl) ?_ ?_)
 ·(first | trivial | (simp; done) | (simp [bf_]; done) | (simp [bf_]; omega))
 refine .seq (.block (.seq (.rgn [] (by simp only [go_sem, seval, asO, ac_, aa_, a9_, a8_, bm_, hsw, a1_, a7_]; rfl) ?_ ?_)))
 ·(first | trivial | (simp; done) | (simp [bf_]; done) | (simp [bf_]; omega))
 refine .condB (by simp only [go_sem, seval, asO, ac_, aa_, a9_, a8_, bm_, hsw, a1_, a7_]; rfl) (by simp only [go_sem, seval, asO, ac_, aa_, a9_, a8_, bm_, hsw, a1_, a7_]) (fun h15 => ?_) (fun h15 => ?_)
 ·refine .seq (.rgn [] (by simp only [go_sem, seval, asO, ac_, aa_, a9_, a8_, bm_, hsw, a1_, a7_]; rfl) ?_ ?_)
  ·(first | trivial | (simp; done) | (simp [bf_]; done) | (simp [bf_]; omega))
  refine .ret ⟨.inr rfl, ?_⟩
  exact Out.plainL (by simp only [Tryz.results135]; rfl) (by simp only [av_, a5_, go_sem, seval, asO, ac_, aa_, a9_, a8_, bm_, hsw, a1_, a7_] <;> (split <;> rfl)) (by simp only [a2_, go_sem, seval, asO, ac_, aa_, a9_, a8_, bm_, hsw, a1_, a7_] <;> ((have e : ej_ w = (S0, true) := (by unfold ej_; rw [if_pos (by simpa using h15)])); rw [e, ai_]; simp [les, leV, ler, bd_, h0_, hn_, ht_, c5_, dl_, S0])) (by simp only [go_sem, seval, asO, ac_, aa_, a9_, a8_, bm_, hsw, a1_, a7_])
 ·refine .seq (.rgnS [33, 39] [asO En { v := .s (w.getD 2 []) }, asO En { v := .s (w.getD 4 []) }] (by simp only [go_sem, seval, asO, ac_, aa_, a9_, a8_, bm_, hsw, a1_, a7_, cc_ (op_ h15)]; rfl) ?_ ?_)
  ·have k1 : (w.getD 0 [] == [108, 101, 116] && decide ((w.length : Int) > 5)) = true → 2 < w.length := (fun h => by simp only [T5_, T3_] at h; omega); have k2 : (w.getD 0 [] == [108, 101, 116] && decide ((w.length : Int) > 5) && w.getD 2 [] == [58]) = true → 4 < w.length := (fun h => by simp only [T5_, T3_] at h; omega); exact ⟨⟨⟨⟨by have := op_ h15; omega, (so_ w 2 _ k1).1⟩, (so_ w 2 _ k1).2⟩, (so_ w 4 _ k2).1⟩, (so_ w 4 _ k2).2⟩
  refine .condB (by simp only [go_sem, seval, asO, ac_, aa_, a9_, a8_, bm_, hsw, a1_, a7_]; rfl) (by simp only [go_sem, seval, asO, ac_, aa_, a9_, a8_, bm_, hsw, a1_, a7_]) (fun h20 => ?_) (fun h20 => ?_)
  ·refine .seq (.rgn [a3_ (hd_ (w.drop 5) (dz_ hw 5) (by simp; omega))] (by simp only [go_sem, seval, asO, ac_, aa_, a9_, a8_, bm_, hsw, a1_, a7_]; rfl) ?_ ?_)
   ·have h5 := ((qq_ h20).1 rfl).2.1; refine ⟨⟨by omega, .inr (of_eq_true (bf_ w))⟩, ?_⟩; rw [List.take_length]; exact bd_ _
   refine .seq (.rgnD [] enM (by simp only [go_sem, seval, asO, ac_, aa_, a9_, a8_, bm_, hsw, a1_, a7_, cc_ (show 1 < w.length by simp at h20; omega), cc_ (show 3 < w.length by simp at h20; omega)]; rfl) (by rfl) ?_ ?_)
   ·have h5 := ((qq_ h20).1 rfl).2.1; exact ⟨by omega, rfl⟩
   refine .ret ⟨.inr rfl, ?_⟩
   exact Out.plainL (by simp only [Tryz.results135]; rfl) (by simp only [av_, a5_, go_sem, seval, asO, ac_, aa_, a9_, a8_, bm_, hsw, a1_, a7_] <;> (split <;> rfl)) (by simp only [a2_, go_sem, seval, asO, ac_, aa_, a9_, a8_, bm_, hsw, a1_, a7_] <;> ((have e : ej_ w = (⟨1, w.getD 1 [], w.getD 3 [], ex (w.drop 5), E0⟩, j7_ (w.drop 5)) := (by have := op_ h15; unfold ej_; rw [if_neg (by omega), if_pos ((qq_ h20).1 rfl)]; rfl)); rw [e, ai_]; simp [les, leV, ler, bd_, h0_, hn_, ht_, c5_, dl_, j7_])) (by simp only [go_sem, seval, asO, ac_, aa_, a9_, a8_, bm_, hsw, a1_, a7_])
  ·refine .seq (.rgn [] (by simp only [go_sem, seval, asO, ac_, aa_, a9_, a8_, bm_, hsw, a1_, a7_, cc_ (op_ h15)]; rfl) ?_ ?_)
   ·have := op_ h15; omega
   refine .condB (by simp only [go_sem, seval, asO, ac_, aa_, a9_, a8_, bm_, hsw, a1_, a7_]; rfl) (by simp only [go_sem, seval, asO, ac_, aa_, a9_, a8_, bm_, hsw, a1_, a7_]) (fun h57 => ?_) (fun h57 => ?_)
   ·refine .seq (.rgn [a3_ (hd_ (w.drop 1) (dz_ hw 1) (by simp; omega))] (by simp only [go_sem, seval, asO, ac_, aa_, a9_, a8_, bm_, hsw, a1_, a7_]; rfl) ?_ ?_)
    ·have h5 := op_ h15; refine ⟨⟨by omega, .inr (of_eq_true (bf_ w))⟩, ?_⟩; rw [List.take_length]; exact bd_ _
    refine .seq (.rgn [] (by simp only [go_sem, seval, asO, ac_, aa_, a9_, a8_, bm_, hsw, a1_, a7_]; rfl) ?_ ?_)
    ·(first | trivial | (simp; done) | (simp [bf_]; done) | (simp [bf_]; omega))
    refine .ret ⟨.inr rfl, ?_⟩
    exact Out.plainL (by simp only [Tryz.results135]; rfl) (by simp only [av_, a5_, go_sem, seval, asO, ac_, aa_, a9_, a8_, bm_, hsw, a1_, a7_] <;> (split <;> rfl)) (by simp only [a2_, go_sem, seval, asO, ac_, aa_, a9_, a8_, bm_, hsw, a1_, a7_] <;> ((have e : ej_ w = (⟨2, [], [], ex (w.drop 1), E0⟩, j7_ (w.drop 1)) := (by have := op_ h15; unfold ej_; rw [if_neg (by omega), if_neg (fun h => absurd ((qq_ h20).2 h) (by decide)), if_pos (by simpa [bm_] using h57)]; rfl)); rw [e, ai_]; simp [les, leV, ler, bd_, h0_, hn_, ht_, c5_, dl_, j7_])) (by simp only [go_sem, seval, asO, ac_, aa_, a9_, a8_, bm_, hsw, a1_, a7_])
   ·refine .seq (.rgn [a3_ hss] (by simp only [go_sem, seval, asO, ac_, aa_, a9_, a8_, bm_, hsw, a1_, a7_, cc_ (op_ h15)]; rfl) ?_ ?_)
    ·have := op_ h15; omega
    refine .condB (by simp only [go_sem, seval, asO, ac_, aa_, a9_, a8_, bm_, hsw, a1_, a7_]; rfl) (by simp only [go_sem, seval, asO, ac_, aa_, a9_, a8_, bm_, hsw, a1_, a7_]) (fun h71 => ?_) (fun h71 => ?_)
    ·refine .seq (.rgn [a3_ hss] (by simp only [go_sem, seval, asO, ac_, aa_, a9_, a8_, bm_, hsw, a1_, a7_]; rfl) ?_ ?_)
     ·(first | trivial | (simp; done) | (simp [bf_]; done) | (simp [bf_]; omega))
     refine .seq (.rgn [a3_ (hd_ ((w.take (dk_ w bm_).toNat).drop 1) (dz_ (ki_ hw _) 1) (by simp; omega))] (by simp only [go_sem, seval, asO, ac_, aa_, a9_, a8_, bm_, hsw, a1_, a7_]; rfl) ?_ ?_)
     ·have h5 := ((r5_ h71).1 rfl).2; simp only [bm_] at h5; exact ⟨⟨by omega, by omega, by omega, fun h => absurd rfl h⟩, .inr (of_eq_true (bf_ w))⟩
     refine .seq (.rgn [a3_ (hd_ (w.drop ((dk_ w bm_).toNat + 1)) (dz_ hw _) (by simp; omega))] (by simp only [go_sem, seval, asO, ac_, aa_, a9_, a8_, bm_, hsw, a1_, a7_]; rfl) ?_ ?_)
     ·have h5 := ((r5_ h71).1 rfl).2; simp only [bm_] at h5; refine ⟨⟨by omega, .inr (of_eq_true (bf_ w))⟩, ?_⟩; rw [List.take_length, ht h5]; exact bd_ _
     refine .seq (.rgn [] (by simp only [go_sem, seval, asO, ac_, aa_, a9_, a8_, bm_, hsw, a1_, a7_]; rfl) ?_ ?_)
     ·(first | trivial | (simp; done) | (simp [bf_]; done) | (simp [bf_]; omega))
     refine .ret ⟨.inr rfl, ?_⟩
     exact Out.plainL (by simp only [Tryz.results135]; rfl) (by simp only [av_, a5_, go_sem, seval, asO, ac_, aa_, a9_, a8_, bm_, hsw, a1_, a7_] <;> (split <;> rfl)) (by simp only [a2_, go_sem, seval, asO, ac_, aa_, a9_, a8_, bm_, hsw, a1_, a7_] <;> ((have e : ej_ w = (⟨3, [], [], ex ((w.take (dk_ w bm_).toNat).drop 1), ex (w.drop ((dk_ w bm_).toNat + 1))⟩, j7_ ((w.take (dk_ w bm_).toNat).drop 1) && j7_ (w.drop ((dk_ w bm_).toNat + 1))) := (by have := op_ h15; unfold ej_; rw [if_neg (by omega), if_neg (fun h => absurd ((qq_ h20).2 h) (by decide)), if_neg (by simpa [bm_] using h57), if_pos ((r5_ h71).1 rfl)]; rfl)); rw [e, ai_]; simp [bm_, les, leV, ler, bd_, h0_, hn_, ht_, c5_, dl_, j7_])) (by simp only [go_sem, seval, asO, ac_, aa_, a9_, a8_, bm_, hsw, a1_, a7_])
    ·refine .skip (.seq (.rgn [] (by simp only [go_sem, seval, asO, ac_, aa_, a9_, a8_, bm_, hsw, a1_, a7_]; rfl) ?_ ?_))
     ·(first | trivial | (simp; done) | (simp [bf_]; done) | (simp [bf_]; omega))
     refine .ret ⟨.inr rfl, ?_⟩
     exact Out.plainL (by simp only [Tryz.results135]; rfl) (by simp only [av_, a5_, go_sem, seval, asO, ac_, aa_, a9_, a8_, bm_, hsw, a1_, a7_] <;> (split <;> rfl)) (by simp only [a2_, go_sem, seval, asO, ac_, aa_, a9_, a8_, bm_, hsw, a1_, a7_] <;> ((have e : ej_ w = (S0, false) := (by have := op_ h15; unfold ej_; rw [if_neg (by omega), if_neg (fun h => absurd ((qq_ h20).2 h) (by decide)), if_neg (by simpa [bm_] using h57), if_neg (fun h => absurd ((r5_ h71).2 h) (by decide))])); rw [e, ai_]; simp [les, leV, ler, bd_, h0_, hn_, ht_, c5_, dl_, S0])) (by simp only [go_sem, seval, asO, ac_, aa_, a9_, a8_, bm_, hsw, a1_, a7_])
theorem mz_ {line : Str} (h : ¬ ((b4_ line).isSome = true ∧ (ej_ (cw_ line)).2 = true ∧ sok (ej_ (cw_ line)).1 = true ∧ bs_ (sw' (ej_ (cw_ line)).1) = line)) : j8_ line = none := by
 unfold j8_ cw_ at *
 cases ht : b4_ line with
 | none => rfl
 | some ts =>
  rw [ht] at h
  simp only [Option.getD_some] at h
  dsimp only
  rw [if_neg]
  exact fun q => h ⟨rfl, q⟩
theorem s8_ {line : Str} (h : (b4_ line).isSome = true) (h0 : (ej_ (cw_ line)).2 = true) (h1 : sok (ej_ (cw_ line)).1 = true) (h2 : bs_ (sw' (ej_ (cw_ line)).1) = line) : j8_ line = some (ej_ (cw_ line)).1 := by
 unfold j8_ cw_ at *
 cases ht : b4_ line with
 | none => rw [ht] at h; cases h
 | some ts =>
  rw [ht] at h0 h1 h2
  simp only [Option.getD_some] at h0 h1 h2 ⊢
  rw [if_pos ⟨h0, h1, h2⟩]
theorem ahr_ {w : List Str} (h : smW w) : d0_ (ej_ w).1 = true := by
 have g := xx_ h
 have e := fun k => xv_ (dz_ h k)
 have e0 : sm E0 = true := by decide
 unfold ej_
 split
 ·decide
 ·split
  ·simp only [d0_, e, e0, Bool.and_true, T5_, T3_]; have := g 1; have := g 3; omega
  ·split
   ·simp only [d0_, e, e0, Bool.and_true]; rfl
   ·split
    ·simp only [d0_, e, xv_ (dz_ (ki_ h _) 1), Bool.and_true]; rfl
    ·decide
theorem ve_ (line : Str) (hl : line.length ≤ 281474976710656) : ACall En 84 [.s line] [] [.ag (sC ((ck_ line).getD S0)), .b (ck_ line).isSome] [] := by
 obtain ⟨w1, w2⟩ := r7_ line
 have hs := ahr_ w1
 rw [abh_]
 refine ak_ (fn := Tryz.f84) [] Tryz.func84 rfl rfl (by simp) fun C => ?_
 rw [aw_]
 simp only [Tryz.ntmps84, T7_, List.length_nil, Nat.reduceAdd, Nat.reduceSub, List.replicate_succ, List.replicate_zero, List.cons_append, List.nil_append, bk_]
 refine .seq (.rgn [] (by simp only [go_sem, seval, aa_, a1_, ai_]; rfl) ?_ ?_)
 ·first | trivial | simp
 refine .seq (.rgn [a3_ (ade_ line hl)] (by simp only [go_sem, seval, aa_, a1_, ai_]; rfl) ?_ ?_)
 ·first | trivial | simp
 refine .seq (.seq (.rgn [] (by simp only [go_sem, seval, aa_, a1_, ai_]; rfl) ?_ ?_))
 ·first | trivial | simp
 refine .condB (by simp only [go_sem, seval, aa_, a1_, ai_]; rfl) (by simp only [go_sem, seval, aa_, a1_, ai_]) (fun h14 => ?_) (fun h14 => ?_)
 ·refine .seq (.rgn [] (by simp only [go_sem, seval, aa_, a1_, ai_]; rfl) ?_ ?_)
  ·first | trivial | simp
  refine .ret ⟨.inr rfl, ?_⟩
  exact Out.plainL (by simp only [Tryz.results84]; rfl) (by simp only [av_, a5_, go_sem, seval, aa_, a1_, ai_] <;> (split <;> rfl)) (by simp only [a2_, go_sem, seval, aa_, a1_, ai_] <;> (rw [mz_ (fun q => by rw [q.1] at h14; simp at h14)]; simp [S0, les, leV, ler, bd_, h0_, hn_, ht_, c5_, dl_])) (by simp only [go_sem, seval, aa_, a1_, ai_])
 ·refine .skip (.seq (.rgn [a3_ (ab0_ (cw_ line) w1 (by omega))] (by simp only [go_sem, seval, aa_, a1_, ai_]; rfl) ?_ ?_))
  ·first | trivial | simp
  refine .seq (.seq (.rgn [a3_ (mq_ (ej_ (cw_ line)).1 hs), by_ (sok (ej_ (cw_ line)).1 = true) (fun h => h4_ (ej_ (cw_ line)).1 (c2_ h) hs), by_ (sok (ej_ (cw_ line)).1 = true) (fun h => gz_ (sw' (ej_ (cw_ line)).1) (by have := (lq_ (c2_ h)).1; omega) (by have := lk_ (c2_ h); omega))] (by simp only [go_sem, seval, aa_, a1_, ai_]; rfl) ?_ ?_))
  ·first | trivial | simp
  refine .condB (by simp only [go_sem, seval, aa_, a1_, ai_]; rfl) (by simp only [go_sem, seval, aa_, a1_, ai_]) (fun h34 => ?_) (fun h34 => ?_)
  ·refine .seq (.rgn [] (by simp only [go_sem, seval, aa_, a1_, ai_]; rfl) ?_ ?_)
   ·first | trivial | simp
   refine .ret ⟨.inr rfl, ?_⟩
   exact Out.plainL (by simp only [Tryz.results84]; rfl) (by simp only [av_, a5_, go_sem, seval, aa_, a1_, ai_] <;> (split <;> rfl)) (by simp only [a2_, go_sem, seval, aa_, a1_, ai_] <;> (rw [mz_ (by intro q; simp [q.1, q.2.1, q.2.2] at h34)]; simp [S0, les, leV, ler, bd_, h0_, hn_, ht_, c5_, dl_])) (by simp only [go_sem, seval, aa_, a1_, ai_])
  ·refine .skip (.seq (.rgn [] (by simp only [go_sem, seval, aa_, a1_, ai_]; rfl) ?_ ?_))
   ·first | trivial | simp
   refine .ret ⟨.inr rfl, ?_⟩
   exact Out.plainL (by simp only [Tryz.results84]; rfl) (by simp only [av_, a5_, go_sem, seval, aa_, a1_, ai_] <;> (split <;> rfl)) (by simp only [a2_, go_sem, seval, aa_, a1_, ai_] <;> (rw [s8_ (by simp at h14; exact h14) (by simp at h34; exact h34.1.1) (by simp at h34; exact h34.1.2) (by simp at h34; exact h34.2)]; simp [les, leV, ler, bd_])) (by simp only [go_sem, seval, aa_, a1_, ai_])
end
section
set_option maxRecDepth 100000
set_option maxHeartbeats 8000000
end
end Go.Proofs.YtpikbndepapbhabGreatDoor
