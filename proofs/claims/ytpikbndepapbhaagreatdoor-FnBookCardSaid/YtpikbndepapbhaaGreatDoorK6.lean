/- The words of a line; where a word stands: the reference's. Conditions: none. -/
import Derived.Test.YtpikbndepapbhaaGreatDoorK5
import Derived.Test.YtpikbndepapbhaaGreatDoorKg
import Derived.Test.YtpikbndepapbhaaGreatDoorKl
import Derived.Test.YtpikbndepapbhaaGreatDoorKi
set_option linter.unusedVariables false
set_option linter.unusedSimpArgs false
namespace Go.Proofs.YtpikbndepapbhaaGreatDoor
section
set_option maxRecDepth 100000
set_option maxHeartbeats 4000000
theorem afo_ (s : Str) (hs : s.length ≤ 281474976710656) : ACall En 105 [.s s] [] [.sl false (bm_ (dd_ s)), .b (ci_ s).isSome] [] := by
 have T := xj_ s hs
 have hb := pt_ s
 unfold dd_
 generalize (ci_ s).getD [] = ts at *
 refine al_ (fn := Tryz.f105) [] Tryz.func105 rfl rfl (by simp) fun C => ?_
 rw [av_]
 simp only [Tryz.ntmps105, T7_, List.length_nil, Nat.reduceAdd, Nat.reduceSub, List.replicate_succ, List.replicate_zero, List.cons_append, List.nil_append, bt_]
 refine .seq (.rgn [] (by simp only [go_sem, seval, ay_, au_]; rfl) ?_ ?_)
 ·(first | trivial | (simp; done) | (simp only [T3_] at h17; simp [bm_, ce_]; omega))
 refine .seq (.rgn [a3_ T] (by simp only [go_sem, seval, ay_, au_]; rfl) ?_ ?_)
 ·(first | trivial | (simp; done) | (simp only [T3_] at h17; simp [bm_, ce_]; omega))
 refine .seq (.rgn [] (by simp only [go_sem, seval, ay_, au_]; rfl) ?_ ?_)
 ·(first | trivial | (simp; done) | (simp only [T3_] at h17; simp [bm_, ce_]; omega))
 refine .seq (.seq (.rgn [] (by simp only [go_sem, seval, ay_, au_]; rfl) ?_ ?_))
 ·(first | trivial | (simp; done) | (simp only [T3_] at h17; simp [bm_, ce_]; omega))
 refine .block (.loopK (fun k : Nat => ⟨[.no, .no, .no, .no, .sl false (tkR ts), .b (ci_ s).isSome, .ow 23 1 0 k, .i .i64 k, .no, .no, .no, .no, .no, .no, .no, .no, .no, .no, .no, .no, .no, .no, .no, .no, .no, .no, .no, .no, .no, .no], be_ [(23, ⟨9, 1, bm_ ((ts.take k).map (·.s))⟩)], us [23]⟩) (fun k : Nat => k ≤ ts.length) (fun k : Nat => ts.length - k) (0) ?_ ?_ (fun k hI => ?_))
 ·simp
 ·refine Can.trans (Can.ownSlot 6 23 9 1 (by simp only [go_sem, seval, ay_, au_] <;> rfl) (by simp only [go_sem, seval, ay_, au_]) (by simp only [go_sem, seval, ay_, au_] <;> rfl)) ?_
  exact Can.weak (Weak.lit (by simp only [go_sem, seval, ay_, au_, as_, leV, aq_, ar_, V.inn, us, T9_, Ta_] <;> ((try simp))) (by simp only [go_sem, seval, ay_, au_, as_, leV, aq_, ar_, V.inn, us, T9_, Ta_]) (by simp only [go_sem, seval, ay_, au_, as_, leV, aq_, ar_, V.inn, us, T9_, Ta_] <;> ((try simp [bm_]))))
 refine .seq (.seq (.rgn [] (by simp only [go_sem, seval, ay_, au_]; rfl) ?_ ?_))
 ·(first | trivial | (simp; done) | (simp only [T3_] at h17; simp [bm_, ce_]; omega))
 refine .condB (by simp only [go_sem, seval, ay_, au_]; rfl) (by simp only [go_sem, seval, ay_, au_]) (fun h17 => ?_) (fun h17 => ?_)
 ·refine .skip (.seq (.block (.rgn [] (by simp only [go_sem, seval, ay_, au_, x6_ (show k < ts.length by simpa using h17)]; rfl) ?_ ?_)))
  ·(first | trivial | (simp; done) | (simp only [T3_] at h17; simp [bm_, ce_]; omega))
  refine .rgn [] (by simp only [go_sem, seval, ay_, au_]; rfl) ?_ ?_
  ·(first | trivial | (simp; done) | (simp only [T3_] at h17; simp [bm_, ce_]; omega))
  refine Exists.intro (k + 1) ⟨?_, ?_, ?_⟩
  ·simp at h17; omega
  ·simp at h17; omega
  refine Can.trans (Can.swap 37 23 (by decide) (by decide) (by decide) (by decide) (by simp only [go_sem, seval, ay_, au_, V.cl]) (by simp only [go_sem, seval, ay_, au_, V.cl]) (by simp only [go_sem, seval, ay_, au_, bq_, sw, swM, rnB] <;> rfl) (by simp only [go_sem, seval, ay_, au_, bq_, sw, swM, rnB] <;> rfl) (by simp only [go_sem, seval, ay_, au_, bq_, sw, swM, rnB] <;> rfl)) ?_
  exact Can.weak (Weak.lit (by simp only [go_sem, seval, ay_, au_, as_, leV, aq_, ar_, V.inn, us, T9_, Ta_] <;> (rw [bd_ (by simp at h17; omega) (by simp at h17; omega)]; (try simp))) (by simp only [go_sem, seval, ay_, au_, as_, leV, aq_, ar_, V.inn, us, T9_, Ta_]) (by simp only [go_sem, seval, ay_, au_, as_, leV, aq_, ar_, V.inn, us, T9_, Ta_] <;> (simp only [T3_] at h17; rw [List.take_add_one, T6_ (show k < ts.length by omega)]; simp [-List.map_take, -List.take_append_getElem, bm_, T8_, T6_ (show k < ts.length by omega)])))
 ·refine .exit (.seq (.rgn [] (by simp only [go_sem, seval, ay_, au_]; rfl) ?_ ?_))
  ·(first | trivial | (simp; done) | (simp only [T3_] at h17; simp [bm_, ce_]; omega))
  refine .frz 23 (by simp only [go_sem, seval, ay_, au_]; rfl) (by simp only [go_sem, seval, ay_, au_]) (by simp only [go_sem, seval, ay_, au_]; rfl) (by simp only [go_sem, seval, ay_, au_]; rfl) ?_
  refine .ret ⟨.inr rfl, ?_⟩
  exact Out.plainL (by simp only [Tryz.results105]; rfl) (by simp only [ax_, a6_, go_sem, seval, ay_, au_] <;> (split <;> rfl)) (by simp only [a4_, go_sem, seval, ay_, au_] <;> (simp at h17; rw [T1_ h17, if_pos (by simpa using hI)]; simp [peel, leV, a8_, bm_, T1_, h17])) (by simp only [go_sem, seval, ay_, au_])
theorem agk_ (l : List Str) (hl : l.length < 4611686018427387904) : ACall En 144 [.sl false (bm_ l)] [] [.i .i64 (d1_ l bv_)] [] := by
 refine al_ (fn := Tryz.f144) [] Tryz.func144 rfl rfl (by simp) fun C => ?_
 rw [av_]
 simp only [Tryz.ntmps144, T7_, List.length_nil, Nat.reduceAdd, Nat.reduceSub, List.replicate_succ, List.replicate_zero, List.cons_append, List.nil_append, bt_]
 refine .seq (.rgn [] (by simp only [go_sem, seval, ab_, aa_]; rfl) ?_ ?_)
 ·first | trivial | simp
 refine .seq (.seq (.rgn [] (by simp only [go_sem, seval, ab_, aa_]; rfl) ?_ ?_))
 ·first | trivial | simp
 refine .block (.loopK (fun k : Nat => ⟨[.sl false (bm_ l), .no, .no, .i .i64 k, .no, .no, .no, .no, .no, .no, .no, .no, .no, .no, .no, .no], be_ [], us []⟩) (fun k : Nat => k ≤ l.length ∧ ∀ x ∈ l.take k, x ≠ bv_) (fun k : Nat => l.length - k) (0) ?_ ?_ (fun k hI => ?_))
 ·simp
 ·exact Can.weak (Weak.lit (by simp only [go_sem, seval, ab_, aa_, as_, leV, aq_, ar_, V.inn, us, T9_, Ta_] <;> (simp)) (by simp only [go_sem, seval, ab_, aa_, as_, leV, aq_, ar_, V.inn, us, T9_, Ta_]) (by simp only [go_sem, seval, ab_, aa_, as_, leV, aq_, ar_, V.inn, us, T9_, Ta_]))
 refine .seq (.seq (.rgn [] (by simp only [go_sem, seval, ab_, aa_]; rfl) ?_ ?_))
 ·first | trivial | simp
 refine .condB (by simp only [go_sem, seval, ab_, aa_]; rfl) (by simp only [go_sem, seval, ab_, aa_]) (fun h7 => ?_) (fun h7 => ?_)
 ·refine .skip (.seq (.block (.seq (.rgn [] (by simp only [go_sem, seval, ab_, aa_, cj_ (show k < l.length by simpa using h7)]; rfl) ?_ ?_))))
  ·simp at h7; simp [ab_, h7]
  refine .condB (by simp only [go_sem, seval, ab_, aa_]; rfl) (by simp only [go_sem, seval, ab_, aa_]) (fun h14 => ?_) (fun h14 => ?_)
  ·refine .seq (.rgn [] (by simp only [go_sem, seval, ab_, aa_]; rfl) ?_ ?_)
   ·first | trivial | simp
   refine .ret ⟨.inr rfl, ?_⟩
   exact Out.plain (by simp only [Tryz.results144]; rfl) (by simp only [ax_, a6_, go_sem, seval, ab_, aa_] <;> (split <;> rfl)) (by simp only [a4_, go_sem, seval, ab_, aa_] <;> (simp at h7; obtain ⟨g1, g2⟩ := wg_ h7 hI.2 (eq_of_beq h14); unfold d1_; rw [if_pos g1, g2])) (by simp only [go_sem, seval, ab_, aa_])
  ·refine .skip (.rgn [] (by simp only [go_sem, seval, ab_, aa_]; rfl) ?_ ?_)
   ·first | trivial | simp
   refine Exists.intro (k + 1) ⟨?_, ?_, ?_⟩
   ·simp at h7; refine ⟨by omega, fun x hx => ?_⟩; rw [List.take_add_one, List.mem_append, T6_ h7] at hx; rcases hx with hx | hx; exact hI.2 x hx; simp at hx; subst hx; simp [T8_, T6_ h7] at h14; exact h14
   ·simp at h7; omega
   exact Can.weak (Weak.lit (by simp only [go_sem, seval, ab_, aa_, as_, leV, aq_, ar_, V.inn, us, T9_, Ta_] <;> (rw [bd_ (by omega) (by omega)]; simp)) (by simp only [go_sem, seval, ab_, aa_, as_, leV, aq_, ar_, V.inn, us, T9_, Ta_]) (by simp only [go_sem, seval, ab_, aa_, as_, leV, aq_, ar_, V.inn, us, T9_, Ta_]))
 ·refine .exit (.seq (.rgn [] (by simp only [go_sem, seval, ab_, aa_]; rfl) ?_ ?_))
  ·first | trivial | simp
  refine .ret ⟨.inr rfl, ?_⟩
  exact Out.plain (by simp only [Tryz.results144]; rfl) (by simp only [ax_, a6_, go_sem, seval, ab_, aa_] <;> (split <;> rfl)) (by simp only [a4_, go_sem, seval, ab_, aa_] <;> (simp at h7; have : ¬ bv_ ∈ l := fun hm => hI.2 bv_ (by rw [T1_ h7]; exact hm) rfl; simp [d1_, this])) (by simp only [go_sem, seval, ab_, aa_])
end
section
set_option maxRecDepth 100000
set_option maxHeartbeats 8000000
theorem s8_ (w : List Str) (k : Nat) (c : Bool) (hc : c = true → k < w.length) : (c = true → c = true ∧ (k : Int) < w.length ∧ ((bm_ w).getD k []).length = 1) ∧ (c = true → (c = true ∧ 1 ≤ ((bm_ w).getD k []).length) ∧ ({ v := ((bm_ w).getD k []).getD 0 .no } : Eff) = { v := .s (w.getD k []) }) := by
 have e := fun h => cj_ (l := w) (hc h)
 exact ⟨fun h => ⟨h, by have := hc h; omega, by rw [e h]; rfl⟩, fun h => ⟨⟨h, by rw [e h]; exact Nat.le_refl _⟩, by rw [e h]; rfl⟩⟩
theorem qd_ {w : List Str} (h : ((w.length : Int) == 0) = false) : 0 < w.length := by
 rw [beq_eq_false_iff_ne] at h; omega
theorem r7_ {w : List Str} {b : Bool} (h : (w.getD 0 [] == [108, 101, 116] && decide ((w.length : Int) > 5) && w.getD 2 [] == [58] && w.getD 4 [] == [61]) = b) : (b = true ↔ (w.getD 0 [] = hz_ ∧ 5 < w.length ∧ w.getD 2 [] = hk_ ∧ w.getD 4 [] = wEq)) := by
 rw [← h]
 simp only [T5_, beq_iff_eq, T3_, hz_, hk_, wEq, and_assoc]
 constructor
 ·rintro ⟨a, b, c, d⟩; exact ⟨a, by omega, c, d⟩
 ·rintro ⟨a, b, c, d⟩; exact ⟨a, by omega, c, d⟩
theorem sf_ {w : List Str} {b : Bool} (h : (w.getD 0 [] == [119, 104, 101, 110] && decide (d1_ w [115, 97, 121] > 0)) = b) : (b = true ↔ (w.getD 0 [] = ds_ ∧ 0 < d1_ w bv_)) := by
 rw [← h]
 simp only [T5_, beq_iff_eq, T3_, ds_, bv_]
 try exact Iff.rfl
theorem ads_ (w : List Str) (hw : smW w) (hl : w.length ≤ 100000) : ACall En 106 [.sl false (bm_ w)] [] [.ag (sC (e1_ w).1), .b (e1_ w).2] [] := by
 have hs := ym_ w bv_
 have hss := agk_ w (by omega)
 simp only [bv_] at hs hss
 have hsw : IntKind.i64.wrap (d1_ w [115, 97, 121] + 1) = d1_ w [115, 97, 121] + 1 := bd_ (by omega) (by omega)
 have ht : 0 < d1_ w [115, 97, 121] → (d1_ w [115, 97, 121] + 1).toNat = (d1_ w [115, 97, 121]).toNat + 1 := fun h => by omega
 refine al_ (fn := Tryz.f106) [] Tryz.func106 rfl rfl (by simp) fun C => ?_
 rw [av_]
 simp only [Tryz.ntmps106, T7_, List.length_nil, Nat.reduceAdd, Nat.reduceSub, List.replicate_succ, List.replicate_zero, List.cons_append, List.nil_append, bt_]
 refine .seq (.rgn [] (by simp only [go_sem, seval, asO, ab_, aa_, ba_, a9_, bv_, hsw, a2_, a7_]; rfl) ?_ ?_)
 ·(first | trivial | (simp; done) | (simp [bc_]; done) | (simp [bc_]; omega))
 refine .seq (.rgn [] (by simp only [go_sem, seval, asO, ab_, aa_, ba_, a9_, bv_, hsw, a2_, a7_]; rfl) ?_ ?_)
 ·(first | trivial | (simp; done) | (simp [bc_]; done) | (simp [bc_]; omega))
 refine .seq (.block (.seq (.rgn [] (by simp only [go_sem, seval, asO, ab_, aa_, ba_, a9_, bv_, hsw, a2_, a7_]; rfl) ?_ ?_)))
 ·(first | trivial | (simp; done) | (simp [bc_]; done) | (simp [bc_]; omega))
 refine .condB (by simp only [go_sem, seval, asO, ab_, aa_, ba_, a9_, bv_, hsw, a2_, a7_]; rfl) (by simp only [go_sem, seval, asO, ab_, aa_, ba_, a9_, bv_, hsw, a2_, a7_]) (fun h15 => ?_) (fun h15 => ?_)
 ·refine .seq (.rgn [] (by simp only [go_sem, seval, asO, ab_, aa_, ba_, a9_, bv_, hsw, a2_, a7_]; rfl) ?_ ?_)
  ·(first | trivial | (simp; done) | (simp [bc_]; done) | (simp [bc_]; omega))
  refine .ret ⟨.inr rfl, ?_⟩
  exact Out.plainL (by simp only [Tryz.results106]; rfl) (by simp only [ax_, a6_, go_sem, seval, asO, ab_, aa_, ba_, a9_, bv_, hsw, a2_, a7_] <;> (split <;> rfl)) (by simp only [a4_, go_sem, seval, asO, ab_, aa_, ba_, a9_, bv_, hsw, a2_, a7_] <;> ((have e : e1_ w = (S0, true) := (by unfold e1_; rw [if_pos (by simpa using h15)])); rw [e, aj_]; simp [les, leV, ler, a8_, iy_, i0_, ip_, dj_, ec_, S0])) (by simp only [go_sem, seval, asO, ab_, aa_, ba_, a9_, bv_, hsw, a2_, a7_])
 ·refine .seq (.rgnS [33, 39] [asO En { v := .s (w.getD 2 []) }, asO En { v := .s (w.getD 4 []) }] (by simp only [go_sem, seval, asO, ab_, aa_, ba_, a9_, bv_, hsw, a2_, a7_, cj_ (qd_ h15)]; rfl) ?_ ?_)
  ·have k1 : (w.getD 0 [] == [108, 101, 116] && decide ((w.length : Int) > 5)) = true → 2 < w.length := (fun h => by simp only [T5_, T3_] at h; omega); have k2 : (w.getD 0 [] == [108, 101, 116] && decide ((w.length : Int) > 5) && w.getD 2 [] == [58]) = true → 4 < w.length := (fun h => by simp only [T5_, T3_] at h; omega); exact ⟨⟨⟨⟨by have := qd_ h15; omega, (s8_ w 2 _ k1).1⟩, (s8_ w 2 _ k1).2⟩, (s8_ w 4 _ k2).1⟩, (s8_ w 4 _ k2).2⟩
  refine .condB (by simp only [go_sem, seval, asO, ab_, aa_, ba_, a9_, bv_, hsw, a2_, a7_]; rfl) (by simp only [go_sem, seval, asO, ab_, aa_, ba_, a9_, bv_, hsw, a2_, a7_]) (fun h20 => ?_) (fun h20 => ?_)
  ·refine .seq (.rgn [a3_ (hr_ (w.drop 5) (ei_ hw 5) (by simp; omega))] (by simp only [go_sem, seval, asO, ab_, aa_, ba_, a9_, bv_, hsw, a2_, a7_]; rfl) ?_ ?_)
   ·have h5 := ((r7_ h20).1 rfl).2.1; refine ⟨⟨by omega, .inr (of_eq_true (bc_ w))⟩, ?_⟩; rw [List.take_length]; exact a8_ _
   refine .seq (.rgnD [] enM (by simp only [go_sem, seval, asO, ab_, aa_, ba_, a9_, bv_, hsw, a2_, a7_, cj_ (show 1 < w.length by simp at h20; omega), cj_ (show 3 < w.length by simp at h20; omega)]; rfl) (by rfl) ?_ ?_)
   ·have h5 := ((r7_ h20).1 rfl).2.1; exact ⟨by omega, rfl⟩
   refine .ret ⟨.inr rfl, ?_⟩
   exact Out.plainL (by simp only [Tryz.results106]; rfl) (by simp only [ax_, a6_, go_sem, seval, asO, ab_, aa_, ba_, a9_, bv_, hsw, a2_, a7_] <;> (split <;> rfl)) (by simp only [a4_, go_sem, seval, asO, ab_, aa_, ba_, a9_, bv_, hsw, a2_, a7_] <;> ((have e : e1_ w = (⟨1, w.getD 1 [], w.getD 3 [], ex (w.drop 5), E0⟩, ku_ (w.drop 5)) := (by have := qd_ h15; unfold e1_; rw [if_neg (by omega), if_pos ((r7_ h20).1 rfl)]; rfl)); rw [e, aj_]; simp [les, leV, ler, a8_, iy_, i0_, ip_, dj_, ec_, ku_])) (by simp only [go_sem, seval, asO, ab_, aa_, ba_, a9_, bv_, hsw, a2_, a7_])
  ·refine .seq (.rgn [] (by simp only [go_sem, seval, asO, ab_, aa_, ba_, a9_, bv_, hsw, a2_, a7_, cj_ (qd_ h15)]; rfl) ?_ ?_)
   ·have := qd_ h15; omega
   refine .condB (by simp only [go_sem, seval, asO, ab_, aa_, ba_, a9_, bv_, hsw, a2_, a7_]; rfl) (by simp only [go_sem, seval, asO, ab_, aa_, ba_, a9_, bv_, hsw, a2_, a7_]) (fun h57 => ?_) (fun h57 => ?_)
   ·refine .seq (.rgn [a3_ (hr_ (w.drop 1) (ei_ hw 1) (by simp; omega))] (by simp only [go_sem, seval, asO, ab_, aa_, ba_, a9_, bv_, hsw, a2_, a7_]; rfl) ?_ ?_)
    ·have h5 := qd_ h15; refine ⟨⟨by omega, .inr (of_eq_true (bc_ w))⟩, ?_⟩; rw [List.take_length]; exact a8_ _
    refine .seq (.rgn [] (by simp only [go_sem, seval, asO, ab_, aa_, ba_, a9_, bv_, hsw, a2_, a7_]; rfl) ?_ ?_)
    ·(first | trivial | (simp; done) | (simp [bc_]; done) | (simp [bc_]; omega))
    refine .ret ⟨.inr rfl, ?_⟩
    exact Out.plainL (by simp only [Tryz.results106]; rfl) (by simp only [ax_, a6_, go_sem, seval, asO, ab_, aa_, ba_, a9_, bv_, hsw, a2_, a7_] <;> (split <;> rfl)) (by simp only [a4_, go_sem, seval, asO, ab_, aa_, ba_, a9_, bv_, hsw, a2_, a7_] <;> ((have e : e1_ w = (⟨2, [], [], ex (w.drop 1), E0⟩, ku_ (w.drop 1)) := (by have := qd_ h15; unfold e1_; rw [if_neg (by omega), if_neg (fun h => absurd ((r7_ h20).2 h) (by decide)), if_pos (by simpa [bv_] using h57)]; rfl)); rw [e, aj_]; simp [les, leV, ler, a8_, iy_, i0_, ip_, dj_, ec_, ku_])) (by simp only [go_sem, seval, asO, ab_, aa_, ba_, a9_, bv_, hsw, a2_, a7_])
   ·refine .seq (.rgn [a3_ hss] (by simp only [go_sem, seval, asO, ab_, aa_, ba_, a9_, bv_, hsw, a2_, a7_, cj_ (qd_ h15)]; rfl) ?_ ?_)
    ·have := qd_ h15; omega
    refine .condB (by simp only [go_sem, seval, asO, ab_, aa_, ba_, a9_, bv_, hsw, a2_, a7_]; rfl) (by simp only [go_sem, seval, asO, ab_, aa_, ba_, a9_, bv_, hsw, a2_, a7_]) (fun h71 => ?_) (fun h71 => ?_)
    ·refine .seq (.rgn [a3_ hss] (by simp only [go_sem, seval, asO, ab_, aa_, ba_, a9_, bv_, hsw, a2_, a7_]; rfl) ?_ ?_)
     ·(first | trivial | (simp; done) | (simp [bc_]; done) | (simp [bc_]; omega))
     refine .seq (.rgn [a3_ (hr_ ((w.take (d1_ w bv_).toNat).drop 1) (ei_ (l9_ hw _) 1) (by simp; omega))] (by simp only [go_sem, seval, asO, ab_, aa_, ba_, a9_, bv_, hsw, a2_, a7_]; rfl) ?_ ?_)
     ·have h5 := ((sf_ h71).1 rfl).2; simp only [bv_] at h5; exact ⟨⟨by omega, by omega, by omega, fun h => absurd rfl h⟩, .inr (of_eq_true (bc_ w))⟩
     refine .seq (.rgn [a3_ (hr_ (w.drop ((d1_ w bv_).toNat + 1)) (ei_ hw _) (by simp; omega))] (by simp only [go_sem, seval, asO, ab_, aa_, ba_, a9_, bv_, hsw, a2_, a7_]; rfl) ?_ ?_)
     ·have h5 := ((sf_ h71).1 rfl).2; simp only [bv_] at h5; refine ⟨⟨by omega, .inr (of_eq_true (bc_ w))⟩, ?_⟩; rw [List.take_length, ht h5]; exact a8_ _
     refine .seq (.rgn [] (by simp only [go_sem, seval, asO, ab_, aa_, ba_, a9_, bv_, hsw, a2_, a7_]; rfl) ?_ ?_)
     ·(first | trivial | (simp; done) | (simp [bc_]; done) | (simp [bc_]; omega))
     refine .ret ⟨.inr rfl, ?_⟩
     exact Out.plainL (by simp only [Tryz.results106]; rfl) (by simp only [ax_, a6_, go_sem, seval, asO, ab_, aa_, ba_, a9_, bv_, hsw, a2_, a7_] <;> (split <;> rfl)) (by simp only [a4_, go_sem, seval, asO, ab_, aa_, ba_, a9_, bv_, hsw, a2_, a7_] <;> ((have e : e1_ w = (⟨3, [], [], ex ((w.take (d1_ w bv_).toNat).drop 1), ex (w.drop ((d1_ w bv_).toNat + 1))⟩, ku_ ((w.take (d1_ w bv_).toNat).drop 1) && ku_ (w.drop ((d1_ w bv_).toNat + 1))) := (by have := qd_ h15; unfold e1_; rw [if_neg (by omega), if_neg (fun h => absurd ((r7_ h20).2 h) (by decide)), if_neg (by simpa [bv_] using h57), if_pos ((sf_ h71).1 rfl)]; rfl)); rw [e, aj_]; simp [bv_, les, leV, ler, a8_, iy_, i0_, ip_, dj_, ec_, ku_])) (by simp only [go_sem, seval, asO, ab_, aa_, ba_, a9_, bv_, hsw, a2_, a7_])
    ·refine .skip (.seq (.rgn [] (by simp only [go_sem, seval, asO, ab_, aa_, ba_, a9_, bv_, hsw, a2_, a7_]; rfl) ?_ ?_))
     ·(first | trivial | (simp; done) | (simp [bc_]; done) | (simp [bc_]; omega))
     refine .ret ⟨.inr rfl, ?_⟩
     exact Out.plainL (by simp only [Tryz.results106]; rfl) (by simp only [ax_, a6_, go_sem, seval, asO, ab_, aa_, ba_, a9_, bv_, hsw, a2_, a7_] <;> (split <;> rfl)) (by simp only [a4_, go_sem, seval, asO, ab_, aa_, ba_, a9_, bv_, hsw, a2_, a7_] <;> ((have e : e1_ w = (S0, false) := (by have := qd_ h15; unfold e1_; rw [if_neg (by omega), if_neg (fun h => absurd ((r7_ h20).2 h) (by decide)), if_neg (by simpa [bv_] using h57), if_neg (fun h => absurd ((sf_ h71).2 h) (by decide))])); rw [e, aj_]; simp [les, leV, ler, a8_, iy_, i0_, ip_, dj_, ec_, S0])) (by simp only [go_sem, seval, asO, ab_, aa_, ba_, a9_, bv_, hsw, a2_, a7_])
theorem nd_ {line : Str} (h : ¬ ((ci_ line).isSome = true ∧ (e1_ (dd_ line)).2 = true ∧ sok (e1_ (dd_ line)).1 = true ∧ b1_ (sw' (e1_ (dd_ line)).1) = line)) : kp_ line = none := by
 unfold kp_ dd_ at *
 cases ht : ci_ line with
 | none => rfl
 | some ts =>
  rw [ht] at h
  simp only [Option.getD_some] at h
  dsimp only
  rw [if_neg]
  exact fun q => h ⟨rfl, q⟩
theorem ty_ {line : Str} (h : (ci_ line).isSome = true) (h0 : (e1_ (dd_ line)).2 = true) (h1 : sok (e1_ (dd_ line)).1 = true) (h2 : b1_ (sw' (e1_ (dd_ line)).1) = line) : kp_ line = some (e1_ (dd_ line)).1 := by
 unfold kp_ dd_ at *
 cases ht : ci_ line with
 | none => rw [ht] at h; cases h
 | some ts =>
  rw [ht] at h0 h1 h2
  simp only [Option.getD_some] at h0 h1 h2 ⊢
  rw [if_pos ⟨h0, h1, h2⟩]
theorem ago_ {w : List Str} (h : smW w) : ez_ (e1_ w).1 = true := by
 have g := zk_ h
 have e := fun k => zq_ (ei_ h k)
 have e0 : sm E0 = true := by decide
 unfold e1_
 split
 ·decide
 ·split
  ·simp only [ez_, e, e0, Bool.and_true, T5_, T3_]; have := g 1; have := g 3; omega
  ·split
   ·simp only [ez_, e, e0, Bool.and_true]; rfl
   ·split
    ·simp only [ez_, e, zq_ (ei_ (l9_ h _) 1), Bool.and_true]; rfl
    ·decide
theorem u6_ (line : Str) (hl : line.length ≤ 281474976710656) : ACall En 76 [.s line] [] [.ag (sC ((dy_ line).getD S0)), .b (dy_ line).isSome] [] := by
 obtain ⟨w1, w2⟩ := st_ line
 have hs := ago_ w1
 rw [abr_]
 refine al_ (fn := Tryz.f76) [] Tryz.func76 rfl rfl (by simp) fun C => ?_
 rw [av_]
 simp only [Tryz.ntmps76, T7_, List.length_nil, Nat.reduceAdd, Nat.reduceSub, List.replicate_succ, List.replicate_zero, List.cons_append, List.nil_append, bt_]
 refine .seq (.rgn [] (by simp only [go_sem, seval, aa_, a2_, aj_]; rfl) ?_ ?_)
 ·first | trivial | simp
 refine .seq (.rgn [a3_ (afo_ line hl)] (by simp only [go_sem, seval, aa_, a2_, aj_]; rfl) ?_ ?_)
 ·first | trivial | simp
 refine .seq (.seq (.rgn [] (by simp only [go_sem, seval, aa_, a2_, aj_]; rfl) ?_ ?_))
 ·first | trivial | simp
 refine .condB (by simp only [go_sem, seval, aa_, a2_, aj_]; rfl) (by simp only [go_sem, seval, aa_, a2_, aj_]) (fun h14 => ?_) (fun h14 => ?_)
 ·refine .seq (.rgn [] (by simp only [go_sem, seval, aa_, a2_, aj_]; rfl) ?_ ?_)
  ·first | trivial | simp
  refine .ret ⟨.inr rfl, ?_⟩
  exact Out.plainL (by simp only [Tryz.results76]; rfl) (by simp only [ax_, a6_, go_sem, seval, aa_, a2_, aj_] <;> (split <;> rfl)) (by simp only [a4_, go_sem, seval, aa_, a2_, aj_] <;> (rw [nd_ (fun q => by rw [q.1] at h14; simp at h14)]; simp [S0, les, leV, ler, a8_, iy_, i0_, ip_, dj_, ec_])) (by simp only [go_sem, seval, aa_, a2_, aj_])
 ·refine .skip (.seq (.rgn [a3_ (ads_ (dd_ line) w1 (by omega))] (by simp only [go_sem, seval, aa_, a2_, aj_]; rfl) ?_ ?_))
  ·first | trivial | simp
  refine .seq (.seq (.rgn [a3_ (mm_ (e1_ (dd_ line)).1 hs), cm_ (sok (e1_ (dd_ line)).1 = true) (fun h => ii_ (e1_ (dd_ line)).1 (do_ h) hs), cm_ (sok (e1_ (dd_ line)).1 = true) (fun h => he_ (sw' (e1_ (dd_ line)).1) (by have := (l8_ (do_ h)).1; omega) (by have := lh_ (do_ h); omega))] (by simp only [go_sem, seval, aa_, a2_, aj_]; rfl) ?_ ?_))
  ·first | trivial | simp
  refine .condB (by simp only [go_sem, seval, aa_, a2_, aj_]; rfl) (by simp only [go_sem, seval, aa_, a2_, aj_]) (fun h34 => ?_) (fun h34 => ?_)
  ·refine .seq (.rgn [] (by simp only [go_sem, seval, aa_, a2_, aj_]; rfl) ?_ ?_)
   ·first | trivial | simp
   refine .ret ⟨.inr rfl, ?_⟩
   exact Out.plainL (by simp only [Tryz.results76]; rfl) (by simp only [ax_, a6_, go_sem, seval, aa_, a2_, aj_] <;> (split <;> rfl)) (by simp only [a4_, go_sem, seval, aa_, a2_, aj_] <;> (rw [nd_ (by intro q; simp [q.1, q.2.1, q.2.2] at h34)]; simp [S0, les, leV, ler, a8_, iy_, i0_, ip_, dj_, ec_])) (by simp only [go_sem, seval, aa_, a2_, aj_])
  ·refine .skip (.seq (.rgn [] (by simp only [go_sem, seval, aa_, a2_, aj_]; rfl) ?_ ?_))
   ·first | trivial | simp
   refine .ret ⟨.inr rfl, ?_⟩
   exact Out.plainL (by simp only [Tryz.results76]; rfl) (by simp only [ax_, a6_, go_sem, seval, aa_, a2_, aj_] <;> (split <;> rfl)) (by simp only [a4_, go_sem, seval, aa_, a2_, aj_] <;> (rw [ty_ (by simp at h14; exact h14) (by simp at h34; exact h34.1.1) (by simp at h34; exact h34.1.2) (by simp at h34; exact h34.2)]; simp [les, leV, ler, a8_])) (by simp only [go_sem, seval, aa_, a2_, aj_])
end
section
set_option maxRecDepth 100000
set_option maxHeartbeats 8000000
end
end Go.Proofs.YtpikbndepapbhaaGreatDoor
