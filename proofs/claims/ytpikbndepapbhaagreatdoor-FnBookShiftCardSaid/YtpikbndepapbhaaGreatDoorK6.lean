/- The words of a line; where a word stands: the reference's. Conditions: none. -/
import Derived.Test.YtpikbndepapbhaaGreatDoorK5
import Derived.Test.YtpikbndepapbhaaGreatDoorKg
import Derived.Test.YtpikbndepapbhaaGreatDoorKl
import Derived.Test.YtpikbndepapbhaaGreatDoorKi
set_option linter.unusedVariables false
set_option linter.unusedSimpArgs false
namespace Go.Proofs.YtpikbndepapbhaaGreatDoor
section
set_option maxRecDepth 100000
set_option maxHeartbeats 4000000
theorem ac7_ (s : Str) (hs : s.length ≤ 281474976710656) : ACall En 105 [.s s] [] [.sl false (bp_ (da_ s)), .b (bv_ s).isSome] [] := by
 have T := xj_ s hs
 have hb := qj_ s
 unfold da_
 generalize (bv_ s).getD [] = ts at *
 refine al_ (fn := Tryz.f105) [] Tryz.func105 rfl rfl (by simp) fun C => ?_
 rw [aw_]
 simp only [Tryz.ntmps105, T7_, List.length_nil, Nat.reduceAdd, Nat.reduceSub, List.replicate_succ, List.replicate_zero, List.cons_append, List.nil_append, bo_]
 refine .seq (.rgn [] (by simp only [go_sem, seval, av_, at_]; rfl) ?_ ?_)
 ·(first | trivial | (simp; done) | (simp only [T3_] at h17; simp [bp_, bz_]; omega))
 refine .seq (.rgn [a4_ T] (by simp only [go_sem, seval, av_, at_]; rfl) ?_ ?_)
 ·(first | trivial | (simp; done) | (simp only [T3_] at h17; simp [bp_, bz_]; omega))
 refine .seq (.rgn [] (by simp only [go_sem, seval, av_, at_]; rfl) ?_ ?_)
 ·(first | trivial | (simp; done) | (simp only [T3_] at h17; simp [bp_, bz_]; omega))
 refine .seq (.seq (.rgn [] (by simp only [go_sem, seval, av_, at_]; rfl) ?_ ?_))
 ·(first | trivial | (simp; done) | (simp only [T3_] at h17; simp [bp_, bz_]; omega))
 refine .block (.loopK (fun k : Nat => ⟨[.no, .no, .no, .no, .sl false (tkR ts), .b (bv_ s).isSome, .ow 23 1 0 k, .i .i64 k, .no, .no, .no, .no, .no, .no, .no, .no, .no, .no, .no, .no, .no, .no, .no, .no, .no, .no, .no, .no, .no, .no], be_ [(23, ⟨9, 1, bp_ ((ts.take k).map (·.s))⟩)], us [23]⟩) (fun k : Nat => k ≤ ts.length) (fun k : Nat => ts.length - k) (0) ?_ ?_ (fun k hI => ?_))
 ·simp
 ·refine Can.trans (Can.ownSlot 6 23 9 1 (by simp only [go_sem, seval, av_, at_] <;> rfl) (by simp only [go_sem, seval, av_, at_]) (by simp only [go_sem, seval, av_, at_] <;> rfl)) ?_
  exact Can.weak (Weak.lit (by simp only [go_sem, seval, av_, at_, as_, leV, ap_, ar_, V.inn, us, T9_, Ta_] <;> ((try simp))) (by simp only [go_sem, seval, av_, at_, as_, leV, ap_, ar_, V.inn, us, T9_, Ta_]) (by simp only [go_sem, seval, av_, at_, as_, leV, ap_, ar_, V.inn, us, T9_, Ta_] <;> ((try simp [bp_]))))
 refine .seq (.seq (.rgn [] (by simp only [go_sem, seval, av_, at_]; rfl) ?_ ?_))
 ·(first | trivial | (simp; done) | (simp only [T3_] at h17; simp [bp_, bz_]; omega))
 refine .condB (by simp only [go_sem, seval, av_, at_]; rfl) (by simp only [go_sem, seval, av_, at_]) (fun h17 => ?_) (fun h17 => ?_)
 ·refine .skip (.seq (.block (.rgn [] (by simp only [go_sem, seval, av_, at_, tq_ (show k < ts.length by simpa using h17)]; rfl) ?_ ?_)))
  ·(first | trivial | (simp; done) | (simp only [T3_] at h17; simp [bp_, bz_]; omega))
  refine .rgn [] (by simp only [go_sem, seval, av_, at_]; rfl) ?_ ?_
  ·(first | trivial | (simp; done) | (simp only [T3_] at h17; simp [bp_, bz_]; omega))
  refine Exists.intro (k + 1) ⟨?_, ?_, ?_⟩
  ·simp at h17; omega
  ·simp at h17; omega
  refine Can.trans (Can.swap 37 23 (by decide) (by decide) (by decide) (by decide) (by simp only [go_sem, seval, av_, at_, V.cl]) (by simp only [go_sem, seval, av_, at_, V.cl]) (by simp only [go_sem, seval, av_, at_, bj_, sw, swM, rnB] <;> rfl) (by simp only [go_sem, seval, av_, at_, bj_, sw, swM, rnB] <;> rfl) (by simp only [go_sem, seval, av_, at_, bj_, sw, swM, rnB] <;> rfl)) ?_
  exact Can.weak (Weak.lit (by simp only [go_sem, seval, av_, at_, as_, leV, ap_, ar_, V.inn, us, T9_, Ta_] <;> (rw [bd_ (by simp at h17; omega) (by simp at h17; omega)]; (try simp))) (by simp only [go_sem, seval, av_, at_, as_, leV, ap_, ar_, V.inn, us, T9_, Ta_]) (by simp only [go_sem, seval, av_, at_, as_, leV, ap_, ar_, V.inn, us, T9_, Ta_] <;> (simp only [T3_] at h17; rw [List.take_add_one, T6_ (show k < ts.length by omega)]; simp [-List.map_take, -List.take_append_getElem, bp_, T8_, T6_ (show k < ts.length by omega)])))
 ·refine .exit (.seq (.rgn [] (by simp only [go_sem, seval, av_, at_]; rfl) ?_ ?_))
  ·(first | trivial | (simp; done) | (simp only [T3_] at h17; simp [bp_, bz_]; omega))
  refine .frz 23 (by simp only [go_sem, seval, av_, at_]; rfl) (by simp only [go_sem, seval, av_, at_]) (by simp only [go_sem, seval, av_, at_]; rfl) (by simp only [go_sem, seval, av_, at_]; rfl) ?_
  refine .ret ⟨.inr rfl, ?_⟩
  exact Out.plainL (by simp only [Tryz.results105]; rfl) (by simp only [ay_, a6_, go_sem, seval, av_, at_] <;> (split <;> rfl)) (by simp only [a5_, go_sem, seval, av_, at_] <;> (simp at h17; rw [T1_ h17, if_pos (by simpa using hI)]; simp [peel, leV, a9_, bp_, T1_, h17])) (by simp only [go_sem, seval, av_, at_])
theorem akb_ (l : List Str) (hl : l.length < 4611686018427387904) : ACall En 144 [.sl false (bp_ l)] [] [.i .i64 (dx_ l br_)] [] := by
 refine al_ (fn := Tryz.f144) [] Tryz.func144 rfl rfl (by simp) fun C => ?_
 rw [aw_]
 simp only [Tryz.ntmps144, T7_, List.length_nil, Nat.reduceAdd, Nat.reduceSub, List.replicate_succ, List.replicate_zero, List.cons_append, List.nil_append, bo_]
 refine .seq (.rgn [] (by simp only [go_sem, seval, ab_, aa_]; rfl) ?_ ?_)
 ·first | trivial | simp
 refine .seq (.seq (.rgn [] (by simp only [go_sem, seval, ab_, aa_]; rfl) ?_ ?_))
 ·first | trivial | simp
 refine .block (.loopK (fun k : Nat => ⟨[.sl false (bp_ l), .no, .no, .i .i64 k, .no, .no, .no, .no, .no, .no, .no, .no, .no, .no, .no, .no], be_ [], us []⟩) (fun k : Nat => k ≤ l.length ∧ ∀ x ∈ l.take k, x ≠ br_) (fun k : Nat => l.length - k) (0) ?_ ?_ (fun k hI => ?_))
 ·simp
 ·exact Can.weak (Weak.lit (by simp only [go_sem, seval, ab_, aa_, as_, leV, ap_, ar_, V.inn, us, T9_, Ta_] <;> (simp)) (by simp only [go_sem, seval, ab_, aa_, as_, leV, ap_, ar_, V.inn, us, T9_, Ta_]) (by simp only [go_sem, seval, ab_, aa_, as_, leV, ap_, ar_, V.inn, us, T9_, Ta_]))
 refine .seq (.seq (.rgn [] (by simp only [go_sem, seval, ab_, aa_]; rfl) ?_ ?_))
 ·first | trivial | simp
 refine .condB (by simp only [go_sem, seval, ab_, aa_]; rfl) (by simp only [go_sem, seval, ab_, aa_]) (fun h7 => ?_) (fun h7 => ?_)
 ·refine .skip (.seq (.block (.seq (.rgn [] (by simp only [go_sem, seval, ab_, aa_, cd_ (show k < l.length by simpa using h7)]; rfl) ?_ ?_))))
  ·simp at h7; simp [ab_, h7]
  refine .condB (by simp only [go_sem, seval, ab_, aa_]; rfl) (by simp only [go_sem, seval, ab_, aa_]) (fun h14 => ?_) (fun h14 => ?_)
  ·refine .seq (.rgn [] (by simp only [go_sem, seval, ab_, aa_]; rfl) ?_ ?_)
   ·first | trivial | simp
   refine .ret ⟨.inr rfl, ?_⟩
   exact Out.plain (by simp only [Tryz.results144]; rfl) (by simp only [ay_, a6_, go_sem, seval, ab_, aa_] <;> (split <;> rfl)) (by simp only [a5_, go_sem, seval, ab_, aa_] <;> (simp at h7; obtain ⟨g1, g2⟩ := v2_ h7 hI.2 (eq_of_beq h14); unfold dx_; rw [if_pos g1, g2])) (by simp only [go_sem, seval, ab_, aa_])
  ·refine .skip (.rgn [] (by simp only [go_sem, seval, ab_, aa_]; rfl) ?_ ?_)
   ·first | trivial | simp
   refine Exists.intro (k + 1) ⟨?_, ?_, ?_⟩
   ·simp at h7; refine ⟨by omega, fun x hx => ?_⟩; rw [List.take_add_one, List.mem_append, T6_ h7] at hx; rcases hx with hx | hx; exact hI.2 x hx; simp at hx; subst hx; simp [T8_, T6_ h7] at h14; exact h14
   ·simp at h7; omega
   exact Can.weak (Weak.lit (by simp only [go_sem, seval, ab_, aa_, as_, leV, ap_, ar_, V.inn, us, T9_, Ta_] <;> (rw [bd_ (by omega) (by omega)]; simp)) (by simp only [go_sem, seval, ab_, aa_, as_, leV, ap_, ar_, V.inn, us, T9_, Ta_]) (by simp only [go_sem, seval, ab_, aa_, as_, leV, ap_, ar_, V.inn, us, T9_, Ta_]))
 ·refine .exit (.seq (.rgn [] (by simp only [go_sem, seval, ab_, aa_]; rfl) ?_ ?_))
  ·first | trivial | simp
  refine .ret ⟨.inr rfl, ?_⟩
  exact Out.plain (by simp only [Tryz.results144]; rfl) (by simp only [ay_, a6_, go_sem, seval, ab_, aa_] <;> (split <;> rfl)) (by simp only [a5_, go_sem, seval, ab_, aa_] <;> (simp at h7; have : ¬ br_ ∈ l := fun hm => hI.2 br_ (by rw [T1_ h7]; exact hm) rfl; simp [dx_, this])) (by simp only [go_sem, seval, ab_, aa_])
end
section
set_option maxRecDepth 100000
set_option maxHeartbeats 8000000
theorem tj_ (w : List Str) (k : Nat) (c : Bool) (hc : c = true → k < w.length) : (c = true → c = true ∧ (k : Int) < w.length ∧ ((bp_ w).getD k []).length = 1) ∧ (c = true → (c = true ∧ 1 ≤ ((bp_ w).getD k []).length) ∧ ({ v := ((bp_ w).getD k []).getD 0 .no } : Eff) = { v := .s (w.getD k []) }) := by
 have e := fun h => cd_ (l := w) (hc h)
 exact ⟨fun h => ⟨h, by have := hc h; omega, by rw [e h]; rfl⟩, fun h => ⟨⟨h, by rw [e h]; exact Nat.le_refl _⟩, by rw [e h]; rfl⟩⟩
theorem pt_ {w : List Str} (h : ((w.length : Int) == 0) = false) : 0 < w.length := by
 rw [beq_eq_false_iff_ne] at h; omega
theorem r2_ {w : List Str} {b : Bool} (h : (w.getD 0 [] == [108, 101, 116] && decide ((w.length : Int) > 5) && w.getD 2 [] == [58] && w.getD 4 [] == [61]) = b) : (b = true ↔ (w.getD 0 [] = hz_ ∧ 5 < w.length ∧ w.getD 2 [] = hk_ ∧ w.getD 4 [] = wEq)) := by
 rw [← h]
 simp only [T5_, beq_iff_eq, T3_, hz_, hk_, wEq, and_assoc]
 constructor
 ·rintro ⟨a, b, c, d⟩; exact ⟨a, by omega, c, d⟩
 ·rintro ⟨a, b, c, d⟩; exact ⟨a, by omega, c, d⟩
theorem s7_ {w : List Str} {b : Bool} (h : (w.getD 0 [] == [119, 104, 101, 110] && decide (dx_ w [115, 97, 121] > 0)) = b) : (b = true ↔ (w.getD 0 [] = dp_ ∧ 0 < dx_ w br_)) := by
 rw [← h]
 simp only [T5_, beq_iff_eq, T3_, dp_, br_]
 try exact Iff.rfl
theorem ael_ (w : List Str) (hw : smW w) (hl : w.length ≤ 100000) : ACall En 106 [.sl false (bp_ w)] [] [.ag (sC (e3_ w).1), .b (e3_ w).2] [] := by
 have hs := zs_ w br_
 have hss := akb_ w (by omega)
 simp only [br_] at hs hss
 have hsw : IntKind.i64.wrap (dx_ w [115, 97, 121] + 1) = dx_ w [115, 97, 121] + 1 := bd_ (by omega) (by omega)
 have ht : 0 < dx_ w [115, 97, 121] → (dx_ w [115, 97, 121] + 1).toNat = (dx_ w [115, 97, 121]).toNat + 1 := fun h => by omega
 refine al_ (fn := Tryz.f106) [] Tryz.func106 rfl rfl (by simp) fun C => ?_
 rw [aw_]
 simp only [Tryz.ntmps106, T7_, List.length_nil, Nat.reduceAdd, Nat.reduceSub, List.replicate_succ, List.replicate_zero, List.cons_append, List.nil_append, bo_]
 refine .seq (.rgn [] (by simp only [go_sem, seval, asO, ab_, aa_, ba_, bb_, br_, hsw, a3_, a8_]; rfl) ?_ ?_)
 ·(first | trivial | (simp; done) | (simp [bg_]; done) | (simp [bg_]; omega))
 refine .seq (.rgn [] (by simp only [go_sem, seval, asO, ab_, aa_, ba_, bb_, br_, hsw, a3_, a8_]; rfl) ?_ ?_)
 ·(first | trivial | (simp; done) | (simp [bg_]; done) | (simp [bg_]; omega))
 refine .seq (.block (.seq (.rgn [] (by simp only [go_sem, seval, asO, ab_, aa_, ba_, bb_, br_, hsw, a3_, a8_]; rfl) ?_ ?_)))
 ·(first | trivial | (simp; done) | (simp [bg_]; done) | (simp [bg_]; omega))
 refine .condB (by simp only [go_sem, seval, asO, ab_, aa_, ba_, bb_, br_, hsw, a3_, a8_]; rfl) (by simp only [go_sem, seval, asO, ab_, aa_, ba_, bb_, br_, hsw, a3_, a8_]) (fun h15 => ?_) (fun h15 => ?_)
 ·refine .seq (.rgn [] (by simp only [go_sem, seval, asO, ab_, aa_, ba_, bb_, br_, hsw, a3_, a8_]; rfl) ?_ ?_)
  ·(first | trivial | (simp; done) | (simp [bg_]; done) | (simp [bg_]; omega))
  refine .ret ⟨.inr rfl, ?_⟩
  exact Out.plainL (by simp only [Tryz.results106]; rfl) (by simp only [ay_, a6_, go_sem, seval, asO, ab_, aa_, ba_, bb_, br_, hsw, a3_, a8_] <;> (split <;> rfl)) (by simp only [a5_, go_sem, seval, asO, ab_, aa_, ba_, bb_, br_, hsw, a3_, a8_] <;> ((have e : e3_ w = (S0, true) := (by unfold e3_; rw [if_pos (by simpa using h15)])); rw [e, am_]; simp [les, leV, ler, a9_, i8_, iz_, i4_, dj_, d8_, S0])) (by simp only [go_sem, seval, asO, ab_, aa_, ba_, bb_, br_, hsw, a3_, a8_])
 ·refine .seq (.rgnS [33, 39] [asO En { v := .s (w.getD 2 []) }, asO En { v := .s (w.getD 4 []) }] (by simp only [go_sem, seval, asO, ab_, aa_, ba_, bb_, br_, hsw, a3_, a8_, cd_ (pt_ h15)]; rfl) ?_ ?_)
  ·have k1 : (w.getD 0 [] == [108, 101, 116] && decide ((w.length : Int) > 5)) = true → 2 < w.length := (fun h => by simp only [T5_, T3_] at h; omega); have k2 : (w.getD 0 [] == [108, 101, 116] && decide ((w.length : Int) > 5) && w.getD 2 [] == [58]) = true → 4 < w.length := (fun h => by simp only [T5_, T3_] at h; omega); exact ⟨⟨⟨⟨by have := pt_ h15; omega, (tj_ w 2 _ k1).1⟩, (tj_ w 2 _ k1).2⟩, (tj_ w 4 _ k2).1⟩, (tj_ w 4 _ k2).2⟩
  refine .condB (by simp only [go_sem, seval, asO, ab_, aa_, ba_, bb_, br_, hsw, a3_, a8_]; rfl) (by simp only [go_sem, seval, asO, ab_, aa_, ba_, bb_, br_, hsw, a3_, a8_]) (fun h20 => ?_) (fun h20 => ?_)
  ·refine .seq (.rgn [a4_ (hn_ (w.drop 5) (ed_ hw 5) (by simp; omega))] (by simp only [go_sem, seval, asO, ab_, aa_, ba_, bb_, br_, hsw, a3_, a8_]; rfl) ?_ ?_)
   ·have h5 := ((r2_ h20).1 rfl).2.1; refine ⟨⟨by omega, .inr (of_eq_true (bg_ w))⟩, ?_⟩; rw [List.take_length]; exact a9_ _
   refine .seq (.rgnD [] enM (by simp only [go_sem, seval, asO, ab_, aa_, ba_, bb_, br_, hsw, a3_, a8_, cd_ (show 1 < w.length by simp at h20; omega), cd_ (show 3 < w.length by simp at h20; omega)]; rfl) (by rfl) ?_ ?_)
   ·have h5 := ((r2_ h20).1 rfl).2.1; exact ⟨by omega, rfl⟩
   refine .ret ⟨.inr rfl, ?_⟩
   exact Out.plainL (by simp only [Tryz.results106]; rfl) (by simp only [ay_, a6_, go_sem, seval, asO, ab_, aa_, ba_, bb_, br_, hsw, a3_, a8_] <;> (split <;> rfl)) (by simp only [a5_, go_sem, seval, asO, ab_, aa_, ba_, bb_, br_, hsw, a3_, a8_] <;> ((have e : e3_ w = (⟨1, w.getD 1 [], w.getD 3 [], ex (w.drop 5), E0⟩, kt_ (w.drop 5)) := (by have := pt_ h15; unfold e3_; rw [if_neg (by omega), if_pos ((r2_ h20).1 rfl)]; rfl)); rw [e, am_]; simp [les, leV, ler, a9_, i8_, iz_, i4_, dj_, d8_, kt_])) (by simp only [go_sem, seval, asO, ab_, aa_, ba_, bb_, br_, hsw, a3_, a8_])
  ·refine .seq (.rgn [] (by simp only [go_sem, seval, asO, ab_, aa_, ba_, bb_, br_, hsw, a3_, a8_, cd_ (pt_ h15)]; rfl) ?_ ?_)
   ·have := pt_ h15; omega
   refine .condB (by simp only [go_sem, seval, asO, ab_, aa_, ba_, bb_, br_, hsw, a3_, a8_]; rfl) (by simp only [go_sem, seval, asO, ab_, aa_, ba_, bb_, br_, hsw, a3_, a8_]) (fun h57 => ?_) (fun h57 => ?_)
   ·refine .seq (.rgn [a4_ (hn_ (w.drop 1) (ed_ hw 1) (by simp; omega))] (by simp only [go_sem, seval, asO, ab_, aa_, ba_, bb_, br_, hsw, a3_, a8_]; rfl) ?_ ?_)
    ·have h5 := pt_ h15; refine ⟨⟨by omega, .inr (of_eq_true (bg_ w))⟩, ?_⟩; rw [List.take_length]; exact a9_ _
    refine .seq (.rgn [] (by simp only [go_sem, seval, asO, ab_, aa_, ba_, bb_, br_, hsw, a3_, a8_]; rfl) ?_ ?_)
    ·(first | trivial | (simp; done) | (simp [bg_]; done) | (simp [bg_]; omega))
    refine .ret ⟨.inr rfl, ?_⟩
    exact Out.plainL (by simp only [Tryz.results106]; rfl) (by simp only [ay_, a6_, go_sem, seval, asO, ab_, aa_, ba_, bb_, br_, hsw, a3_, a8_] <;> (split <;> rfl)) (by simp only [a5_, go_sem, seval, asO, ab_, aa_, ba_, bb_, br_, hsw, a3_, a8_] <;> ((have e : e3_ w = (⟨2, [], [], ex (w.drop 1), E0⟩, kt_ (w.drop 1)) := (by have := pt_ h15; unfold e3_; rw [if_neg (by omega), if_neg (fun h => absurd ((r2_ h20).2 h) (by decide)), if_pos (by simpa [br_] using h57)]; rfl)); rw [e, am_]; simp [les, leV, ler, a9_, i8_, iz_, i4_, dj_, d8_, kt_])) (by simp only [go_sem, seval, asO, ab_, aa_, ba_, bb_, br_, hsw, a3_, a8_])
   ·refine .seq (.rgn [a4_ hss] (by simp only [go_sem, seval, asO, ab_, aa_, ba_, bb_, br_, hsw, a3_, a8_, cd_ (pt_ h15)]; rfl) ?_ ?_)
    ·have := pt_ h15; omega
    refine .condB (by simp only [go_sem, seval, asO, ab_, aa_, ba_, bb_, br_, hsw, a3_, a8_]; rfl) (by simp only [go_sem, seval, asO, ab_, aa_, ba_, bb_, br_, hsw, a3_, a8_]) (fun h71 => ?_) (fun h71 => ?_)
    ·refine .seq (.rgn [a4_ hss] (by simp only [go_sem, seval, asO, ab_, aa_, ba_, bb_, br_, hsw, a3_, a8_]; rfl) ?_ ?_)
     ·(first | trivial | (simp; done) | (simp [bg_]; done) | (simp [bg_]; omega))
     refine .seq (.rgn [a4_ (hn_ ((w.take (dx_ w br_).toNat).drop 1) (ed_ (lo_ hw _) 1) (by simp; omega))] (by simp only [go_sem, seval, asO, ab_, aa_, ba_, bb_, br_, hsw, a3_, a8_]; rfl) ?_ ?_)
     ·have h5 := ((s7_ h71).1 rfl).2; simp only [br_] at h5; exact ⟨⟨by omega, by omega, by omega, fun h => absurd rfl h⟩, .inr (of_eq_true (bg_ w))⟩
     refine .seq (.rgn [a4_ (hn_ (w.drop ((dx_ w br_).toNat + 1)) (ed_ hw _) (by simp; omega))] (by simp only [go_sem, seval, asO, ab_, aa_, ba_, bb_, br_, hsw, a3_, a8_]; rfl) ?_ ?_)
     ·have h5 := ((s7_ h71).1 rfl).2; simp only [br_] at h5; refine ⟨⟨by omega, .inr (of_eq_true (bg_ w))⟩, ?_⟩; rw [List.take_length, ht h5]; exact a9_ _
     refine .seq (.rgn [] (by simp only [go_sem, seval, asO, ab_, aa_, ba_, bb_, br_, hsw, a3_, a8_]; rfl) ?_ ?_)
     ·(first | trivial | (simp; done) | (simp [bg_]; done) | (simp [bg_]; omega))
     refine .ret ⟨.inr rfl, ?_⟩
     exact Out.plainL (by simp only [Tryz.results106]; rfl) (by simp only [ay_, a6_, go_sem, seval, asO, ab_, aa_, ba_, bb_, br_, hsw, a3_, a8_] <;> (split <;> rfl)) (by simp only [a5_, go_sem, seval, asO, ab_, aa_, ba_, bb_, br_, hsw, a3_, a8_] <;> ((have e : e3_ w = (⟨3, [], [], ex ((w.take (dx_ w br_).toNat).drop 1), ex (w.drop ((dx_ w br_).toNat + 1))⟩, kt_ ((w.take (dx_ w br_).toNat).drop 1) && kt_ (w.drop ((dx_ w br_).toNat + 1))) := (by have := pt_ h15; unfold e3_; rw [if_neg (by omega), if_neg (fun h => absurd ((r2_ h20).2 h) (by decide)), if_neg (by simpa [br_] using h57), if_pos ((s7_ h71).1 rfl)]; rfl)); rw [e, am_]; simp [br_, les, leV, ler, a9_, i8_, iz_, i4_, dj_, d8_, kt_])) (by simp only [go_sem, seval, asO, ab_, aa_, ba_, bb_, br_, hsw, a3_, a8_])
    ·refine .skip (.seq (.rgn [] (by simp only [go_sem, seval, asO, ab_, aa_, ba_, bb_, br_, hsw, a3_, a8_]; rfl) ?_ ?_))
     ·(first | trivial | (simp; done) | (simp [bg_]; done) | (simp [bg_]; omega))
     refine .ret ⟨.inr rfl, ?_⟩
     exact Out.plainL (by simp only [Tryz.results106]; rfl) (by simp only [ay_, a6_, go_sem, seval, asO, ab_, aa_, ba_, bb_, br_, hsw, a3_, a8_] <;> (split <;> rfl)) (by simp only [a5_, go_sem, seval, asO, ab_, aa_, ba_, bb_, br_, hsw, a3_, a8_] <;> ((have e : e3_ w = (S0, false) := (by have := pt_ h15; unfold e3_; rw [if_neg (by omega), if_neg (fun h => absurd ((r2_ h20).2 h) (by decide)), if_neg (by simpa [br_] using h57), if_neg (fun h => absurd ((s7_ h71).2 h) (by decide))])); rw [e, am_]; simp [les, leV, ler, a9_, i8_, iz_, i4_, dj_, d8_, S0])) (by simp only [go_sem, seval, asO, ab_, aa_, ba_, bb_, br_, hsw, a3_, a8_])
theorem nj_ {line : Str} (h : ¬ ((bv_ line).isSome = true ∧ (e3_ (da_ line)).2 = true ∧ sok (e3_ (da_ line)).1 = true ∧ by_ (sw' (e3_ (da_ line)).1) = line)) : ks_ line = none := by
 unfold ks_ da_ at *
 cases ht : bv_ line with
 | none => rfl
 | some ts =>
  rw [ht] at h
  simp only [Option.getD_some] at h
  dsimp only
  rw [if_neg]
  exact fun q => h ⟨rfl, q⟩
theorem wb_ {line : Str} (h : (bv_ line).isSome = true) (h0 : (e3_ (da_ line)).2 = true) (h1 : sok (e3_ (da_ line)).1 = true) (h2 : by_ (sw' (e3_ (da_ line)).1) = line) : ks_ line = some (e3_ (da_ line)).1 := by
 unfold ks_ da_ at *
 cases ht : bv_ line with
 | none => rw [ht] at h; cases h
 | some ts =>
  rw [ht] at h0 h1 h2
  simp only [Option.getD_some] at h0 h1 h2 ⊢
  rw [if_pos ⟨h0, h1, h2⟩]
theorem ajp_ {w : List Str} (h : smW w) : e1_ (e3_ w).1 = true := by
 have g := aan_ h
 have e := fun k => aaw_ (ed_ h k)
 have e0 : sm E0 = true := by decide
 unfold e3_
 split
 ·decide
 ·split
  ·simp only [e1_, e, e0, Bool.and_true, T5_, T3_]; have := g 1; have := g 3; omega
  ·split
   ·simp only [e1_, e, e0, Bool.and_true]; rfl
   ·split
    ·simp only [e1_, e, aaw_ (ed_ (lo_ h _) 1), Bool.and_true]; rfl
    ·decide
theorem vr_ (line : Str) (hl : line.length ≤ 281474976710656) : ACall En 76 [.s line] [] [.ag (sC ((c6_ line).getD S0)), .b (c6_ line).isSome] [] := by
 obtain ⟨w1, w2⟩ := ty_ line
 have hs := ajp_ w1
 rw [aey_]
 refine al_ (fn := Tryz.f76) [] Tryz.func76 rfl rfl (by simp) fun C => ?_
 rw [aw_]
 simp only [Tryz.ntmps76, T7_, List.length_nil, Nat.reduceAdd, Nat.reduceSub, List.replicate_succ, List.replicate_zero, List.cons_append, List.nil_append, bo_]
 refine .seq (.rgn [] (by simp only [go_sem, seval, aa_, a3_, am_]; rfl) ?_ ?_)
 ·first | trivial | simp
 refine .seq (.rgn [a4_ (ac7_ line hl)] (by simp only [go_sem, seval, aa_, a3_, am_]; rfl) ?_ ?_)
 ·first | trivial | simp
 refine .seq (.seq (.rgn [] (by simp only [go_sem, seval, aa_, a3_, am_]; rfl) ?_ ?_))
 ·first | trivial | simp
 refine .condB (by simp only [go_sem, seval, aa_, a3_, am_]; rfl) (by simp only [go_sem, seval, aa_, a3_, am_]) (fun h14 => ?_) (fun h14 => ?_)
 ·refine .seq (.rgn [] (by simp only [go_sem, seval, aa_, a3_, am_]; rfl) ?_ ?_)
  ·first | trivial | simp
  refine .ret ⟨.inr rfl, ?_⟩
  exact Out.plainL (by simp only [Tryz.results76]; rfl) (by simp only [ay_, a6_, go_sem, seval, aa_, a3_, am_] <;> (split <;> rfl)) (by simp only [a5_, go_sem, seval, aa_, a3_, am_] <;> (rw [nj_ (fun q => by rw [q.1] at h14; simp at h14)]; simp [S0, les, leV, ler, a9_, i8_, iz_, i4_, dj_, d8_])) (by simp only [go_sem, seval, aa_, a3_, am_])
 ·refine .skip (.seq (.rgn [a4_ (ael_ (da_ line) w1 (by omega))] (by simp only [go_sem, seval, aa_, a3_, am_]; rfl) ?_ ?_))
  ·first | trivial | simp
  refine .seq (.seq (.rgn [a4_ (m9_ (e3_ (da_ line)).1 hs), cl_ (sok (e3_ (da_ line)).1 = true) (fun h => ib_ (e3_ (da_ line)).1 (dn_ h) hs), cl_ (sok (e3_ (da_ line)).1 = true) (fun h => hg_ (sw' (e3_ (da_ line)).1) (by have := (l4_ (dn_ h)).1; omega) (by have := mf_ (dn_ h); omega))] (by simp only [go_sem, seval, aa_, a3_, am_]; rfl) ?_ ?_))
  ·first | trivial | simp
  refine .condB (by simp only [go_sem, seval, aa_, a3_, am_]; rfl) (by simp only [go_sem, seval, aa_, a3_, am_]) (fun h34 => ?_) (fun h34 => ?_)
  ·refine .seq (.rgn [] (by simp only [go_sem, seval, aa_, a3_, am_]; rfl) ?_ ?_)
   ·first | trivial | simp
   refine .ret ⟨.inr rfl, ?_⟩
   exact Out.plainL (by simp only [Tryz.results76]; rfl) (by simp only [ay_, a6_, go_sem, seval, aa_, a3_, am_] <;> (split <;> rfl)) (by simp only [a5_, go_sem, seval, aa_, a3_, am_] <;> (rw [nj_ (by intro q; simp [q.1, q.2.1, q.2.2] at h34)]; simp [S0, les, leV, ler, a9_, i8_, iz_, i4_, dj_, d8_])) (by simp only [go_sem, seval, aa_, a3_, am_])
  ·refine .skip (.seq (.rgn [] (by simp only [go_sem, seval, aa_, a3_, am_]; rfl) ?_ ?_))
   ·first | trivial | simp
   refine .ret ⟨.inr rfl, ?_⟩
   exact Out.plainL (by simp only [Tryz.results76]; rfl) (by simp only [ay_, a6_, go_sem, seval, aa_, a3_, am_] <;> (split <;> rfl)) (by simp only [a5_, go_sem, seval, aa_, a3_, am_] <;> (rw [wb_ (by simp at h14; exact h14) (by simp at h34; exact h34.1.1) (by simp at h34; exact h34.1.2) (by simp at h34; exact h34.2)]; simp [les, leV, ler, a9_])) (by simp only [go_sem, seval, aa_, a3_, am_])
end
section
set_option maxRecDepth 100000
set_option maxHeartbeats 8000000
end
end Go.Proofs.YtpikbndepapbhaaGreatDoor
