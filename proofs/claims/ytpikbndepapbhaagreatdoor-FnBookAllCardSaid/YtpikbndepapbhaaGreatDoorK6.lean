/- The words of a line; where a word stands: the reference's. Conditions: none. -/
import Derived.Test.YtpikbndepapbhaaGreatDoorK5
import Derived.Test.YtpikbndepapbhaaGreatDoorKg
import Derived.Test.YtpikbndepapbhaaGreatDoorKl
import Derived.Test.YtpikbndepapbhaaGreatDoorKi
set_option linter.unusedVariables false
set_option linter.unusedSimpArgs false
namespace Go.Proofs.YtpikbndepapbhaaGreatDoor
section
set_option maxRecDepth 100000
set_option maxHeartbeats 4000000
theorem ab8_ (s : Str) (hs : s.length ≤ 281474976710656) : ACall En 105 [.s s] [] [.sl false (bo_ (cy_ s)), .b (bt_ s).isSome] [] := by
 have T := xo_ s hs
 have hb := pe_ s
 unfold cy_
 generalize (bt_ s).getD [] = ts at *
 refine aj_ (fn := Tryz.f105) [] Tryz.func105 rfl rfl (by simp) fun C => ?_
 rw [a0_]
 simp only [Tryz.ntmps105, T7_, List.length_nil, Nat.reduceAdd, Nat.reduceSub, List.replicate_succ, List.replicate_zero, List.cons_append, List.nil_append, bq_]
 refine .seq (.rgn [] (by simp only [go_sem, seval, ax_, ao_]; rfl) ?_ ?_)
 ·(first | trivial | (simp; done) | (simp only [T3_] at h17; simp [bo_, b1_]; omega))
 refine .seq (.rgn [a5_ T] (by simp only [go_sem, seval, ax_, ao_]; rfl) ?_ ?_)
 ·(first | trivial | (simp; done) | (simp only [T3_] at h17; simp [bo_, b1_]; omega))
 refine .seq (.rgn [] (by simp only [go_sem, seval, ax_, ao_]; rfl) ?_ ?_)
 ·(first | trivial | (simp; done) | (simp only [T3_] at h17; simp [bo_, b1_]; omega))
 refine .seq (.seq (.rgn [] (by simp only [go_sem, seval, ax_, ao_]; rfl) ?_ ?_))
 ·(first | trivial | (simp; done) | (simp only [T3_] at h17; simp [bo_, b1_]; omega))
 refine .block (.loopK (fun k : Nat => ⟨[.no, .no, .no, .no, .sl false (tkR ts), .b (bt_ s).isSome, .ow 23 1 0 k, .i .i64 k, .no, .no, .no, .no, .no, .no, .no, .no, .no, .no, .no, .no, .no, .no, .no, .no, .no, .no, .no, .no, .no, .no], bg_ [(23, ⟨9, 1, bo_ ((ts.take k).map (·.s))⟩)], us [23]⟩) (fun k : Nat => k ≤ ts.length) (fun k : Nat => ts.length - k) (0) ?_ ?_ (fun k hI => ?_))
 ·simp
 ·refine Can.trans (Can.ownSlot 6 23 9 1 (by simp only [go_sem, seval, ax_, ao_] <;> rfl) (by simp only [go_sem, seval, ax_, ao_]) (by simp only [go_sem, seval, ax_, ao_] <;> rfl)) ?_
  exact Can.weak (Weak.lit (by simp only [go_sem, seval, ax_, ao_, av_, leV, at_, au_, V.inn, us, T9_, Ta_] <;> ((try simp))) (by simp only [go_sem, seval, ax_, ao_, av_, leV, at_, au_, V.inn, us, T9_, Ta_]) (by simp only [go_sem, seval, ax_, ao_, av_, leV, at_, au_, V.inn, us, T9_, Ta_] <;> ((try simp [bo_]))))
 refine .seq (.seq (.rgn [] (by simp only [go_sem, seval, ax_, ao_]; rfl) ?_ ?_))
 ·(first | trivial | (simp; done) | (simp only [T3_] at h17; simp [bo_, b1_]; omega))
 refine .condB (by simp only [go_sem, seval, ax_, ao_]; rfl) (by simp only [go_sem, seval, ax_, ao_]) (fun h17 => ?_) (fun h17 => ?_)
 ·refine .skip (.seq (.block (.rgn [] (by simp only [go_sem, seval, ax_, ao_, r5_ (show k < ts.length by simpa using h17)]; rfl) ?_ ?_)))
  ·(first | trivial | (simp; done) | (simp only [T3_] at h17; simp [bo_, b1_]; omega))
  refine .rgn [] (by simp only [go_sem, seval, ax_, ao_]; rfl) ?_ ?_
  ·(first | trivial | (simp; done) | (simp only [T3_] at h17; simp [bo_, b1_]; omega))
  refine Exists.intro (k + 1) ⟨?_, ?_, ?_⟩
  ·simp at h17; omega
  ·simp at h17; omega
  refine Can.trans (Can.swap 37 23 (by decide) (by decide) (by decide) (by decide) (by simp only [go_sem, seval, ax_, ao_, V.cl]) (by simp only [go_sem, seval, ax_, ao_, V.cl]) (by simp only [go_sem, seval, ax_, ao_, bl_, sw, swM, rnB] <;> rfl) (by simp only [go_sem, seval, ax_, ao_, bl_, sw, swM, rnB] <;> rfl) (by simp only [go_sem, seval, ax_, ao_, bl_, sw, swM, rnB] <;> rfl)) ?_
  exact Can.weak (Weak.lit (by simp only [go_sem, seval, ax_, ao_, av_, leV, at_, au_, V.inn, us, T9_, Ta_] <;> (rw [bh_ (by simp at h17; omega) (by simp at h17; omega)]; (try simp))) (by simp only [go_sem, seval, ax_, ao_, av_, leV, at_, au_, V.inn, us, T9_, Ta_]) (by simp only [go_sem, seval, ax_, ao_, av_, leV, at_, au_, V.inn, us, T9_, Ta_] <;> (simp only [T3_] at h17; rw [List.take_add_one, T6_ (show k < ts.length by omega)]; simp [-List.map_take, -List.take_append_getElem, bo_, T8_, T6_ (show k < ts.length by omega)])))
 ·refine .exit (.seq (.rgn [] (by simp only [go_sem, seval, ax_, ao_]; rfl) ?_ ?_))
  ·(first | trivial | (simp; done) | (simp only [T3_] at h17; simp [bo_, b1_]; omega))
  refine .frz 23 (by simp only [go_sem, seval, ax_, ao_]; rfl) (by simp only [go_sem, seval, ax_, ao_]) (by simp only [go_sem, seval, ax_, ao_]; rfl) (by simp only [go_sem, seval, ax_, ao_]; rfl) ?_
  refine .ret ⟨.inr rfl, ?_⟩
  exact Out.plainL (by simp only [Tryz.results105]; rfl) (by simp only [a1_, a9_, go_sem, seval, ax_, ao_] <;> (split <;> rfl)) (by simp only [a8_, go_sem, seval, ax_, ao_] <;> (simp at h17; rw [T1_ h17, if_pos (by simpa using hI)]; simp [peel, leV, be_, bo_, T1_, h17])) (by simp only [go_sem, seval, ax_, ao_])
theorem ahu_ (l : List Str) (hl : l.length < 4611686018427387904) : ACall En 144 [.sl false (bo_ l)] [] [.i .i64 (dn_ l br_)] [] := by
 refine aj_ (fn := Tryz.f144) [] Tryz.func144 rfl rfl (by simp) fun C => ?_
 rw [a0_]
 simp only [Tryz.ntmps144, T7_, List.length_nil, Nat.reduceAdd, Nat.reduceSub, List.replicate_succ, List.replicate_zero, List.cons_append, List.nil_append, bq_]
 refine .seq (.rgn [] (by simp only [go_sem, seval, ab_, aa_]; rfl) ?_ ?_)
 ·first | trivial | simp
 refine .seq (.seq (.rgn [] (by simp only [go_sem, seval, ab_, aa_]; rfl) ?_ ?_))
 ·first | trivial | simp
 refine .block (.loopK (fun k : Nat => ⟨[.sl false (bo_ l), .no, .no, .i .i64 k, .no, .no, .no, .no, .no, .no, .no, .no, .no, .no, .no, .no], bg_ [], us []⟩) (fun k : Nat => k ≤ l.length ∧ ∀ x ∈ l.take k, x ≠ br_) (fun k : Nat => l.length - k) (0) ?_ ?_ (fun k hI => ?_))
 ·simp
 ·exact Can.weak (Weak.lit (by simp only [go_sem, seval, ab_, aa_, av_, leV, at_, au_, V.inn, us, T9_, Ta_] <;> (simp)) (by simp only [go_sem, seval, ab_, aa_, av_, leV, at_, au_, V.inn, us, T9_, Ta_]) (by simp only [go_sem, seval, ab_, aa_, av_, leV, at_, au_, V.inn, us, T9_, Ta_]))
 refine .seq (.seq (.rgn [] (by simp only [go_sem, seval, ab_, aa_]; rfl) ?_ ?_))
 ·first | trivial | simp
 refine .condB (by simp only [go_sem, seval, ab_, aa_]; rfl) (by simp only [go_sem, seval, ab_, aa_]) (fun h7 => ?_) (fun h7 => ?_)
 ·refine .skip (.seq (.block (.seq (.rgn [] (by simp only [go_sem, seval, ab_, aa_, b8_ (show k < l.length by simpa using h7)]; rfl) ?_ ?_))))
  ·simp at h7; simp [ab_, h7]
  refine .condB (by simp only [go_sem, seval, ab_, aa_]; rfl) (by simp only [go_sem, seval, ab_, aa_]) (fun h14 => ?_) (fun h14 => ?_)
  ·refine .seq (.rgn [] (by simp only [go_sem, seval, ab_, aa_]; rfl) ?_ ?_)
   ·first | trivial | simp
   refine .ret ⟨.inr rfl, ?_⟩
   exact Out.plain (by simp only [Tryz.results144]; rfl) (by simp only [a1_, a9_, go_sem, seval, ab_, aa_] <;> (split <;> rfl)) (by simp only [a8_, go_sem, seval, ab_, aa_] <;> (simp at h7; obtain ⟨g1, g2⟩ := vx_ h7 hI.2 (eq_of_beq h14); unfold dn_; rw [if_pos g1, g2])) (by simp only [go_sem, seval, ab_, aa_])
  ·refine .skip (.rgn [] (by simp only [go_sem, seval, ab_, aa_]; rfl) ?_ ?_)
   ·first | trivial | simp
   refine Exists.intro (k + 1) ⟨?_, ?_, ?_⟩
   ·simp at h7; refine ⟨by omega, fun x hx => ?_⟩; rw [List.take_add_one, List.mem_append, T6_ h7] at hx; rcases hx with hx | hx; exact hI.2 x hx; simp at hx; subst hx; simp [T8_, T6_ h7] at h14; exact h14
   ·simp at h7; omega
   exact Can.weak (Weak.lit (by simp only [go_sem, seval, ab_, aa_, av_, leV, at_, au_, V.inn, us, T9_, Ta_] <;> (rw [bh_ (by omega) (by omega)]; simp)) (by simp only [go_sem, seval, ab_, aa_, av_, leV, at_, au_, V.inn, us, T9_, Ta_]) (by simp only [go_sem, seval, ab_, aa_, av_, leV, at_, au_, V.inn, us, T9_, Ta_]))
 ·refine .exit (.seq (.rgn [] (by simp only [go_sem, seval, ab_, aa_]; rfl) ?_ ?_))
  ·first | trivial | simp
  refine .ret ⟨.inr rfl, ?_⟩
  exact Out.plain (by simp only [Tryz.results144]; rfl) (by simp only [a1_, a9_, go_sem, seval, ab_, aa_] <;> (split <;> rfl)) (by simp only [a8_, go_sem, seval, ab_, aa_] <;> (simp at h7; have : ¬ br_ ∈ l := fun hm => hI.2 br_ (by rw [T1_ h7]; exact hm) rfl; simp [dn_, this])) (by simp only [go_sem, seval, ab_, aa_])
end
section
set_option maxRecDepth 100000
set_option maxHeartbeats 8000000
theorem s5_ (w : List Str) (k : Nat) (c : Bool) (hc : c = true → k < w.length) : (c = true → c = true ∧ (k : Int) < w.length ∧ ((bo_ w).getD k []).length = 1) ∧ (c = true → (c = true ∧ 1 ≤ ((bo_ w).getD k []).length) ∧ ({ v := ((bo_ w).getD k []).getD 0 .no } : Eff) = { v := .s (w.getD k []) }) := by
 have e := fun h => b8_ (l := w) (hc h)
 exact ⟨fun h => ⟨h, by have := hc h; omega, by rw [e h]; rfl⟩, fun h => ⟨⟨h, by rw [e h]; exact Nat.le_refl _⟩, by rw [e h]; rfl⟩⟩
theorem pu_ {w : List Str} (h : ((w.length : Int) == 0) = false) : 0 < w.length := by
 rw [beq_eq_false_iff_ne] at h; omega
theorem q0_ {w : List Str} {b : Bool} (h : (w.getD 0 [] == [108, 101, 116] && decide ((w.length : Int) > 5) && w.getD 2 [] == [58] && w.getD 4 [] == [61]) = b) : (b = true ↔ (w.getD 0 [] = hr_ ∧ 5 < w.length ∧ w.getD 2 [] = hd_ ∧ w.getD 4 [] = wEq)) := by
 rw [← h]
 simp only [T5_, beq_iff_eq, T3_, hr_, hd_, wEq, and_assoc]
 constructor
 ·rintro ⟨a, b, c, d⟩; exact ⟨a, by omega, c, d⟩
 ·rintro ⟨a, b, c, d⟩; exact ⟨a, by omega, c, d⟩
theorem r1_ {w : List Str} {b : Bool} (h : (w.getD 0 [] == [119, 104, 101, 110] && decide (dn_ w [115, 97, 121] > 0)) = b) : (b = true ↔ (w.getD 0 [] = dg_ ∧ 0 < dn_ w br_)) := by
 rw [← h]
 simp only [T5_, beq_iff_eq, T3_, dg_, br_]
 try exact Iff.rfl
theorem afr_ (w : List Str) (hw : smW w) (hl : w.length ≤ 100000) : ACall En 106 [.sl false (bo_ w)] [] [.ag (sC (ek_ w).1), .b (ek_ w).2] [] := by
 have hs := yy_ w br_
 have hss := ahu_ w (by omega)
 simp only [br_] at hs hss
 have hsw : IntKind.i64.wrap (dn_ w [115, 97, 121] + 1) = dn_ w [115, 97, 121] + 1 := bh_ (by omega) (by omega)
 have ht : 0 < dn_ w [115, 97, 121] → (dn_ w [115, 97, 121] + 1).toNat = (dn_ w [115, 97, 121]).toNat + 1 := fun h => by omega
 refine aj_ (fn := Tryz.f106) [] Tryz.func106 rfl rfl (by simp) fun C => ?_
 rw [a0_]
 simp only [Tryz.ntmps106, T7_, List.length_nil, Nat.reduceAdd, Nat.reduceSub, List.replicate_succ, List.replicate_zero, List.cons_append, List.nil_append, bq_]
 refine .seq (.rgn [] (by simp only [go_sem, seval, asO, ab_, aa_, bc_, bb_, br_, hsw, a4_, ba_]; rfl) ?_ ?_)
 ·(first | trivial | (simp; done) | (simp [bf_]; done) | (simp [bf_]; omega))
 refine .seq (.rgn [] (by simp only [go_sem, seval, asO, ab_, aa_, bc_, bb_, br_, hsw, a4_, ba_]; rfl) ?_ ?_)
 ·(first | trivial | (simp; done) | (simp [bf_]; done) | (simp [bf_]; omega))
 refine .seq (.block (.seq (.rgn [] (by simp only [go_sem, seval, asO, ab_, aa_, bc_, bb_, br_, hsw, a4_, ba_]; rfl) ?_ ?_)))
 ·(first | trivial | (simp; done) | (simp [bf_]; done) | (simp [bf_]; omega))
 refine .condB (by simp only [go_sem, seval, asO, ab_, aa_, bc_, bb_, br_, hsw, a4_, ba_]; rfl) (by simp only [go_sem, seval, asO, ab_, aa_, bc_, bb_, br_, hsw, a4_, ba_]) (fun h15 => ?_) (fun h15 => ?_)
 ·refine .seq (.rgn [] (by simp only [go_sem, seval, asO, ab_, aa_, bc_, bb_, br_, hsw, a4_, ba_]; rfl) ?_ ?_)
  ·(first | trivial | (simp; done) | (simp [bf_]; done) | (simp [bf_]; omega))
  refine .ret ⟨.inr rfl, ?_⟩
  exact Out.plainL (by simp only [Tryz.results106]; rfl) (by simp only [a1_, a9_, go_sem, seval, asO, ab_, aa_, bc_, bb_, br_, hsw, a4_, ba_] <;> (split <;> rfl)) (by simp only [a8_, go_sem, seval, asO, ab_, aa_, bc_, bb_, br_, hsw, a4_, ba_] <;> ((have e : ek_ w = (S0, true) := (by unfold ek_; rw [if_pos (by simpa using h15)])); rw [e, af_]; simp [les, leV, ler, be_, ir_, ij_, iq_, c9_, dx_, S0])) (by simp only [go_sem, seval, asO, ab_, aa_, bc_, bb_, br_, hsw, a4_, ba_])
 ·refine .seq (.rgnS [33, 39] [asO En { v := .s (w.getD 2 []) }, asO En { v := .s (w.getD 4 []) }] (by simp only [go_sem, seval, asO, ab_, aa_, bc_, bb_, br_, hsw, a4_, ba_, b8_ (pu_ h15)]; rfl) ?_ ?_)
  ·have k1 : (w.getD 0 [] == [108, 101, 116] && decide ((w.length : Int) > 5)) = true → 2 < w.length := (fun h => by simp only [T5_, T3_] at h; omega); have k2 : (w.getD 0 [] == [108, 101, 116] && decide ((w.length : Int) > 5) && w.getD 2 [] == [58]) = true → 4 < w.length := (fun h => by simp only [T5_, T3_] at h; omega); exact ⟨⟨⟨⟨by have := pu_ h15; omega, (s5_ w 2 _ k1).1⟩, (s5_ w 2 _ k1).2⟩, (s5_ w 4 _ k2).1⟩, (s5_ w 4 _ k2).2⟩
  refine .condB (by simp only [go_sem, seval, asO, ab_, aa_, bc_, bb_, br_, hsw, a4_, ba_]; rfl) (by simp only [go_sem, seval, asO, ab_, aa_, bc_, bb_, br_, hsw, a4_, ba_]) (fun h20 => ?_) (fun h20 => ?_)
  ·refine .seq (.rgn [a5_ (hm_ (w.drop 5) (d0_ hw 5) (by simp; omega))] (by simp only [go_sem, seval, asO, ab_, aa_, bc_, bb_, br_, hsw, a4_, ba_]; rfl) ?_ ?_)
   ·have h5 := ((q0_ h20).1 rfl).2.1; refine ⟨⟨by omega, .inr (of_eq_true (bf_ w))⟩, ?_⟩; rw [List.take_length]; exact be_ _
   refine .seq (.rgnD [] enM (by simp only [go_sem, seval, asO, ab_, aa_, bc_, bb_, br_, hsw, a4_, ba_, b8_ (show 1 < w.length by simp at h20; omega), b8_ (show 3 < w.length by simp at h20; omega)]; rfl) (by rfl) ?_ ?_)
   ·have h5 := ((q0_ h20).1 rfl).2.1; exact ⟨by omega, rfl⟩
   refine .ret ⟨.inr rfl, ?_⟩
   exact Out.plainL (by simp only [Tryz.results106]; rfl) (by simp only [a1_, a9_, go_sem, seval, asO, ab_, aa_, bc_, bb_, br_, hsw, a4_, ba_] <;> (split <;> rfl)) (by simp only [a8_, go_sem, seval, asO, ab_, aa_, bc_, bb_, br_, hsw, a4_, ba_] <;> ((have e : ek_ w = (⟨1, w.getD 1 [], w.getD 3 [], ex (w.drop 5), E0⟩, j9_ (w.drop 5)) := (by have := pu_ h15; unfold ek_; rw [if_neg (by omega), if_pos ((q0_ h20).1 rfl)]; rfl)); rw [e, af_]; simp [les, leV, ler, be_, ir_, ij_, iq_, c9_, dx_, j9_])) (by simp only [go_sem, seval, asO, ab_, aa_, bc_, bb_, br_, hsw, a4_, ba_])
  ·refine .seq (.rgn [] (by simp only [go_sem, seval, asO, ab_, aa_, bc_, bb_, br_, hsw, a4_, ba_, b8_ (pu_ h15)]; rfl) ?_ ?_)
   ·have := pu_ h15; omega
   refine .condB (by simp only [go_sem, seval, asO, ab_, aa_, bc_, bb_, br_, hsw, a4_, ba_]; rfl) (by simp only [go_sem, seval, asO, ab_, aa_, bc_, bb_, br_, hsw, a4_, ba_]) (fun h57 => ?_) (fun h57 => ?_)
   ·refine .seq (.rgn [a5_ (hm_ (w.drop 1) (d0_ hw 1) (by simp; omega))] (by simp only [go_sem, seval, asO, ab_, aa_, bc_, bb_, br_, hsw, a4_, ba_]; rfl) ?_ ?_)
    ·have h5 := pu_ h15; refine ⟨⟨by omega, .inr (of_eq_true (bf_ w))⟩, ?_⟩; rw [List.take_length]; exact be_ _
    refine .seq (.rgn [] (by simp only [go_sem, seval, asO, ab_, aa_, bc_, bb_, br_, hsw, a4_, ba_]; rfl) ?_ ?_)
    ·(first | trivial | (simp; done) | (simp [bf_]; done) | (simp [bf_]; omega))
    refine .ret ⟨.inr rfl, ?_⟩
    exact Out.plainL (by simp only [Tryz.results106]; rfl) (by simp only [a1_, a9_, go_sem, seval, asO, ab_, aa_, bc_, bb_, br_, hsw, a4_, ba_] <;> (split <;> rfl)) (by simp only [a8_, go_sem, seval, asO, ab_, aa_, bc_, bb_, br_, hsw, a4_, ba_] <;> ((have e : ek_ w = (⟨2, [], [], ex (w.drop 1), E0⟩, j9_ (w.drop 1)) := (by have := pu_ h15; unfold ek_; rw [if_neg (by omega), if_neg (fun h => absurd ((q0_ h20).2 h) (by decide)), if_pos (by simpa [br_] using h57)]; rfl)); rw [e, af_]; simp [les, leV, ler, be_, ir_, ij_, iq_, c9_, dx_, j9_])) (by simp only [go_sem, seval, asO, ab_, aa_, bc_, bb_, br_, hsw, a4_, ba_])
   ·refine .seq (.rgn [a5_ hss] (by simp only [go_sem, seval, asO, ab_, aa_, bc_, bb_, br_, hsw, a4_, ba_, b8_ (pu_ h15)]; rfl) ?_ ?_)
    ·have := pu_ h15; omega
    refine .condB (by simp only [go_sem, seval, asO, ab_, aa_, bc_, bb_, br_, hsw, a4_, ba_]; rfl) (by simp only [go_sem, seval, asO, ab_, aa_, bc_, bb_, br_, hsw, a4_, ba_]) (fun h71 => ?_) (fun h71 => ?_)
    ·refine .seq (.rgn [a5_ hss] (by simp only [go_sem, seval, asO, ab_, aa_, bc_, bb_, br_, hsw, a4_, ba_]; rfl) ?_ ?_)
     ·(first | trivial | (simp; done) | (simp [bf_]; done) | (simp [bf_]; omega))
     refine .seq (.rgn [a5_ (hm_ ((w.take (dn_ w br_).toNat).drop 1) (d0_ (lp_ hw _) 1) (by simp; omega))] (by simp only [go_sem, seval, asO, ab_, aa_, bc_, bb_, br_, hsw, a4_, ba_]; rfl) ?_ ?_)
     ·have h5 := ((r1_ h71).1 rfl).2; simp only [br_] at h5; exact ⟨⟨by omega, by omega, by omega, fun h => absurd rfl h⟩, .inr (of_eq_true (bf_ w))⟩
     refine .seq (.rgn [a5_ (hm_ (w.drop ((dn_ w br_).toNat + 1)) (d0_ hw _) (by simp; omega))] (by simp only [go_sem, seval, asO, ab_, aa_, bc_, bb_, br_, hsw, a4_, ba_]; rfl) ?_ ?_)
     ·have h5 := ((r1_ h71).1 rfl).2; simp only [br_] at h5; refine ⟨⟨by omega, .inr (of_eq_true (bf_ w))⟩, ?_⟩; rw [List.take_length, ht h5]; exact be_ _
     refine .seq (.rgn [] (by simp only [go_sem, seval, asO, ab_, aa_, bc_, bb_, br_, hsw, a4_, ba_]; rfl) ?_ ?_)
     ·(first | trivial | (simp; done) | (simp [bf_]; done) | (simp [bf_]; omega))
     refine .ret ⟨.inr rfl, ?_⟩
     exact Out.plainL (by simp only [Tryz.results106]; rfl) (by simp only [a1_, a9_, go_sem, seval, asO, ab_, aa_, bc_, bb_, br_, hsw, a4_, ba_] <;> (split <;> rfl)) (by simp only [a8_, go_sem, seval, asO, ab_, aa_, bc_, bb_, br_, hsw, a4_, ba_] <;> ((have e : ek_ w = (⟨3, [], [], ex ((w.take (dn_ w br_).toNat).drop 1), ex (w.drop ((dn_ w br_).toNat + 1))⟩, j9_ ((w.take (dn_ w br_).toNat).drop 1) && j9_ (w.drop ((dn_ w br_).toNat + 1))) := (by have := pu_ h15; unfold ek_; rw [if_neg (by omega), if_neg (fun h => absurd ((q0_ h20).2 h) (by decide)), if_neg (by simpa [br_] using h57), if_pos ((r1_ h71).1 rfl)]; rfl)); rw [e, af_]; simp [br_, les, leV, ler, be_, ir_, ij_, iq_, c9_, dx_, j9_])) (by simp only [go_sem, seval, asO, ab_, aa_, bc_, bb_, br_, hsw, a4_, ba_])
    ·refine .skip (.seq (.rgn [] (by simp only [go_sem, seval, asO, ab_, aa_, bc_, bb_, br_, hsw, a4_, ba_]; rfl) ?_ ?_))
     ·(first | trivial | (simp; done) | (simp [bf_]; done) | (simp [bf_]; omega))
     refine .ret ⟨.inr rfl, ?_⟩
     exact Out.plainL (by simp only [Tryz.results106]; rfl) (by simp only [a1_, a9_, go_sem, seval, asO, ab_, aa_, bc_, bb_, br_, hsw, a4_, ba_] <;> (split <;> rfl)) (by simp only [a8_, go_sem, seval, asO, ab_, aa_, bc_, bb_, br_, hsw, a4_, ba_] <;> ((have e : ek_ w = (S0, false) := (by have := pu_ h15; unfold ek_; rw [if_neg (by omega), if_neg (fun h => absurd ((q0_ h20).2 h) (by decide)), if_neg (by simpa [br_] using h57), if_neg (fun h => absurd ((r1_ h71).2 h) (by decide))])); rw [e, af_]; simp [les, leV, ler, be_, ir_, ij_, iq_, c9_, dx_, S0])) (by simp only [go_sem, seval, asO, ab_, aa_, bc_, bb_, br_, hsw, a4_, ba_])
theorem m5_ {line : Str} (h : ¬ ((bt_ line).isSome = true ∧ (ek_ (cy_ line)).2 = true ∧ sok (ek_ (cy_ line)).1 = true ∧ bw_ (sw' (ek_ (cy_ line)).1) = line)) : ke_ line = none := by
 unfold ke_ cy_ at *
 cases ht : bt_ line with
 | none => rfl
 | some ts =>
  rw [ht] at h
  simp only [Option.getD_some] at h
  dsimp only
  rw [if_neg]
  exact fun q => h ⟨rfl, q⟩
theorem ub_ {line : Str} (h : (bt_ line).isSome = true) (h0 : (ek_ (cy_ line)).2 = true) (h1 : sok (ek_ (cy_ line)).1 = true) (h2 : bw_ (sw' (ek_ (cy_ line)).1) = line) : ke_ line = some (ek_ (cy_ line)).1 := by
 unfold ke_ cy_ at *
 cases ht : bt_ line with
 | none => rw [ht] at h; cases h
 | some ts =>
  rw [ht] at h0 h1 h2
  simp only [Option.getD_some] at h0 h1 h2 ⊢
  rw [if_pos ⟨h0, h1, h2⟩]
theorem ag8_ {w : List Str} (h : smW w) : d6_ (ek_ w).1 = true := by
 have g := zk_ h
 have e := fun k => ya_ (d0_ h k)
 have e0 : sm E0 = true := by decide
 unfold ek_
 split
 ·decide
 ·split
  ·simp only [d6_, e, e0, Bool.and_true, T5_, T3_]; have := g 1; have := g 3; omega
  ·split
   ·simp only [d6_, e, e0, Bool.and_true]; rfl
   ·split
    ·simp only [d6_, e, ya_ (d0_ (lp_ h _) 1), Bool.and_true]; rfl
    ·decide
theorem wk_ (line : Str) (hl : line.length ≤ 281474976710656) : ACall En 76 [.s line] [] [.ag (sC ((cu_ line).getD S0)), .b (cu_ line).isSome] [] := by
 obtain ⟨w1, w2⟩ := s9_ line
 have hs := ag8_ w1
 rw [ae6_]
 refine aj_ (fn := Tryz.f76) [] Tryz.func76 rfl rfl (by simp) fun C => ?_
 rw [a0_]
 simp only [Tryz.ntmps76, T7_, List.length_nil, Nat.reduceAdd, Nat.reduceSub, List.replicate_succ, List.replicate_zero, List.cons_append, List.nil_append, bq_]
 refine .seq (.rgn [] (by simp only [go_sem, seval, aa_, a4_, af_]; rfl) ?_ ?_)
 ·first | trivial | simp
 refine .seq (.rgn [a5_ (ab8_ line hl)] (by simp only [go_sem, seval, aa_, a4_, af_]; rfl) ?_ ?_)
 ·first | trivial | simp
 refine .seq (.seq (.rgn [] (by simp only [go_sem, seval, aa_, a4_, af_]; rfl) ?_ ?_))
 ·first | trivial | simp
 refine .condB (by simp only [go_sem, seval, aa_, a4_, af_]; rfl) (by simp only [go_sem, seval, aa_, a4_, af_]) (fun h14 => ?_) (fun h14 => ?_)
 ·refine .seq (.rgn [] (by simp only [go_sem, seval, aa_, a4_, af_]; rfl) ?_ ?_)
  ·first | trivial | simp
  refine .ret ⟨.inr rfl, ?_⟩
  exact Out.plainL (by simp only [Tryz.results76]; rfl) (by simp only [a1_, a9_, go_sem, seval, aa_, a4_, af_] <;> (split <;> rfl)) (by simp only [a8_, go_sem, seval, aa_, a4_, af_] <;> (rw [m5_ (fun q => by rw [q.1] at h14; simp at h14)]; simp [S0, les, leV, ler, be_, ir_, ij_, iq_, c9_, dx_])) (by simp only [go_sem, seval, aa_, a4_, af_])
 ·refine .skip (.seq (.rgn [a5_ (afr_ (cy_ line) w1 (by omega))] (by simp only [go_sem, seval, aa_, a4_, af_]; rfl) ?_ ?_))
  ·first | trivial | simp
  refine .seq (.seq (.rgn [a5_ (me_ (ek_ (cy_ line)).1 hs), cf_ (sok (ek_ (cy_ line)).1 = true) (fun h => ht_ (ek_ (cy_ line)).1 (de_ h) hs), cf_ (sok (ek_ (cy_ line)).1 = true) (fun h => g1_ (sw' (ek_ (cy_ line)).1) (by have := (lm_ (de_ h)).1; omega) (by have := lt_ (de_ h); omega))] (by simp only [go_sem, seval, aa_, a4_, af_]; rfl) ?_ ?_))
  ·first | trivial | simp
  refine .condB (by simp only [go_sem, seval, aa_, a4_, af_]; rfl) (by simp only [go_sem, seval, aa_, a4_, af_]) (fun h34 => ?_) (fun h34 => ?_)
  ·refine .seq (.rgn [] (by simp only [go_sem, seval, aa_, a4_, af_]; rfl) ?_ ?_)
   ·first | trivial | simp
   refine .ret ⟨.inr rfl, ?_⟩
   exact Out.plainL (by simp only [Tryz.results76]; rfl) (by simp only [a1_, a9_, go_sem, seval, aa_, a4_, af_] <;> (split <;> rfl)) (by simp only [a8_, go_sem, seval, aa_, a4_, af_] <;> (rw [m5_ (by intro q; simp [q.1, q.2.1, q.2.2] at h34)]; simp [S0, les, leV, ler, be_, ir_, ij_, iq_, c9_, dx_])) (by simp only [go_sem, seval, aa_, a4_, af_])
  ·refine .skip (.seq (.rgn [] (by simp only [go_sem, seval, aa_, a4_, af_]; rfl) ?_ ?_))
   ·first | trivial | simp
   refine .ret ⟨.inr rfl, ?_⟩
   exact Out.plainL (by simp only [Tryz.results76]; rfl) (by simp only [a1_, a9_, go_sem, seval, aa_, a4_, af_] <;> (split <;> rfl)) (by simp only [a8_, go_sem, seval, aa_, a4_, af_] <;> (rw [ub_ (by simp at h14; exact h14) (by simp at h34; exact h34.1.1) (by simp at h34; exact h34.1.2) (by simp at h34; exact h34.2)]; simp [les, leV, ler, be_])) (by simp only [go_sem, seval, aa_, a4_, af_])
end
section
set_option maxRecDepth 100000
set_option maxHeartbeats 8000000
end
end Go.Proofs.YtpikbndepapbhaaGreatDoor
