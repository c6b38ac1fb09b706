/- What programs say, as they are and turned into lines without types; what texts say, plainly. Conditions: none. -/
import Derived.Test.YtefmbmafdgedmaaGreatDoorMv
import Derived.Test.YtefmbmafdgedmaaGreatDoorMr
import Derived.Test.YtefmbmafdgedmaaGreatDoorMu
import Derived.Test.YtefmbmafdgedmaaGreatDoorMq
import Derived.Test.YtefmbmafdgedmaaGreatDoorMl
set_option linter.unusedVariables false
set_option linter.unusedSimpArgs false
namespace Go.Proofs.YtefmbmafdgedmaaGreatDoor
section
theorem aba_ {l : List Sl} (h : pok l = true) : l.all sok = true := by simp only [pok, Bool.and_eq_true] at h; exact h.2
theorem nl_ {s : Sl} (h : sok s = true) : emT s = ts_ (bof s) := by unfold emT ts_; rw [if_pos h]
theorem nc_ {l : List Sl} (h : pok l = true) : g3_ (f2_ l) = l.map emT := by
 have hb : ∀ s ∈ l, sok s = true := fun s hs => List.all_eq_true.1 (aba_ h) s hs
 have h0 := b0_ h
 unfold f2_; rw [if_pos h]
 exact qo_ (fun w hw => by obtain ⟨s, q, rfl⟩ := List.mem_map.1 hw; rw [nl_ (hb s q)]; exact sn_ (lc_ (hb s q))) (by intro q; have := congrArg List.length q; rw [List.length_map] at this; simp only [List.length_nil] at this; omega) (by rw [List.length_map]; exact h0.2.1)
end
section
set_option maxRecDepth 100000
set_option maxHeartbeats 4000000
end
section
set_option maxRecDepth 100000
set_option maxHeartbeats 4000000
end
section
set_option maxRecDepth 100000
set_option maxHeartbeats 4000000
def d6k (b : Str) (q k : Int) (l : List Sl) : List Sl × Int :=
 if k = 0 then (l ++ [(dl5 b q).1], (dl5 b q).2)
 else if k = 1 then (l ++ List.replicate (17 - l.length) S0, q)
 else if k = 2 then ([], q)
 else (l, q)
def d6 (b : Str) (p : Int) : List Sl × Int := d6k b ((d9_ b p).2 + 1) (b9_ b (d9_ b p).2 40) (d9_ b p).1
theorem y4_ {l : List Sl} (h : l.all okS = true) : kt_ l = true := by
 refine List.all_eq_true.2 fun s hs => ?_
 have := List.all_eq_true.1 h s hs
 simp only [okS, Bool.and_eq_true] at this; exact this.1.1
theorem aek_ : d7_ S0 = true := by decide
theorem d6_p (b : Str) {p : Int} (hp : 0 ≤ p) (hp2 : p < 100000) : (d6 b p).1.length ≤ 17 ∧ kt_ (d6 b p).1 = true := by
 obtain ⟨h1, h2, h3, h4, h5⟩ := t9_ b hp hp2
 have h6 := y4_ h5
 have hD := agt_ b (p := (d9_ b p).2 + 1) (by omega) (by omega)
 unfold d6 d6k
 split
 ·refine ⟨by simp; omega, ?_⟩
  dsimp only [kt_] at h6 ⊢
  rw [List.all_append, h6, List.all_cons, hD.2.2]; rfl
 ·split
  ·refine ⟨by simp; omega, ?_⟩
   dsimp only [kt_] at h6 ⊢
   rw [List.all_append, h6, Bool.true_and]
   exact List.all_eq_true.2 fun s hs => by rw [(List.mem_replicate.1 hs).2]; exact aek_
  ·split
   ·exact ⟨by simp, rfl⟩
   ·exact ⟨by dsimp only; omega, h6⟩
theorem aee_ (l : List Sl) (n : Nat) : sR (l ++ List.replicate (n + 1) S0) = sR (l ++ List.replicate n S0) ++ [sC S0] := by
 rw [List.replicate_succ', ← List.append_assoc, ia_ (l ++ List.replicate n S0)]; rfl
theorem ya_ (b : Str) (p : Int) (hb : b.length ≤ 2000) (hp : 0 ≤ p) (hp2 : p < 100000) : ACall En 37 [.pt 0 2 0 0] [rdB b p] [.sl false (sR (d6 b p).1)] [rdB b (d6 b p).2] := by
 obtain ⟨h1, h2, h3, h4, h5⟩ := t9_ b hp hp2
 have L := vr_ b p hb hp hp2
 have hd : d6 b p = d6k b ((d9_ b p).2 + 1) (b9_ b (d9_ b p).2 40) (d9_ b p).1 := rfl
 generalize d9_ b p = P at *
 refine ap_ (fn := Tryz.f37) [0] Tryz.func37 rfl rfl (by simp) fun C => ?_
 rw [a0_]
 simp only [Tryz.ntmps37, List.length_cons, List.length_nil, Nat.reduceAdd, Nat.reduceSub, List.replicate_succ, List.replicate_zero, List.cons_append, List.nil_append, bq_]
 refine .seq (.rgn [] (by simp only [go_sem, seval, ax_, al_, ar_, am_, ai_, ae_]; rfl) ?_ ?_)
 ·(first | trivial | (simp; done) | (simp; omega))
 refine .seq (.rgn [bv_ [0] [60] L] (by simp only [go_sem, seval, ax_, al_, ar_, am_, ai_, ae_]; rfl) ?_ ?_)
 ·(first | trivial | (simp; done) | (simp; omega))
 refine .seqJ (fun q : List Sl × Int => ⟨[.pt 0 2 0 0, .no, .no, .sl false (sR q.1), .no, .no, .no, .no, .no, .no, .no, .no, .no, .no, .no, .no, .no, .no, .no, .no, .no, .no, .no, .no, .no, .no, .no, .no, .no], a6_ [(0, rdB b q.2)], us []⟩) (fun q : List Sl × Int => q = d6 b p) ?_ (fun q hJ => ?_)
 ·refine .seq (.rgn [bv_ [0] [] (ec_ b P.2 40 hb (by omega) (by omega))] (by simp only [go_sem, seval, ax_, al_, ar_, am_, ai_, ae_]; rfl) ?_ ?_)
  ·(first | trivial | (simp; done) | (simp; omega))
  refine .block (.seq (.rgn [] (by simp only [go_sem, seval, ax_, al_, ar_, am_, ai_, ae_]; rfl) ?_ ?_))
  ·(first | trivial | (simp; done) | (simp; omega))
  refine .condB (by simp only [go_sem, seval, ax_, al_, ar_, am_, ai_, ae_]; rfl) (by simp only [go_sem, seval, ax_, al_, ar_, am_, ai_, ae_]) (fun h8 => ?_) (fun h8 => ?_)
  ·refine .rgn [bv_ [0] [] (aaf_ b (P.2 + 1) hb (by omega) (by omega))] (by simp only [go_sem, seval, ax_, al_, ar_, am_, ai_, ae_]; rfl) ?_ ?_
   ·(first | trivial | (simp; done) | (simp; omega))
   refine Exists.intro ((P.1 ++ [(dl5 b (P.2 + 1)).1], (dl5 b (P.2 + 1)).2)) ⟨?_, ?_⟩
   ·rw [hd]; unfold d6k; first | (rw [if_pos (by simpa using h8)]; done) | (rw [if_neg (by simpa using h8), if_pos (by simpa using h15)]; done) | (rw [if_neg (by simpa using h8), if_neg (by simpa using h15), if_pos (by simpa using h24)]; done) | (rw [if_neg (by simpa using h8), if_neg (by simpa using h15), if_neg (by simpa using h24)]; done)
   refine Can.trans (Can.frz 24 (by simp only [go_sem, seval, ax_, al_, ar_, am_, ai_, ae_] <;> rfl) (by simp only [go_sem, seval, ax_, al_, ar_, am_, ai_, ae_]) (by simp only [go_sem, seval, ax_, al_, ar_, am_, ai_, ae_] <;> rfl) (by simp only [go_sem, seval, ax_, al_, ar_, am_, ai_, ae_] <;> rfl)) ?_
   exact Can.weak (Weak.lit (by simp only [go_sem, seval, ax_, al_, ar_, am_, ai_, ae_, aw_, leV, at_, au_, V.inn, us, true_or, or_true] <;> (first | (simp only [decide_eq_false_iff_not] at h19; (obtain rfl : m = 17 := (by omega)); have e : (P.1 ++ List.replicate (17 - P.1.length) S0).length = 17 := (by simp; omega); rw [if_pos (by rw [e]; exact Nat.le_refl _), List.take_of_length_le (by rw [am_, e]; exact Nat.le_refl _)]; exact dl_ _) | (rw [if_pos (Nat.zero_le _)]; simp [sR, leV, ler]; done) | (rw [List.take_of_length_le (by simp [am_])]; exact bo_ _) | (simp [ia_, io_, ae_, am_, List.take_of_length_le, leV, bo_]; done))) (by simp only [go_sem, seval, ax_, al_, ar_, am_, ai_, ae_, aw_, leV, at_, au_, V.inn, us, true_or, or_true]) (by simp only [go_sem, seval, ax_, al_, ar_, am_, ai_, ae_, aw_, leV, at_, au_, V.inn, us, true_or, or_true]))
  ·refine .seq (.rgn [] (by simp only [go_sem, seval, ax_, al_, ar_, am_, ai_, ae_]; rfl) ?_ ?_)
   ·(first | trivial | (simp; done) | (simp; omega))
   refine .condB (by simp only [go_sem, seval, ax_, al_, ar_, am_, ai_, ae_]; rfl) (by simp only [go_sem, seval, ax_, al_, ar_, am_, ai_, ae_]) (fun h15 => ?_) (fun h15 => ?_)
   ·refine .block (.loopK (fun m : Nat => ⟨[.pt 0 2 0 0, .no, .no, .ow 60 11 0 m, .no, .no, .no, .no, .no, .no, .no, .no, .no, .no, .no, .no, .no, .no, .no, .no, .no, .no, .no, .no, .no, .no, .no, .no, .no], a6_ [(0, rdB b (P.2 + 1)), (60, ⟨72, 11, sR (P.1 ++ List.replicate (m - P.1.length) S0)⟩)], us [60]⟩) (fun m : Nat => m ≤ 17 ∧ P.1.length ≤ m) (fun m : Nat => 17 - m) (P.1.length) ?_ ?_ (fun m hI => ?_))
    ·exact ⟨by omega, Nat.le_refl _⟩
    ·exact Can.weak (Weak.lit (by simp only [go_sem, seval, ax_, al_, ar_, am_, ai_, ae_, aw_, leV, at_, au_, V.inn, us, true_or, or_true] <;> ((try simp))) (by simp only [go_sem, seval, ax_, al_, ar_, am_, ai_, ae_, aw_, leV, at_, au_, V.inn, us, true_or, or_true]) (by simp only [go_sem, seval, ax_, al_, ar_, am_, ai_, ae_, aw_, leV, at_, au_, V.inn, us, true_or, or_true] <;> ((try simp))))
    refine .seq (.seq (.rgn [] (by simp only [go_sem, seval, ax_, al_, ar_, am_, ai_, ae_]; rfl) ?_ ?_))
    ·(first | trivial | (simp; done) | (simp; omega))
    refine .condB (by simp only [go_sem, seval, ax_, al_, ar_, am_, ai_, ae_]; rfl) (by simp only [go_sem, seval, ax_, al_, ar_, am_, ai_, ae_]) (fun h19 => ?_) (fun h19 => ?_)
    ·refine .skip (.block (.rgn [] (by simp only [go_sem, seval, ax_, al_, ar_, am_, ai_, ae_]; rfl) ?_ ?_))
     ·simp at h19; simp [bt_]; omega
     refine Exists.intro (m + 1) ⟨?_, ?_, ?_⟩
     ·simp at h19; omega
     ·simp at h19; omega
     refine Can.trans (Can.swap 33 60 (by decide) (by decide) (by decide) (by decide) (by simp only [go_sem, seval, ax_, al_, ar_, am_, ai_, ae_, V.cl]) (by simp only [go_sem, seval, ax_, al_, ar_, am_, ai_, ae_, V.cl]) (by simp only [go_sem, seval, ax_, al_, ar_, am_, ai_, ae_, be_, sw, swM, rnB] <;> rfl) (by simp only [go_sem, seval, ax_, al_, ar_, am_, ai_, ae_, be_, sw, swM, rnB] <;> rfl) (by simp only [go_sem, seval, ax_, al_, ar_, am_, ai_, ae_, be_, sw, swM, rnB] <;> rfl)) ?_
     refine Can.trans (Can.leAt 60 (sR (P.1 ++ List.replicate (m - P.1.length) S0) ++ [[.i .i64 0, .s [], .s [], .i .i64 0, .i .i64 0, .s [], .sl false [], .i .i64 0, .i .i64 0, .s [], .sl false []]]) (by simp only [go_sem, seval, ax_, al_, ar_, am_, ai_, ae_] <;> rfl) (by simp only [go_sem, seval, ax_, al_, ar_, am_, ai_, ae_, ler, les, leV] <;> (first | trivial | simp)) (by simp only [go_sem, seval, ax_, al_, ar_, am_, ai_, ae_] <;> rfl)) ?_
     exact Can.weak (Weak.lit (by simp only [go_sem, seval, ax_, al_, ar_, am_, ai_, ae_, aw_, leV, at_, au_, V.inn, us, true_or, or_true] <;> ((try simp))) (by simp only [go_sem, seval, ax_, al_, ar_, am_, ai_, ae_, aw_, leV, at_, au_, V.inn, us, true_or, or_true]) (by simp only [go_sem, seval, ax_, al_, ar_, am_, ai_, ae_, aw_, leV, at_, au_, V.inn, us, true_or, or_true] <;> (rw [show m + 1 - P.1.length = (m - P.1.length) + 1 by omega, aee_]; simp [ae_, S0, px_, o3_, ot_, fc_, gm_])))
    ·refine .exit ?_
     refine Exists.intro ((P.1 ++ List.replicate (17 - P.1.length) S0, P.2 + 1)) ⟨?_, ?_⟩
     ·rw [hd]; unfold d6k; first | (rw [if_pos (by simpa using h8)]; done) | (rw [if_neg (by simpa using h8), if_pos (by simpa using h15)]; done) | (rw [if_neg (by simpa using h8), if_neg (by simpa using h15), if_pos (by simpa using h24)]; done) | (rw [if_neg (by simpa using h8), if_neg (by simpa using h15), if_neg (by simpa using h24)]; done)
     refine Can.trans (Can.frz 60 (by simp only [go_sem, seval, ax_, al_, ar_, am_, ai_, ae_] <;> rfl) (by simp only [go_sem, seval, ax_, al_, ar_, am_, ai_, ae_]) (by simp only [go_sem, seval, ax_, al_, ar_, am_, ai_, ae_] <;> rfl) (by simp only [go_sem, seval, ax_, al_, ar_, am_, ai_, ae_] <;> rfl)) ?_
     exact Can.weak (Weak.lit (by simp only [go_sem, seval, ax_, al_, ar_, am_, ai_, ae_, aw_, leV, at_, au_, V.inn, us, true_or, or_true] <;> (first | (simp only [decide_eq_false_iff_not] at h19; (obtain rfl : m = 17 := (by omega)); have e : (P.1 ++ List.replicate (17 - P.1.length) S0).length = 17 := (by simp; omega); rw [if_pos (by rw [e]; exact Nat.le_refl _), List.take_of_length_le (by rw [am_, e]; exact Nat.le_refl _)]; exact dl_ _) | (rw [if_pos (Nat.zero_le _)]; simp [sR, leV, ler]; done) | (rw [List.take_of_length_le (by simp [am_])]; exact bo_ _) | (simp [ia_, io_, ae_, am_, List.take_of_length_le, leV, bo_]; done))) (by simp only [go_sem, seval, ax_, al_, ar_, am_, ai_, ae_, aw_, leV, at_, au_, V.inn, us, true_or, or_true]) (by simp only [go_sem, seval, ax_, al_, ar_, am_, ai_, ae_, aw_, leV, at_, au_, V.inn, us, true_or, or_true]))
   ·refine .seq (.rgn [] (by simp only [go_sem, seval, ax_, al_, ar_, am_, ai_, ae_]; rfl) ?_ ?_)
    ·(first | trivial | (simp; done) | (simp; omega))
    refine .condB (by simp only [go_sem, seval, ax_, al_, ar_, am_, ai_, ae_]; rfl) (by simp only [go_sem, seval, ax_, al_, ar_, am_, ai_, ae_]) (fun h24 => ?_) (fun h24 => ?_)
    ·refine .rgn [] (by simp only [go_sem, seval, ax_, al_, ar_, am_, ai_, ae_]; rfl) ?_ ?_
     ·(first | trivial | (simp; done) | (simp; omega))
     refine Exists.intro (([], P.2 + 1)) ⟨?_, ?_⟩
     ·rw [hd]; unfold d6k; first | (rw [if_pos (by simpa using h8)]; done) | (rw [if_neg (by simpa using h8), if_pos (by simpa using h15)]; done) | (rw [if_neg (by simpa using h8), if_neg (by simpa using h15), if_pos (by simpa using h24)]; done) | (rw [if_neg (by simpa using h8), if_neg (by simpa using h15), if_neg (by simpa using h24)]; done)
     refine Can.trans (Can.frz 60 (by simp only [go_sem, seval, ax_, al_, ar_, am_, ai_, ae_] <;> rfl) (by simp only [go_sem, seval, ax_, al_, ar_, am_, ai_, ae_]) (by simp only [go_sem, seval, ax_, al_, ar_, am_, ai_, ae_] <;> rfl) (by simp only [go_sem, seval, ax_, al_, ar_, am_, ai_, ae_] <;> rfl)) ?_
     exact Can.weak (Weak.lit (by simp only [go_sem, seval, ax_, al_, ar_, am_, ai_, ae_, aw_, leV, at_, au_, V.inn, us, true_or, or_true] <;> (first | (simp only [decide_eq_false_iff_not] at h19; (obtain rfl : m = 17 := (by omega)); have e : (P.1 ++ List.replicate (17 - P.1.length) S0).length = 17 := (by simp; omega); rw [if_pos (by rw [e]; exact Nat.le_refl _), List.take_of_length_le (by rw [am_, e]; exact Nat.le_refl _)]; exact dl_ _) | (rw [if_pos (Nat.zero_le _)]; simp [sR, leV, ler]; done) | (rw [List.take_of_length_le (by simp [am_])]; exact bo_ _) | (simp [ia_, io_, ae_, am_, List.take_of_length_le, leV, bo_]; done))) (by simp only [go_sem, seval, ax_, al_, ar_, am_, ai_, ae_, aw_, leV, at_, au_, V.inn, us, true_or, or_true]) (by simp only [go_sem, seval, ax_, al_, ar_, am_, ai_, ae_, aw_, leV, at_, au_, V.inn, us, true_or, or_true]))
    ·refine .skip ?_
     refine Exists.intro ((P.1, P.2 + 1)) ⟨?_, ?_⟩
     ·rw [hd]; unfold d6k; first | (rw [if_pos (by simpa using h8)]; done) | (rw [if_neg (by simpa using h8), if_pos (by simpa using h15)]; done) | (rw [if_neg (by simpa using h8), if_neg (by simpa using h15), if_pos (by simpa using h24)]; done) | (rw [if_neg (by simpa using h8), if_neg (by simpa using h15), if_neg (by simpa using h24)]; done)
     refine Can.trans (Can.frz 60 (by simp only [go_sem, seval, ax_, al_, ar_, am_, ai_, ae_] <;> rfl) (by simp only [go_sem, seval, ax_, al_, ar_, am_, ai_, ae_]) (by simp only [go_sem, seval, ax_, al_, ar_, am_, ai_, ae_] <;> rfl) (by simp only [go_sem, seval, ax_, al_, ar_, am_, ai_, ae_] <;> rfl)) ?_
     exact Can.weak (Weak.lit (by simp only [go_sem, seval, ax_, al_, ar_, am_, ai_, ae_, aw_, leV, at_, au_, V.inn, us, true_or, or_true] <;> (first | (simp only [decide_eq_false_iff_not] at h19; (obtain rfl : m = 17 := (by omega)); have e : (P.1 ++ List.replicate (17 - P.1.length) S0).length = 17 := (by simp; omega); rw [if_pos (by rw [e]; exact Nat.le_refl _), List.take_of_length_le (by rw [am_, e]; exact Nat.le_refl _)]; exact dl_ _) | (rw [if_pos (Nat.zero_le _)]; simp [sR, leV, ler]; done) | (rw [List.take_of_length_le (by simp [am_])]; exact bo_ _) | (simp [ia_, io_, ae_, am_, List.take_of_length_le, leV, bo_]; done))) (by simp only [go_sem, seval, ax_, al_, ar_, am_, ai_, ae_, aw_, leV, at_, au_, V.inn, us, true_or, or_true]) (by simp only [go_sem, seval, ax_, al_, ar_, am_, ai_, ae_, aw_, leV, at_, au_, V.inn, us, true_or, or_true]))
 refine .seq (.rgn [] (by simp only [go_sem, seval, ax_, al_, ar_, am_, ai_, ae_]; rfl) ?_ ?_)
 ·(first | trivial | (simp; done) | (simp; omega))
 refine .ret ⟨.inr rfl, ?_⟩
 exact Out.mem' (by simp only [Tryz.results37]; rfl) (by simp only [a1_, bc_, go_sem, seval, ax_, al_, ar_, am_, ai_, ae_]) (by simp only [ba_, rns, rn, go_sem, seval, ax_, al_, ar_, am_, ai_, ae_] <;> (rw [← hJ])) (by simp) rfl (by decide) (by simp only [go_sem, seval, ax_, al_, ar_, am_, ai_, ae_]) (by simp only [ar_, go_sem, seval, ax_, al_, ar_, am_, ai_, ae_]) (by simp only [al_, go_sem, seval, ax_, al_, ar_, am_, ai_, ae_] <;> (rw [← hJ]))
theorem m2_ (b : Str) : ACall En 9 [.sl false (byR b)] [] [.sl false (sR (d6 (b.take 2000) 0).1)] [] := by
 refine ap_ (fn := Tryz.f9) [] Tryz.func9 rfl rfl (by simp) fun C => ?_
 rw [a0_]
 simp only [Tryz.ntmps9, List.length_cons, List.length_nil, Nat.reduceAdd, Nat.reduceSub, List.replicate_succ, List.replicate_zero, List.cons_append, List.nil_append, bq_]
 refine .seq (.rgn [] (by simp only [go_sem, seval, al_, ar_, ai_]; rfl) ?_ ?_)
 ·first | trivial | simp
 refine .seq (.rgn [bv_ [] [14] (vb_ b), bv_ [14] [] (ya_ (b.take 2000) 0 (by simp; omega) (by decide) (by decide))] (by simp only [go_sem, seval, al_, ar_, ai_]; rfl) ?_ ?_)
 ·first | trivial | simp
 refine .ret ⟨.inr rfl, ?_⟩
 exact Out.plain (by simp only [Tryz.results9]; rfl) (by simp only [a1_, bc_, go_sem, seval, al_, ar_, ai_] <;> (split <;> rfl)) (by simp only [ba_, go_sem, seval, al_, ar_, ai_] <;> (rfl)) (by simp only [go_sem, seval, al_, ar_, ai_])
end
end Go.Proofs.YtefmbmafdgedmaaGreatDoor
