/- Lines with types: words, text, ok: the program's and the reference's; without types. Conditions: none. -/
import Derived.Test.YtefmbmafdgedmaaGreatDoorNj
import Derived.Test.YtefmbmafdgedmaaGreatDoorNk
set_option linter.unusedVariables false
set_option linter.unusedSimpArgs false
namespace Go.Proofs.YtefmbmafdgedmaaGreatDoor
section
set_option maxRecDepth 100000
set_option maxHeartbeats 4000000
def ds_ (s : Sl) : Wd :=
 if s.kind = 1 then (hn_, 100) :: (s.name, 101) :: (g7_, -1) :: (s.type, -1) :: (wEq, 102) :: src s.expr 0 0
 else if s.kind = 2 then (bj_, 103) :: src s.expr 0 0
 else if s.kind = 3 then ((dr_, 100) :: src s.expr 0 0 ++ [(bj_, 103)]) ++ src s.thn 0 (cnt s.expr)
 else []
theorem fw_ {s : Sl} (h : cw_ s = true) : (s.kind = 0 ∨ s.kind = 1 ∨ s.kind = 2 ∨ s.kind = 3) ∧ (s.kind = 1 ∨ s.kind = 2 ∨ s.kind = 3 → eok s.expr = true) ∧ (s.kind = 3 → eok s.thn = true) := by
 unfold cw_ at h
 by_cases k0 : s.kind = 0
 ·simp [k0]
 by_cases k1 : s.kind = 1
 ·simp [k1] at h; simp [k1]; exact h.1.2
 by_cases k2 : s.kind = 2
 ·simp [k2] at h; simp [k2]; exact h.1.2
 by_cases k3 : s.kind = 3
 ·simp [k3] at h; simp [k3]; exact ⟨h.1.2, h.2⟩
 ·simp [k0, k1, k2, k3] at h
theorem nn_ {s : Sl} (h : cw_ s = true) : (ds_ s).map (·.1) = sw' s := by
 obtain ⟨h0, h1, h2⟩ := fw_ h
 unfold ds_ sw'
 rcases h0 with k | k | k | k
 ·simp [k]
 ·simp [k, ej_, ev_ (bk_ (h1 (.inl k)))]
 ·simp [k, ej_, ev_ (bk_ (h1 (.inr (.inl k))))]
 ·simp [k, ej_, ev_ (bk_ (h1 (.inr (.inr k)))), ev_ (bk_ (h2 k))]
theorem sy_ (s : Sl) (h : cw_ s = true) (hs : gi_ s = true) : ACall En 90 [.ag (sC s)] [] [.sl false (wdR (ds_ s))] [] := by
 obtain ⟨h0, h1, h2⟩ := fw_ h
 obtain ⟨s1, s1', s2, s3⟩ := gv_ hs
 have W : s.kind = 1 ∨ s.kind = 2 ∨ s.kind = 3 → _ := fun hk => k0_ 5 s.expr 0 0 (bk_ (h1 hk)) s2 (hj_ (h1 hk)) (by decide) (by have := ju_ (h1 hk); omega) (by decide)
 have W3 : s.kind = 3 → _ := fun hk => k0_ 5 s.thn 0 (0 + cnt s.expr) (bk_ (h2 hk)) s3 (hj_ (h2 hk)) (by have := ju_ (h1 (.inr (.inr hk))); omega) (by have := ju_ (h1 (.inr (.inr hk))); have := ju_ (h2 hk); omega) (by decide)
 refine ah_ (fn := Tryz.f90) [] Tryz.func90 rfl rfl (by simp) fun C => ?_
 rw [ar_]
 simp only [Tryz.ntmps90, List.length_cons, List.length_nil, Nat.reduceAdd, Nat.reduceSub, List.replicate_succ, List.replicate_zero, List.cons_append, List.nil_append, bd_]
 refine .seq (.rgn [] (by simp only [go_sem, seval, ae_, ad_, List.length_append, List.take_of_length_le, ag_]; rfl) ?_ ?_)
 ·(first | trivial | (simp; done) | (simp [cc_, List.forall_mem_append, a9_]; done))
 refine .seq (.rgn [] (by simp only [go_sem, seval, ae_, ad_, List.length_append, List.take_of_length_le, ag_]; rfl) ?_ ?_)
 ·(first | trivial | (simp; done) | (simp [cc_, List.forall_mem_append, a9_]; done))
 refine .seq (.seq (.rgn [] (by simp only [go_sem, seval, ae_, ad_, List.length_append, List.take_of_length_le, ag_]; rfl) ?_ ?_))
 ·(first | trivial | (simp; done) | (simp [cc_, List.forall_mem_append, a9_]; done))
 refine .block (.seq (.rgn [] (by simp only [go_sem, seval, ae_, ad_, List.length_append, List.take_of_length_le, ag_]; rfl) ?_ ?_))
 ·(first | trivial | (simp; done) | (simp [cc_, List.forall_mem_append, a9_]; done))
 refine .condB (by simp only [go_sem, seval, ae_, ad_, List.length_append, List.take_of_length_le, ag_]; rfl) (by simp only [go_sem, seval, ae_, ad_, List.length_append, List.take_of_length_le, ag_]) (fun h7 => ?_) (fun h7 => ?_)
 ·refine .seq (.rgnD [cz_ [13] [31] (W (.inl (by simpa using h7)))] enM (by simp only [go_sem, seval, ae_, ad_, List.length_append, List.take_of_length_le, ag_, as_, ay_]; rfl) (by rfl) ?_ ?_)
  ·have q := h1 (.inl (by simpa using h7)); have q2 := (gd_ q 0 0); have q3 : src s.expr 0 0 ≠ [] := (fun e => by have := (cn_ q 0).1; rw [← if_ s.expr 0 0, e] at this; simp at this); simp [cc_, a9_, q3, e1_]; omega
  refine .frz 32 (by simp only [go_sem, seval, ae_, ad_, List.length_append, List.take_of_length_le, ag_]; rfl) (by simp only [go_sem, seval, ae_, ad_, List.length_append, List.take_of_length_le, ag_]) (by simp only [go_sem, seval, ae_, ad_, List.length_append, List.take_of_length_le, ag_]; rfl) (by simp only [go_sem, seval, ae_, ad_, List.length_append, List.take_of_length_le, ag_]; rfl) ?_
  refine .ret ⟨.inr rfl, ?_⟩
  exact Out.plain (by simp only [Tryz.results90]; rfl) (by simp only [aq_, a8_, go_sem, seval, ae_, ad_, List.length_append, List.take_of_length_le, ag_] <;> (split <;> rfl)) (by simp only [a7_, go_sem, seval, ae_, ad_, List.length_append, List.take_of_length_le, ag_] <;> (have k : s.kind = 1 := (by simpa using h7); rw [if_pos (by omega), List.take_of_length_le (by simp [ae_]; omega)]; simp [ds_, k, wdR, peel, wEq, hn_, g7_])) (by simp only [go_sem, seval, ae_, ad_, List.length_append, List.take_of_length_le, ag_])
 ·refine .seq (.rgn [] (by simp only [go_sem, seval, ae_, ad_, List.length_append, List.take_of_length_le, ag_]; rfl) ?_ ?_)
  ·(first | trivial | (simp; done) | (simp [cc_, List.forall_mem_append, a9_]; done))
  refine .condB (by simp only [go_sem, seval, ae_, ad_, List.length_append, List.take_of_length_le, ag_]; rfl) (by simp only [go_sem, seval, ae_, ad_, List.length_append, List.take_of_length_le, ag_]) (fun h23 => ?_) (fun h23 => ?_)
  ·refine .seq (.rgn [cz_ [13] [39] (W (.inr (.inl (by simpa using h23))))] (by simp only [go_sem, seval, ae_, ad_, List.length_append, List.take_of_length_le, ag_, as_, ay_]; rfl) ?_ ?_)
   ·have q := h1 (.inr (.inl (by simpa using h23))); have q2 := (gd_ q 0 0); have q3 : src s.expr 0 0 ≠ [] := (fun e => by have := (cn_ q 0).1; rw [← if_ s.expr 0 0, e] at this; simp at this); simp [cc_, a9_, q3, e1_]; omega
   refine .frz 40 (by simp only [go_sem, seval, ae_, ad_, List.length_append, List.take_of_length_le, ag_]; rfl) (by simp only [go_sem, seval, ae_, ad_, List.length_append, List.take_of_length_le, ag_]) (by simp only [go_sem, seval, ae_, ad_, List.length_append, List.take_of_length_le, ag_]; rfl) (by simp only [go_sem, seval, ae_, ad_, List.length_append, List.take_of_length_le, ag_]; rfl) ?_
   refine .ret ⟨.inr rfl, ?_⟩
   exact Out.plain (by simp only [Tryz.results90]; rfl) (by simp only [aq_, a8_, go_sem, seval, ae_, ad_, List.length_append, List.take_of_length_le, ag_] <;> (split <;> rfl)) (by simp only [a7_, go_sem, seval, ae_, ad_, List.length_append, List.take_of_length_le, ag_] <;> (have k : s.kind = 2 := (by simpa using h23); rw [if_pos (by omega), List.take_of_length_le (by simp [ae_]; omega)]; simp [ds_, k, wdR, peel, bj_])) (by simp only [go_sem, seval, ae_, ad_, List.length_append, List.take_of_length_le, ag_])
  ·refine .seq (.rgn [] (by simp only [go_sem, seval, ae_, ad_, List.length_append, List.take_of_length_le, ag_]; rfl) ?_ ?_)
   ·(first | trivial | (simp; done) | (simp [cc_, List.forall_mem_append, a9_]; done))
   refine .condB (by simp only [go_sem, seval, ae_, ad_, List.length_append, List.take_of_length_le, ag_]; rfl) (by simp only [go_sem, seval, ae_, ad_, List.length_append, List.take_of_length_le, ag_]) (fun h31 => ?_) (fun h31 => ?_)
   ·refine .seq (.rgn [cz_ [13] [47] (W (.inr (.inr (by simpa using h31))))] (by simp only [go_sem, seval, ae_, ad_, List.length_append, List.take_of_length_le, ag_, as_, ay_]; rfl) ?_ ?_)
    ·have q := h1 (.inr (.inr (by simpa using h31))); have q2 := (gd_ q 0 0); have q3 : src s.expr 0 0 ≠ [] := (fun e => by have := (cn_ q 0).1; rw [← if_ s.expr 0 0, e] at this; simp at this); simp [cc_, a9_, q3, e1_]; omega
    refine .seq (.rgn [] (by simp only [go_sem, seval, ae_, ad_, List.length_append, List.take_of_length_le, ag_]; rfl) ?_ ?_)
    ·have q := h1 (.inr (.inr (by simpa using h31))); have q2 := (gd_ q 0 0); simp [cc_, a9_]; omega
    refine .seq (.rgn [cz_ [13] [56] (W3 (by simpa using h31))] (by simp only [go_sem, seval, ae_, ad_, List.length_append, List.take_of_length_le, ag_, as_, ay_]; rfl) ?_ ?_)
    ·have q := h1 (.inr (.inr (by simpa using h31))); have q2 := (gd_ q 0 0); have q4 := gd_ (h2 (by simpa using h31)) 0 (0 + cnt s.expr); simp at q4; simp [cc_, a9_]; omega
    refine .frz 57 (by simp only [go_sem, seval, ae_, ad_, List.length_append, List.take_of_length_le, ag_]; rfl) (by simp only [go_sem, seval, ae_, ad_, List.length_append, List.take_of_length_le, ag_]) (by simp only [go_sem, seval, ae_, ad_, List.length_append, List.take_of_length_le, ag_]; rfl) (by simp only [go_sem, seval, ae_, ad_, List.length_append, List.take_of_length_le, ag_]; rfl) ?_
    refine .ret ⟨.inr rfl, ?_⟩
    exact Out.plain (by simp only [Tryz.results90]; rfl) (by simp only [aq_, a8_, go_sem, seval, ae_, ad_, List.length_append, List.take_of_length_le, ag_] <;> (split <;> rfl)) (by simp only [a7_, go_sem, seval, ae_, ad_, List.length_append, List.take_of_length_le, ag_] <;> (have k : s.kind = 3 := (by simpa using h31); rw [if_pos (by omega), List.take_of_length_le (by simp [ae_]; omega)]; simp [ds_, k, wdR, peel, bj_, dr_])) (by simp only [go_sem, seval, ae_, ad_, List.length_append, List.take_of_length_le, ag_])
   ·refine .skip (.seq (.rgn [] (by simp only [go_sem, seval, ae_, ad_, List.length_append, List.take_of_length_le, ag_]; rfl) ?_ ?_))
    ·(first | trivial | (simp; done) | (simp [cc_, List.forall_mem_append, a9_]; done))
    refine .can (Can.slotLe 2 (.sl false []) (by simp only [go_sem, seval, ae_, ad_, List.length_append, List.take_of_length_le, ag_] <;> trivial) (by simp only [go_sem, seval, ae_, ad_, List.length_append, List.take_of_length_le, ag_] <;> rfl)) ?_
    refine .ret ⟨.inr rfl, ?_⟩
    exact Out.plain (by simp only [Tryz.results90]; rfl) (by simp only [aq_, a8_, go_sem, seval, ae_, ad_, List.length_append, List.take_of_length_le, ag_] <;> (split <;> rfl)) (by simp only [a7_, go_sem, seval, ae_, ad_, List.length_append, List.take_of_length_le, ag_] <;> (have k : s.kind = 0 := (by simp_all); simp [ds_, k, wdR])) (by simp only [go_sem, seval, ae_, ad_, List.length_append, List.take_of_length_le, ag_])
theorem m3_ {s : Sl} (h : cw_ s = true) : (bv_ (sw' s)).length ≤ 1000 := by
 have := mk_ h
 have h2 := pe_ (fun s hs => (this.2 s hs).2)
 omega
theorem rp_ (s : Sl) (h : cw_ s = true) (hs : gi_ s = true) : ACall En 143 [.ag (sC s)] [] [.s (bv_ (sw' s))] [] := by
 have h1 := m3_ h
 have h2 := (mk_ h).1
 have h3 := nn_ h
 have h4 : (ds_ s).length = (sw' s).length := by rw [← h3, List.length_map]
 refine ah_ (fn := Tryz.f143) [] Tryz.func143 rfl rfl (by simp) fun C => ?_
 rw [ar_]
 simp only [Tryz.ntmps143, List.length_cons, List.length_nil, Nat.reduceAdd, Nat.reduceSub, List.replicate_succ, List.replicate_zero, List.cons_append, List.nil_append, bd_]
 refine .seq (.rgn [] (by simp only [go_sem, seval, ag_, ad_, h3]; rfl) ?_ ?_)
 ·simp
 refine .seq (.rgn [a2_ (sy_ s h hs), a2_ (iv_ (ds_ s) (by omega)), a2_ (kt_ (sw' s) (by omega) (by omega))] (by simp only [go_sem, seval, ag_, ad_, h3]; rfl) ?_ ?_)
 ·simp
 refine .ret ⟨.inr rfl, ?_⟩
 exact Out.plain (by simp only [Tryz.results143]; rfl) (by simp only [aq_, a8_, go_sem, seval, ag_, ad_, h3] <;> (split <;> rfl)) (by simp only [a7_, go_sem, seval, ag_, ad_, h3] <;> (rfl)) (by simp only [go_sem, seval, ag_, ad_, h3])
theorem qt_ (s : Sl) (hs : gi_ s = true) : ACall En 89 [.ag (sC s)] [] [.b (sok s)] [] := by
 obtain ⟨s1, s1', s2, s3⟩ := gv_ hs
 refine ah_ (fn := Tryz.f89) [] Tryz.func89 rfl rfl (by simp) fun C => ?_
 rw [ar_]
 simp only [Tryz.ntmps89, List.length_cons, List.length_nil, Nat.reduceAdd, Nat.reduceSub, List.replicate_succ, List.replicate_zero, List.cons_append, List.nil_append, bd_]
 refine .seq (.rgn [] (by simp only [go_sem, seval, ag_]; rfl) ?_ ?_)
 ·(first | trivial | (simp; done) | exact hJ.symm)
 refine .seq (.rgn [] (by simp only [go_sem, seval, ag_]; rfl) ?_ ?_)
 ·(first | trivial | (simp; done) | exact hJ.symm)
 refine .seqJ (fun q : Bool => ⟨[.no, .pt 11 11 0 0, .no, .b q, .no, .no, .no, .no, .no, .no, .no, .no, .no, .no, .no, .no, .no, .no, .no, .no, .no, .no, .no, .no, .no, .no, .no, .no, .no, .no, .no, .no, .no, .no, .no, .no, .no, .no, .no, .no, .no, .no, .no, .no, .no, .no, .no, .no, .no, .no, .no, .no, .no, .no, .no, .no, .no, .no, .no, .no, .no, .no, .no, .no, .no, .no, .no, .no, .no, .no, .no, .no, .no, .no, .no, .no, .no, .no, .no, .no, .no, .no, .no, .no, .no, .no, .no, .no, .no, .no, .no, .no, .no], aw_ [(11, ⟨72, 11, [sC s]⟩)], us [11]⟩) (fun q : Bool => q = cw_ s) ?_ (fun q hJ => ?_)
 ·refine .seq (.rgn [] (by simp only [go_sem, seval, ag_]; rfl) ?_ ?_)
  ·(first | trivial | (simp; done) | exact hJ.symm)
  refine .block (.seq (.rgn [] (by simp only [go_sem, seval, ag_]; rfl) ?_ ?_))
  ·(first | trivial | (simp; done) | exact hJ.symm)
  refine .condB (by simp only [go_sem, seval, ag_]; rfl) (by simp only [go_sem, seval, ag_]) (fun h6 => ?_) (fun h6 => ?_)
  ·refine .rgn [a2_ (i9_ s.expr s2), a2_ (i9_ s.thn s3)] (by simp only [go_sem, seval, ag_]; rfl) ?_ ?_
   ·(first | trivial | (simp; done) | exact hJ.symm)
   refine Exists.intro (cw_ s) ⟨?_, ?_⟩
   ·rfl
   exact Can.weak (Weak.lit (by simp only [go_sem, seval, ag_, an_, leV, al_, am_, V.inn, us, true_or, or_true] <;> ((unfold cw_; simp_all))) (by simp only [go_sem, seval, ag_, an_, leV, al_, am_, V.inn, us, true_or, or_true]) (by simp only [go_sem, seval, ag_, an_, leV, al_, am_, V.inn, us, true_or, or_true]))
  ·refine .seq (.rgn [] (by simp only [go_sem, seval, ag_]; rfl) ?_ ?_)
   ·(first | trivial | (simp; done) | exact hJ.symm)
   refine .condB (by simp only [go_sem, seval, ag_]; rfl) (by simp only [go_sem, seval, ag_]) (fun h26 => ?_) (fun h26 => ?_)
   ·refine .rgn [a2_ (ot_ s.name s1), a2_ (u1_ s.type), a2_ (gs_ s.expr s2), a2_ (i9_ s.thn s3)] (by simp only [go_sem, seval, ag_]; rfl) ?_ ?_
    ·(first | trivial | (simp; done) | exact hJ.symm)
    refine Exists.intro (cw_ s) ⟨?_, ?_⟩
    ·rfl
    exact Can.weak (Weak.lit (by simp only [go_sem, seval, ag_, an_, leV, al_, am_, V.inn, us, true_or, or_true] <;> ((unfold cw_; simp_all))) (by simp only [go_sem, seval, ag_, an_, leV, al_, am_, V.inn, us, true_or, or_true]) (by simp only [go_sem, seval, ag_, an_, leV, al_, am_, V.inn, us, true_or, or_true]))
   ·refine .seq (.rgn [] (by simp only [go_sem, seval, ag_]; rfl) ?_ ?_)
    ·(first | trivial | (simp; done) | exact hJ.symm)
    refine .condB (by simp only [go_sem, seval, ag_]; rfl) (by simp only [go_sem, seval, ag_]) (fun h46 => ?_) (fun h46 => ?_)
    ·refine .rgn [a2_ (gs_ s.expr s2), a2_ (i9_ s.thn s3)] (by simp only [go_sem, seval, ag_]; rfl) ?_ ?_
     ·(first | trivial | (simp; done) | exact hJ.symm)
     refine Exists.intro (cw_ s) ⟨?_, ?_⟩
     ·rfl
     exact Can.weak (Weak.lit (by simp only [go_sem, seval, ag_, an_, leV, al_, am_, V.inn, us, true_or, or_true] <;> ((unfold cw_; simp_all))) (by simp only [go_sem, seval, ag_, an_, leV, al_, am_, V.inn, us, true_or, or_true]) (by simp only [go_sem, seval, ag_, an_, leV, al_, am_, V.inn, us, true_or, or_true]))
    ·refine .seq (.rgn [] (by simp only [go_sem, seval, ag_]; rfl) ?_ ?_)
     ·(first | trivial | (simp; done) | exact hJ.symm)
     refine .condB (by simp only [go_sem, seval, ag_]; rfl) (by simp only [go_sem, seval, ag_]) (fun h66 => ?_) (fun h66 => ?_)
     ·refine .rgn [a2_ (gs_ s.expr s2), a2_ (gs_ s.thn s3)] (by simp only [go_sem, seval, ag_]; rfl) ?_ ?_
      ·(first | trivial | (simp; done) | exact hJ.symm)
      refine Exists.intro (cw_ s) ⟨?_, ?_⟩
      ·rfl
      exact Can.weak (Weak.lit (by simp only [go_sem, seval, ag_, an_, leV, al_, am_, V.inn, us, true_or, or_true] <;> ((unfold cw_; simp_all))) (by simp only [go_sem, seval, ag_, an_, leV, al_, am_, V.inn, us, true_or, or_true]) (by simp only [go_sem, seval, ag_, an_, leV, al_, am_, V.inn, us, true_or, or_true]))
     ·refine .skip ?_
      refine Exists.intro (cw_ s) ⟨?_, ?_⟩
      ·rfl
      exact Can.weak (Weak.lit (by simp only [go_sem, seval, ag_, an_, leV, al_, am_, V.inn, us, true_or, or_true] <;> ((unfold cw_; simp_all))) (by simp only [go_sem, seval, ag_, an_, leV, al_, am_, V.inn, us, true_or, or_true]) (by simp only [go_sem, seval, ag_, an_, leV, al_, am_, V.inn, us, true_or, or_true]))
 cases q
 ·refine .seq (.rgn [c1_ (cw_ s = true) (fun h => rp_ s h hs)] (by simp only [go_sem, seval, ag_]; rfl) ?_ ?_)
  ·(first | trivial | (simp; done) | exact hJ.symm)
  refine .ret ⟨.inr rfl, ?_⟩
  exact Out.plain (by simp only [Tryz.results89]; rfl) (by simp only [aq_, a8_, go_sem, seval, ag_] <;> (split <;> rfl)) (by simp only [a7_, go_sem, seval, ag_] <;> (rw [sok, ← hJ]; first | rfl | (rw [Bool.true_and, lm_]; rfl))) (by simp only [go_sem, seval, ag_])
 ·refine .seq (.rgn [c1_ (cw_ s = true) (fun h => rp_ s h hs)] (by simp only [go_sem, seval, ag_]; rfl) ?_ ?_)
  ·(first | trivial | (simp; done) | exact hJ.symm)
  refine .ret ⟨.inr rfl, ?_⟩
  exact Out.plain (by simp only [Tryz.results89]; rfl) (by simp only [aq_, a8_, go_sem, seval, ag_] <;> (split <;> rfl)) (by simp only [a7_, go_sem, seval, ag_] <;> (rw [sok, ← hJ]; first | rfl | (rw [Bool.true_and, lm_]; rfl))) (by simp only [go_sem, seval, ag_])
theorem dz_ {s : Sl} (h : sok s = true) : cw_ s = true := by simp only [sok, Bool.and_eq_true] at h; exact h.1
def s1_ (s : Sl) : Str := if sok s then bv_ (sw' s) else []
theorem tf_ (s : Sl) (hs : gi_ s = true) : ACall En 178 [.ag (sC s)] [] [.s (s1_ s)] [] := by
 refine ah_ (fn := Tryz.f178) [] Tryz.func178 rfl rfl (by simp) fun C => ?_
 rw [ar_]
 simp only [Tryz.ntmps178, List.length_cons, List.length_nil, Nat.reduceAdd, Nat.reduceSub, List.replicate_succ, List.replicate_zero, List.cons_append, List.nil_append, bd_]
 refine .seq (.rgn [] (by simp only [go_sem, seval, ag_]; rfl) ?_ ?_)
 ·first | trivial | simp
 refine .seq (.seq (.rgn [a2_ (qt_ s hs)] (by simp only [go_sem, seval, ag_]; rfl) ?_ ?_))
 ·simp
 refine .condB (by simp only [go_sem, seval, ag_]; rfl) (by simp only [go_sem, seval, ag_]) (fun h5 => ?_) (fun h5 => ?_)
 ·refine .seq (.rgn [] (by simp only [go_sem, seval, ag_]; rfl) ?_ ?_)
  ·first | trivial | simp
  refine .ret ⟨.inr rfl, ?_⟩
  exact Out.plain (by simp only [Tryz.results178]; rfl) (by simp only [aq_, a8_, go_sem, seval, ag_] <;> (split <;> rfl)) (by simp only [a7_, go_sem, seval, ag_] <;> (simp at h5; simp [s1_, h5])) (by simp only [go_sem, seval, ag_])
 ·refine .skip (.seq (.rgn [c1_ (sok s = true) (fun h => rp_ s (dz_ h) hs)] (by simp only [go_sem, seval, ag_]; rfl) ?_ ?_))
  ·simpa using h5
  refine .ret ⟨.inr rfl, ?_⟩
  exact Out.plain (by simp only [Tryz.results178]; rfl) (by simp only [aq_, a8_, go_sem, seval, ag_] <;> (split <;> rfl)) (by simp only [a7_, go_sem, seval, ag_] <;> (simp at h5; simp [s1_, h5])) (by simp only [go_sem, seval, ag_])
theorem jj_ (s : Sl) (h : cw_ s = true) (hs : gi_ s = true) : ACall En 103 [.ag (sC s)] [] [.sl false (bm_ (sw' s))] [] := by
 obtain ⟨h0, h1, h2⟩ := fw_ h
 obtain ⟨s1, s1', s2, s3⟩ := gv_ hs
 have W : s.kind = 1 ∨ s.kind = 2 ∨ s.kind = 3 → _ := fun hk => ht_ 5 s.expr 1 (bk_ (h1 hk)) s2 (hj_ (h1 hk)) (by decide) (by decide)
 have W3 : s.kind = 3 → _ := fun hk => ht_ 5 s.thn 1 (bk_ (h2 hk)) s3 (hj_ (h2 hk)) (by decide) (by decide)
 refine ah_ (fn := Tryz.f103) [] Tryz.func103 rfl rfl (by simp) fun C => ?_
 rw [ar_]
 simp only [Tryz.ntmps103, List.length_cons, List.length_nil, Nat.reduceAdd, Nat.reduceSub, List.replicate_succ, List.replicate_zero, List.cons_append, List.nil_append, bd_]
 refine .seq (.rgn [] (by simp only [go_sem, seval, ab_, aa_, List.length_append, List.take_of_length_le, ag_]; rfl) ?_ ?_)
 ·(first | trivial | (simp; done) | (simp [a6_]; done))
 refine .seq (.seq (.rgn [] (by simp only [go_sem, seval, ab_, aa_, List.length_append, List.take_of_length_le, ag_]; rfl) ?_ ?_))
 ·(first | trivial | (simp; done) | (simp [a6_]; done))
 refine .block (.seq (.rgn [] (by simp only [go_sem, seval, ab_, aa_, List.length_append, List.take_of_length_le, ag_]; rfl) ?_ ?_))
 ·(first | trivial | (simp; done) | (simp [a6_]; done))
 refine .condB (by simp only [go_sem, seval, ab_, aa_, List.length_append, List.take_of_length_le, ag_]; rfl) (by simp only [go_sem, seval, ab_, aa_, List.length_append, List.take_of_length_le, ag_]) (fun h6 => ?_) (fun h6 => ?_)
 ·refine .seq (.rgnD [a2_ (W (.inl (by simpa using h6)))] enM (by simp only [go_sem, seval, ab_, aa_, List.length_append, List.take_of_length_le, ag_]; rfl) (by rfl) ?_ ?_)
  ·have q := h1 (.inl (by simpa using h6)); have q2 := (cn_ q 1); have q3 := vs_ q 1; simp [cc_, a6_, q3, jg_]; omega
  refine .frz 26 (by simp only [go_sem, seval, ab_, aa_, List.length_append, List.take_of_length_le, ag_]; rfl) (by simp only [go_sem, seval, ab_, aa_, List.length_append, List.take_of_length_le, ag_]) (by simp only [go_sem, seval, ab_, aa_, List.length_append, List.take_of_length_le, ag_]; rfl) (by simp only [go_sem, seval, ab_, aa_, List.length_append, List.take_of_length_le, ag_]; rfl) ?_
  refine .ret ⟨.inr rfl, ?_⟩
  exact Out.plain (by simp only [Tryz.results103]; rfl) (by simp only [aq_, a8_, go_sem, seval, ab_, aa_, List.length_append, List.take_of_length_le, ag_] <;> (split <;> rfl)) (by simp only [a7_, go_sem, seval, ab_, aa_, List.length_append, List.take_of_length_le, ag_] <;> (have k : s.kind = 1 := (by simpa using h6); rw [if_pos (by omega), List.take_of_length_le (by simp [ab_]; omega)]; simp [sw', k, bm_, peel, wEq, hn_, g7_])) (by simp only [go_sem, seval, ab_, aa_, List.length_append, List.take_of_length_le, ag_])
 ·refine .seq (.rgn [] (by simp only [go_sem, seval, ab_, aa_, List.length_append, List.take_of_length_le, ag_]; rfl) ?_ ?_)
  ·(first | trivial | (simp; done) | (simp [a6_]; done))
  refine .condB (by simp only [go_sem, seval, ab_, aa_, List.length_append, List.take_of_length_le, ag_]; rfl) (by simp only [go_sem, seval, ab_, aa_, List.length_append, List.take_of_length_le, ag_]) (fun h17 => ?_) (fun h17 => ?_)
  ·refine .seq (.rgn [a2_ (W (.inr (.inl (by simpa using h17))))] (by simp only [go_sem, seval, ab_, aa_, List.length_append, List.take_of_length_le, ag_]; rfl) ?_ ?_)
   ·have q := h1 (.inr (.inl (by simpa using h17))); have q2 := (cn_ q 1); have q3 := vs_ q 1; simp [cc_, a6_, q3, jg_]; omega
   refine .frz 33 (by simp only [go_sem, seval, ab_, aa_, List.length_append, List.take_of_length_le, ag_]; rfl) (by simp only [go_sem, seval, ab_, aa_, List.length_append, List.take_of_length_le, ag_]) (by simp only [go_sem, seval, ab_, aa_, List.length_append, List.take_of_length_le, ag_]; rfl) (by simp only [go_sem, seval, ab_, aa_, List.length_append, List.take_of_length_le, ag_]; rfl) ?_
   refine .ret ⟨.inr rfl, ?_⟩
   exact Out.plain (by simp only [Tryz.results103]; rfl) (by simp only [aq_, a8_, go_sem, seval, ab_, aa_, List.length_append, List.take_of_length_le, ag_] <;> (split <;> rfl)) (by simp only [a7_, go_sem, seval, ab_, aa_, List.length_append, List.take_of_length_le, ag_] <;> (have k : s.kind = 2 := (by simpa using h17); rw [if_pos (by omega), List.take_of_length_le (by simp [ab_]; omega)]; simp [sw', k, bm_, peel, bj_])) (by simp only [go_sem, seval, ab_, aa_, List.length_append, List.take_of_length_le, ag_])
  ·refine .seq (.rgn [] (by simp only [go_sem, seval, ab_, aa_, List.length_append, List.take_of_length_le, ag_]; rfl) ?_ ?_)
   ·(first | trivial | (simp; done) | (simp [a6_]; done))
   refine .condB (by simp only [go_sem, seval, ab_, aa_, List.length_append, List.take_of_length_le, ag_]; rfl) (by simp only [go_sem, seval, ab_, aa_, List.length_append, List.take_of_length_le, ag_]) (fun h24 => ?_) (fun h24 => ?_)
   ·refine .seq (.rgn [a2_ (W (.inr (.inr (by simpa using h24))))] (by simp only [go_sem, seval, ab_, aa_, List.length_append, List.take_of_length_le, ag_]; rfl) ?_ ?_)
    ·have q := h1 (.inr (.inr (by simpa using h24))); have q2 := (cn_ q 1); have q3 := vs_ q 1; simp [cc_, a6_, q3, jg_]; omega
    refine .seq (.rgnD [a2_ (W3 (by simpa using h24))] enM (by simp only [go_sem, seval, ab_, aa_, List.length_append, List.take_of_length_le, ag_]; rfl) (by rfl) ?_ ?_)
    ·have q := h1 (.inr (.inr (by simpa using h24))); have q2 := (cn_ q 1); have q4 := cn_ (h2 (by simpa using h24)) 1; simp [cc_, a6_]; omega
    refine .frz 47 (by simp only [go_sem, seval, ab_, aa_, List.length_append, List.take_of_length_le, ag_]; rfl) (by simp only [go_sem, seval, ab_, aa_, List.length_append, List.take_of_length_le, ag_]) (by simp only [go_sem, seval, ab_, aa_, List.length_append, List.take_of_length_le, ag_]; rfl) (by simp only [go_sem, seval, ab_, aa_, List.length_append, List.take_of_length_le, ag_]; rfl) ?_
    refine .ret ⟨.inr rfl, ?_⟩
    exact Out.plain (by simp only [Tryz.results103]; rfl) (by simp only [aq_, a8_, go_sem, seval, ab_, aa_, List.length_append, List.take_of_length_le, ag_] <;> (split <;> rfl)) (by simp only [a7_, go_sem, seval, ab_, aa_, List.length_append, List.take_of_length_le, ag_] <;> (have k : s.kind = 3 := (by simpa using h24); rw [if_pos (by omega), List.take_of_length_le (by simp [ab_]; omega)]; simp [sw', k, bm_, peel, bj_, dr_])) (by simp only [go_sem, seval, ab_, aa_, List.length_append, List.take_of_length_le, ag_])
   ·refine .skip (.seq (.rgn [] (by simp only [go_sem, seval, ab_, aa_, List.length_append, List.take_of_length_le, ag_]; rfl) ?_ ?_))
    ·(first | trivial | (simp; done) | (simp [a6_]; done))
    refine .can (Can.slotLe 2 (.sl false []) (by simp only [go_sem, seval, ab_, aa_, List.length_append, List.take_of_length_le, ag_] <;> trivial) (by simp only [go_sem, seval, ab_, aa_, List.length_append, List.take_of_length_le, ag_] <;> rfl)) ?_
    refine .ret ⟨.inr rfl, ?_⟩
    exact Out.plain (by simp only [Tryz.results103]; rfl) (by simp only [aq_, a8_, go_sem, seval, ab_, aa_, List.length_append, List.take_of_length_le, ag_] <;> (split <;> rfl)) (by simp only [a7_, go_sem, seval, ab_, aa_, List.length_append, List.take_of_length_le, ag_] <;> (have k : s.kind = 0 := (by simp_all); simp [sw', k, bm_])) (by simp only [go_sem, seval, ab_, aa_, List.length_append, List.take_of_length_le, ag_])
theorem qh_ (s : Sl) (hs : gi_ s = true) : ACall En 49 [.ag (sC s)] [] [.b (sok s)] [] := by
 obtain ⟨s1, s1', s2, s3⟩ := gv_ hs
 refine ah_ (fn := Tryz.f49) [] Tryz.func49 rfl rfl (by simp) fun C => ?_
 rw [ar_]
 simp only [Tryz.ntmps49, List.length_cons, List.length_nil, Nat.reduceAdd, Nat.reduceSub, List.replicate_succ, List.replicate_zero, List.cons_append, List.nil_append, bd_]
 refine .seq (.rgn [] (by simp only [go_sem, seval, ag_, aa_]; rfl) ?_ ?_)
 ·(first | trivial | (simp; done) | exact hJ.symm | exact ⟨hJ.symm, hJ.symm⟩)
 refine .seq (.rgn [] (by simp only [go_sem, seval, ag_, aa_]; rfl) ?_ ?_)
 ·(first | trivial | (simp; done) | exact hJ.symm | exact ⟨hJ.symm, hJ.symm⟩)
 refine .seqJ (fun q : Bool => ⟨[.no, .pt 11 11 0 0, .no, .b q, .no, .no, .no, .no, .no, .no, .no, .no, .no, .no, .no, .no, .no, .no, .no, .no, .no, .no, .no, .no, .no, .no, .no, .no, .no, .no, .no, .no, .no, .no, .no, .no, .no, .no, .no, .no, .no, .no, .no, .no, .no, .no, .no, .no, .no, .no, .no, .no, .no, .no, .no, .no, .no, .no, .no, .no, .no, .no, .no, .no, .no, .no, .no, .no, .no, .no, .no, .no, .no, .no, .no, .no, .no, .no, .no, .no, .no, .no, .no, .no, .no, .no, .no, .no, .no, .no, .no, .no, .no, .no], aw_ [(11, ⟨72, 11, [sC s]⟩)], us [11]⟩) (fun q : Bool => q = cw_ s) ?_ (fun q hJ => ?_)
 ·refine .seq (.rgn [] (by simp only [go_sem, seval, ag_, aa_]; rfl) ?_ ?_)
  ·(first | trivial | (simp; done) | exact hJ.symm | exact ⟨hJ.symm, hJ.symm⟩)
  refine .block (.seq (.rgn [] (by simp only [go_sem, seval, ag_, aa_]; rfl) ?_ ?_))
  ·(first | trivial | (simp; done) | exact hJ.symm | exact ⟨hJ.symm, hJ.symm⟩)
  refine .condB (by simp only [go_sem, seval, ag_, aa_]; rfl) (by simp only [go_sem, seval, ag_, aa_]) (fun h6 => ?_) (fun h6 => ?_)
  ·refine .rgn [a2_ (li_ s.expr s2), a2_ (li_ s.thn s3)] (by simp only [go_sem, seval, ag_, aa_]; rfl) ?_ ?_
   ·(first | trivial | (simp; done) | exact hJ.symm | exact ⟨hJ.symm, hJ.symm⟩)
   refine Exists.intro (cw_ s) ⟨?_, ?_⟩
   ·rfl
   exact Can.weak (Weak.lit (by simp only [go_sem, seval, ag_, aa_, an_, leV, al_, am_, V.inn, us, true_or, or_true] <;> ((unfold cw_; simp_all))) (by simp only [go_sem, seval, ag_, aa_, an_, leV, al_, am_, V.inn, us, true_or, or_true]) (by simp only [go_sem, seval, ag_, aa_, an_, leV, al_, am_, V.inn, us, true_or, or_true]))
  ·refine .seq (.rgn [] (by simp only [go_sem, seval, ag_, aa_]; rfl) ?_ ?_)
   ·(first | trivial | (simp; done) | exact hJ.symm | exact ⟨hJ.symm, hJ.symm⟩)
   refine .condB (by simp only [go_sem, seval, ag_, aa_]; rfl) (by simp only [go_sem, seval, ag_, aa_]) (fun h26 => ?_) (fun h26 => ?_)
   ·refine .rgn [a2_ (pb_ s.name s1), a2_ (ko_ s.type), a2_ (hz_ s.expr s2), a2_ (li_ s.thn s3)] (by simp only [go_sem, seval, ag_, aa_]; rfl) ?_ ?_
    ·(first | trivial | (simp; done) | exact hJ.symm | exact ⟨hJ.symm, hJ.symm⟩)
    refine Exists.intro (cw_ s) ⟨?_, ?_⟩
    ·rfl
    exact Can.weak (Weak.lit (by simp only [go_sem, seval, ag_, aa_, an_, leV, al_, am_, V.inn, us, true_or, or_true] <;> ((unfold cw_; simp_all))) (by simp only [go_sem, seval, ag_, aa_, an_, leV, al_, am_, V.inn, us, true_or, or_true]) (by simp only [go_sem, seval, ag_, aa_, an_, leV, al_, am_, V.inn, us, true_or, or_true]))
   ·refine .seq (.rgn [] (by simp only [go_sem, seval, ag_, aa_]; rfl) ?_ ?_)
    ·(first | trivial | (simp; done) | exact hJ.symm | exact ⟨hJ.symm, hJ.symm⟩)
    refine .condB (by simp only [go_sem, seval, ag_, aa_]; rfl) (by simp only [go_sem, seval, ag_, aa_]) (fun h46 => ?_) (fun h46 => ?_)
    ·refine .rgn [a2_ (hz_ s.expr s2), a2_ (li_ s.thn s3)] (by simp only [go_sem, seval, ag_, aa_]; rfl) ?_ ?_
     ·(first | trivial | (simp; done) | exact hJ.symm | exact ⟨hJ.symm, hJ.symm⟩)
     refine Exists.intro (cw_ s) ⟨?_, ?_⟩
     ·rfl
     exact Can.weak (Weak.lit (by simp only [go_sem, seval, ag_, aa_, an_, leV, al_, am_, V.inn, us, true_or, or_true] <;> ((unfold cw_; simp_all))) (by simp only [go_sem, seval, ag_, aa_, an_, leV, al_, am_, V.inn, us, true_or, or_true]) (by simp only [go_sem, seval, ag_, aa_, an_, leV, al_, am_, V.inn, us, true_or, or_true]))
    ·refine .seq (.rgn [] (by simp only [go_sem, seval, ag_, aa_]; rfl) ?_ ?_)
     ·(first | trivial | (simp; done) | exact hJ.symm | exact ⟨hJ.symm, hJ.symm⟩)
     refine .condB (by simp only [go_sem, seval, ag_, aa_]; rfl) (by simp only [go_sem, seval, ag_, aa_]) (fun h66 => ?_) (fun h66 => ?_)
     ·refine .rgn [a2_ (hz_ s.expr s2), a2_ (hz_ s.thn s3)] (by simp only [go_sem, seval, ag_, aa_]; rfl) ?_ ?_
      ·(first | trivial | (simp; done) | exact hJ.symm | exact ⟨hJ.symm, hJ.symm⟩)
      refine Exists.intro (cw_ s) ⟨?_, ?_⟩
      ·rfl
      exact Can.weak (Weak.lit (by simp only [go_sem, seval, ag_, aa_, an_, leV, al_, am_, V.inn, us, true_or, or_true] <;> ((unfold cw_; simp_all))) (by simp only [go_sem, seval, ag_, aa_, an_, leV, al_, am_, V.inn, us, true_or, or_true]) (by simp only [go_sem, seval, ag_, aa_, an_, leV, al_, am_, V.inn, us, true_or, or_true]))
     ·refine .skip ?_
      refine Exists.intro (cw_ s) ⟨?_, ?_⟩
      ·rfl
      exact Can.weak (Weak.lit (by simp only [go_sem, seval, ag_, aa_, an_, leV, al_, am_, V.inn, us, true_or, or_true] <;> ((unfold cw_; simp_all))) (by simp only [go_sem, seval, ag_, aa_, an_, leV, al_, am_, V.inn, us, true_or, or_true]) (by simp only [go_sem, seval, ag_, aa_, an_, leV, al_, am_, V.inn, us, true_or, or_true]))
 cases q
 ·refine .seq (.rgn [c1_ (cw_ s = true) (fun h => jj_ s h hs), c1_ (cw_ s = true) (fun h => ig_ (sw' s) (by have := (mk_ h).1; omega) (by have := m3_ h; omega))] (by simp only [go_sem, seval, ag_, aa_]; rfl) ?_ ?_)
  ·(first | trivial | (simp; done) | exact hJ.symm | exact ⟨hJ.symm, hJ.symm⟩)
  refine .ret ⟨.inr rfl, ?_⟩
  exact Out.plain (by simp only [Tryz.results49]; rfl) (by simp only [aq_, a8_, go_sem, seval, ag_, aa_] <;> (split <;> rfl)) (by simp only [a7_, go_sem, seval, ag_, aa_] <;> (rw [sok, ← hJ]; first | rfl | (rw [Bool.true_and, lm_]; rfl))) (by simp only [go_sem, seval, ag_, aa_])
 ·refine .seq (.rgn [c1_ (cw_ s = true) (fun h => jj_ s h hs), c1_ (cw_ s = true) (fun h => ig_ (sw' s) (by have := (mk_ h).1; omega) (by have := m3_ h; omega))] (by simp only [go_sem, seval, ag_, aa_]; rfl) ?_ ?_)
  ·(first | trivial | (simp; done) | exact hJ.symm | exact ⟨hJ.symm, hJ.symm⟩)
  refine .ret ⟨.inr rfl, ?_⟩
  exact Out.plain (by simp only [Tryz.results49]; rfl) (by simp only [aq_, a8_, go_sem, seval, ag_, aa_] <;> (split <;> rfl)) (by simp only [a7_, go_sem, seval, ag_, aa_] <;> (rw [sok, ← hJ]; first | rfl | (rw [Bool.true_and, lm_]; rfl))) (by simp only [go_sem, seval, ag_, aa_])
end
section
set_option maxRecDepth 100000
set_option maxHeartbeats 4000000
theorem xv_ {s : Sl} (h : cw_ s = true) : wf s.expr = true ∧ wf s.thn = true := by
 unfold cw_ at h
 by_cases k0 : s.kind = 0
 ·simp [k0, dm_] at h; rw [h.1.2, h.2]; exact ⟨w3_, w3_⟩
 by_cases k1 : s.kind = 1
 ·simp [k1, dm_] at h; rw [h.2]; exact ⟨lw_ h.1.2, w3_⟩
 by_cases k2 : s.kind = 2
 ·simp [k2, dm_] at h; rw [h.2]; exact ⟨lw_ h.1.2, w3_⟩
 by_cases k3 : s.kind = 3
 ·simp [k3] at h; exact ⟨lw_ h.1.2, lw_ h.2⟩
 ·simp [k0, k1, k2, k3] at h
theorem ach_ (s : Sl) (hs : gi_ s = true) (w1 : wf s.expr = true) (w2 : wf s.thn = true) : ACall En 92 [.ag (sC s)] [] [.ag (bC (bof s))] [] := by
 obtain ⟨s1, s2, s3, s4⟩ := gv_ hs
 refine ah_ (fn := Tryz.f92) [] Tryz.func92 rfl rfl (by simp) fun C => ?_
 rw [ar_]
 simp only [Tryz.ntmps92, List.length_cons, List.length_nil, Nat.reduceAdd, Nat.reduceSub, List.replicate_succ, List.replicate_zero, List.cons_append, List.nil_append, bd_]
 refine .seq (.rgn [] (by simp only [go_sem, seval, ag_, bf_]; rfl) ?_ ?_)
 ·first | trivial | simp
 refine .seq (.rgn [] (by simp only [go_sem, seval, ag_, bf_]; rfl) ?_ ?_)
 ·first | trivial | simp
 refine .seq (.seq (.rgn [] (by simp only [go_sem, seval, ag_, bf_]; rfl) ?_ ?_))
 ·first | trivial | simp
 refine .condB (by simp only [go_sem, seval, ag_, bf_]; rfl) (by simp only [go_sem, seval, ag_, bf_]) (fun h11 => ?_) (fun h11 => ?_)
 ·refine .rgn [a2_ (sb_ s.expr w1 s3)] (by simp only [go_sem, seval, ag_, bf_]; rfl) ?_ ?_
  ·first | trivial | simp
  refine .seq (.seq (.rgn [] (by simp only [go_sem, seval, ag_, bf_]; rfl) ?_ ?_))
  ·first | trivial | simp
  refine .condB (by simp only [go_sem, seval, ag_, bf_]; rfl) (by simp only [go_sem, seval, ag_, bf_]) (fun h18 => ?_) (fun h18 => ?_)
  ·refine .rgn [a2_ (sb_ s.thn w2 s4)] (by simp only [go_sem, seval, ag_, bf_]; rfl) ?_ ?_
   ·first | trivial | simp
   refine .seq (.rgn [] (by simp only [go_sem, seval, ag_, bf_]; rfl) ?_ ?_)
   ·first | trivial | simp
   refine .ret ⟨.inr rfl, ?_⟩
   exact Out.plainL (by simp only [Tryz.results92]; rfl) (by simp only [aq_, a8_, go_sem, seval, ag_, bf_] <;> (split <;> rfl)) (by simp only [a7_, go_sem, seval, ag_, bf_] <;> (simp at h11 h18; simp [bof, h11, h18, bf_, j9_, jy_, ka_, d9_, e8_, ler, ba_])) (by simp only [go_sem, seval, ag_, bf_])
  ·refine .skip (.seq (.rgn [] (by simp only [go_sem, seval, ag_, bf_]; rfl) ?_ ?_))
   ·first | trivial | simp
   refine .ret ⟨.inr rfl, ?_⟩
   exact Out.plainL (by simp only [Tryz.results92]; rfl) (by simp only [aq_, a8_, go_sem, seval, ag_, bf_] <;> (split <;> rfl)) (by simp only [a7_, go_sem, seval, ag_, bf_] <;> (simp at h11 h18; simp [bof, h11, h18, bf_, j9_, jy_, ka_, d9_, e8_, ler, ba_])) (by simp only [go_sem, seval, ag_, bf_])
 ·refine .skip (.seq (.seq (.rgn [] (by simp only [go_sem, seval, ag_, bf_]; rfl) ?_ ?_)))
  ·first | trivial | simp
  refine .condB (by simp only [go_sem, seval, ag_, bf_]; rfl) (by simp only [go_sem, seval, ag_, bf_]) (fun h18 => ?_) (fun h18 => ?_)
  ·refine .rgn [a2_ (sb_ s.thn w2 s4)] (by simp only [go_sem, seval, ag_, bf_]; rfl) ?_ ?_
   ·first | trivial | simp
   refine .seq (.rgn [] (by simp only [go_sem, seval, ag_, bf_]; rfl) ?_ ?_)
   ·first | trivial | simp
   refine .ret ⟨.inr rfl, ?_⟩
   exact Out.plainL (by simp only [Tryz.results92]; rfl) (by simp only [aq_, a8_, go_sem, seval, ag_, bf_] <;> (split <;> rfl)) (by simp only [a7_, go_sem, seval, ag_, bf_] <;> (simp at h11 h18; omega)) (by simp only [go_sem, seval, ag_, bf_])
  ·refine .skip (.seq (.rgn [] (by simp only [go_sem, seval, ag_, bf_]; rfl) ?_ ?_))
   ·first | trivial | simp
   refine .ret ⟨.inr rfl, ?_⟩
   exact Out.plainL (by simp only [Tryz.results92]; rfl) (by simp only [aq_, a8_, go_sem, seval, ag_, bf_] <;> (split <;> rfl)) (by simp only [a7_, go_sem, seval, ag_, bf_] <;> (simp at h11 h18; simp [bof, h11, h18, bf_, j9_, jy_, ka_, d9_, e8_, ler, ba_])) (by simp only [go_sem, seval, ag_, bf_])
end
section
set_option maxRecDepth 100000
set_option maxHeartbeats 4000000
end
section
set_option maxRecDepth 100000
set_option maxHeartbeats 4000000
def z4 : List V := [.i .i64 0, .i .i64 0, .s [], .sl true []]
end
section
set_option maxRecDepth 100000
set_option maxHeartbeats 4000000
end
section
open Go.ChangeShapes Go.WideShapes Go.ChangeAt Go.RowKit
set_option maxRecDepth 100000
section
variable {H : Type} {enc : TypeId × Value → H} {P : Program} {W : World}
def Opn (enc : TypeId × Value → H) (P : Program) (W : World) (fuel : Nat) (t : TypeId) (Q : List V → Prop) : Prop :=
 ∀ cs x, DataW.trod enc P W 0 (fun _ => true) true fuel t cs = some x → ∃ vs, Q vs ∧ VRs (fun _ => none) (fun _ => True) W vs cs ∧ vs.all V.one = true
theorem ae6_ {t : TypeId} {fuel : Nat} (ht : P.underlying t = some .string) : Opn enc P W fuel t fun vs => ∃ s : Str, vs = [.s s] ∧ s.length ≤ maxLen := fun cs x h => by
 obtain ⟨s, rfl, _, hw⟩ := DataW.trod_string ht h
 refine ⟨_, ⟨s.data.toList, rfl, by rw [Array.length_toList]; exact hw⟩, .cons (by simp only [VR]) .nil, rfl⟩
end
section
variable {H : Type} {enc : TypeId × Value → H} {W : World}
theorem ael_ {r : Reach} {base : Nat} {v0 : Value} {d0 : DataW H} {p : List MemPlace} (hv : Value.okWide Tryz.prog W r base 9 v0) (h0 : DataW.Trod enc Tryz.prog W 0 (fun _ => true) true 9 v0 d0 p) :
  ∃ b : Str, b.length ≤ 9223372036854775807 ∧ VR (fun _ => none) (fun _ => True) W (.s b) v0 := by
 obtain ⟨fuel, h⟩ := h0
 obtain ⟨_, ⟨s, rfl, hs⟩, hr, _⟩ := ae6_ (enc := enc) (P := Tryz.prog) (W := W) Tryz.underlying9 _ _ h
 have hm : maxLen = 9223372036854775807 := by decide
 obtain ⟨x, rfl⟩ := okWide_string Tryz.underlying9 hv
 refine ⟨s, by omega, ?_⟩
 simpa [Value.cells, VRs] using hr
end
end
end Go.Proofs.YtefmbmafdgedmaaGreatDoor
