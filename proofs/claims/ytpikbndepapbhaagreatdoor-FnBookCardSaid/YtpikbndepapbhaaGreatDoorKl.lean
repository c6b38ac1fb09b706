/- Lines with types: words, text, ok: the program's and the reference's; without types. Conditions: none. -/
import Derived.Test.YtpikbndepapbhaaGreatDoorKj
set_option linter.unusedVariables false
set_option linter.unusedSimpArgs false
namespace Go.Proofs.YtpikbndepapbhaaGreatDoor
section
set_option maxRecDepth 100000
set_option maxHeartbeats 4000000
def du_ (s : Sl) : Wd :=
 if s.kind = 1 then (hz_, 100) :: (s.name, 101) :: (hk_, -1) :: (s.type, -1) :: (wEq, 102) :: src s.expr 0 0
 else if s.kind = 2 then (bv_, 103) :: src s.expr 0 0
 else if s.kind = 3 then ((ds_, 100) :: src s.expr 0 0 ++ [(bv_, 103)]) ++ src s.thn 0 (cnt s.expr)
 else []
theorem gb_ {s : Sl} (h : cz_ s = true) : (s.kind = 0 ∨ s.kind = 1 ∨ s.kind = 2 ∨ s.kind = 3) ∧ (s.kind = 1 ∨ s.kind = 2 ∨ s.kind = 3 → eok s.expr = true) ∧ (s.kind = 3 → eok s.thn = true) := by
 unfold cz_ at h
 by_cases k0 : s.kind = 0
 ·simp [k0]
 by_cases k1 : s.kind = 1
 ·simp [k1] at h; simp [k1]; exact h.1.2
 by_cases k2 : s.kind = 2
 ·simp [k2] at h; simp [k2]; exact h.1.2
 by_cases k3 : s.kind = 3
 ·simp [k3] at h; simp [k3]; exact ⟨h.1.2, h.2⟩
 ·simp [k0, k1, k2, k3] at h
theorem nx_ {s : Sl} (h : cz_ s = true) : (du_ s).map (·.1) = sw' s := by
 obtain ⟨h0, h1, h2⟩ := gb_ h
 unfold du_ sw'
 rcases h0 with k | k | k | k
 ·simp [k]
 ·simp [k, em_, e2_ (bx_ (h1 (.inl k)))]
 ·simp [k, em_, e2_ (bx_ (h1 (.inr (.inl k))))]
 ·simp [k, em_, e2_ (bx_ (h1 (.inr (.inr k)))), e2_ (bx_ (h2 k))]
theorem vt_ (s : Sl) (h : cz_ s = true) (hs : ez_ s = true) : ACall En 87 [.ag (sC s)] [] [.sl false (wdR (du_ s))] [] := by
 obtain ⟨h0, h1, h2⟩ := gb_ h
 obtain ⟨s1, s1', s2, s3⟩ := gk_ hs
 have W : s.kind = 1 ∨ s.kind = 2 ∨ s.kind = 3 → _ := fun hk => lk_ 5 s.expr 0 0 (bx_ (h1 hk)) s2 (h0_ (h1 hk)) (by decide) (by have := kl_ (h1 hk); omega) (by decide)
 have W3 : s.kind = 3 → _ := fun hk => lk_ 5 s.thn 0 (0 + cnt s.expr) (bx_ (h2 hk)) s3 (h0_ (h2 hk)) (by have := kl_ (h1 (.inr (.inr hk))); omega) (by have := kl_ (h1 (.inr (.inr hk))); have := kl_ (h2 hk); omega) (by decide)
 refine al_ (fn := Tryz.f87) [] Tryz.func87 rfl rfl (by simp) fun C => ?_
 rw [av_]
 simp only [Tryz.ntmps87, T7_, List.length_nil, Nat.reduceAdd, Nat.reduceSub, List.replicate_succ, List.replicate_zero, List.cons_append, List.nil_append, bt_]
 refine .seq (.rgn [] (by simp only [go_sem, seval, ah_, ae_, T2_, T1_, aj_]; rfl) ?_ ?_)
 ·(first | trivial | (simp; done) | (simp [ce_, List.forall_mem_append, bf_]; done))
 refine .seq (.rgn [] (by simp only [go_sem, seval, ah_, ae_, T2_, T1_, aj_]; rfl) ?_ ?_)
 ·(first | trivial | (simp; done) | (simp [ce_, List.forall_mem_append, bf_]; done))
 refine .seq (.seq (.rgn [] (by simp only [go_sem, seval, ah_, ae_, T2_, T1_, aj_]; rfl) ?_ ?_))
 ·(first | trivial | (simp; done) | (simp [ce_, List.forall_mem_append, bf_]; done))
 refine .block (.seq (.rgn [] (by simp only [go_sem, seval, ah_, ae_, T2_, T1_, aj_]; rfl) ?_ ?_))
 ·(first | trivial | (simp; done) | (simp [ce_, List.forall_mem_append, bf_]; done))
 refine .condB (by simp only [go_sem, seval, ah_, ae_, T2_, T1_, aj_]; rfl) (by simp only [go_sem, seval, ah_, ae_, T2_, T1_, aj_]) (fun h7 => ?_) (fun h7 => ?_)
 ·refine .seq (.rgnD [bw_ [13] [31] (W (.inl (by simpa using h7)))] enM (by simp only [go_sem, seval, ah_, ae_, T2_, T1_, aj_, ag_, ak_]; rfl) (by rfl) ?_ ?_)
  ·have q := h1 (.inl (by simpa using h7)); have q2 := (gl_ q 0 0); have q3 : src s.expr 0 0 ≠ [] := (fun e => by have := (cq_ q 0).1; rw [← i1_ s.expr 0 0, e] at this; simp at this); simp [ce_, bf_, q3, fa_]; omega
  refine .frz 32 (by simp only [go_sem, seval, ah_, ae_, T2_, T1_, aj_]; rfl) (by simp only [go_sem, seval, ah_, ae_, T2_, T1_, aj_]) (by simp only [go_sem, seval, ah_, ae_, T2_, T1_, aj_]; rfl) (by simp only [go_sem, seval, ah_, ae_, T2_, T1_, aj_]; rfl) ?_
  refine .ret ⟨.inr rfl, ?_⟩
  exact Out.plain (by simp only [Tryz.results87]; rfl) (by simp only [ax_, a6_, go_sem, seval, ah_, ae_, T2_, T1_, aj_] <;> (split <;> rfl)) (by simp only [a4_, go_sem, seval, ah_, ae_, T2_, T1_, aj_] <;> (have k : s.kind = 1 := (by simpa using h7); rw [if_pos (by omega), T1_ (by simp [ah_]; omega)]; simp [du_, k, wdR, peel, wEq, hz_, hk_])) (by simp only [go_sem, seval, ah_, ae_, T2_, T1_, aj_])
 ·refine .seq (.rgn [] (by simp only [go_sem, seval, ah_, ae_, T2_, T1_, aj_]; rfl) ?_ ?_)
  ·(first | trivial | (simp; done) | (simp [ce_, List.forall_mem_append, bf_]; done))
  refine .condB (by simp only [go_sem, seval, ah_, ae_, T2_, T1_, aj_]; rfl) (by simp only [go_sem, seval, ah_, ae_, T2_, T1_, aj_]) (fun h23 => ?_) (fun h23 => ?_)
  ·refine .seq (.rgn [bw_ [13] [39] (W (.inr (.inl (by simpa using h23))))] (by simp only [go_sem, seval, ah_, ae_, T2_, T1_, aj_, ag_, ak_]; rfl) ?_ ?_)
   ·have q := h1 (.inr (.inl (by simpa using h23))); have q2 := (gl_ q 0 0); have q3 : src s.expr 0 0 ≠ [] := (fun e => by have := (cq_ q 0).1; rw [← i1_ s.expr 0 0, e] at this; simp at this); simp [ce_, bf_, q3, fa_]; omega
   refine .frz 40 (by simp only [go_sem, seval, ah_, ae_, T2_, T1_, aj_]; rfl) (by simp only [go_sem, seval, ah_, ae_, T2_, T1_, aj_]) (by simp only [go_sem, seval, ah_, ae_, T2_, T1_, aj_]; rfl) (by simp only [go_sem, seval, ah_, ae_, T2_, T1_, aj_]; rfl) ?_
   refine .ret ⟨.inr rfl, ?_⟩
   exact Out.plain (by simp only [Tryz.results87]; rfl) (by simp only [ax_, a6_, go_sem, seval, ah_, ae_, T2_, T1_, aj_] <;> (split <;> rfl)) (by simp only [a4_, go_sem, seval, ah_, ae_, T2_, T1_, aj_] <;> (have k : s.kind = 2 := (by simpa using h23); rw [if_pos (by omega), T1_ (by simp [ah_]; omega)]; simp [du_, k, wdR, peel, bv_])) (by simp only [go_sem, seval, ah_, ae_, T2_, T1_, aj_])
  ·refine .seq (.rgn [] (by simp only [go_sem, seval, ah_, ae_, T2_, T1_, aj_]; rfl) ?_ ?_)
   ·(first | trivial | (simp; done) | (simp [ce_, List.forall_mem_append, bf_]; done))
   refine .condB (by simp only [go_sem, seval, ah_, ae_, T2_, T1_, aj_]; rfl) (by simp only [go_sem, seval, ah_, ae_, T2_, T1_, aj_]) (fun h31 => ?_) (fun h31 => ?_)
   ·refine .seq (.rgn [bw_ [13] [47] (W (.inr (.inr (by simpa using h31))))] (by simp only [go_sem, seval, ah_, ae_, T2_, T1_, aj_, ag_, ak_]; rfl) ?_ ?_)
    ·have q := h1 (.inr (.inr (by simpa using h31))); have q2 := (gl_ q 0 0); have q3 : src s.expr 0 0 ≠ [] := (fun e => by have := (cq_ q 0).1; rw [← i1_ s.expr 0 0, e] at this; simp at this); simp [ce_, bf_, q3, fa_]; omega
    refine .seq (.rgn [] (by simp only [go_sem, seval, ah_, ae_, T2_, T1_, aj_]; rfl) ?_ ?_)
    ·have q := h1 (.inr (.inr (by simpa using h31))); have q2 := (gl_ q 0 0); simp [ce_, bf_]; omega
    refine .seq (.rgn [bw_ [13] [56] (W3 (by simpa using h31))] (by simp only [go_sem, seval, ah_, ae_, T2_, T1_, aj_, ag_, ak_]; rfl) ?_ ?_)
    ·have q := h1 (.inr (.inr (by simpa using h31))); have q2 := (gl_ q 0 0); have q4 := gl_ (h2 (by simpa using h31)) 0 (0 + cnt s.expr); simp at q4; simp [ce_, bf_]; omega
    refine .frz 57 (by simp only [go_sem, seval, ah_, ae_, T2_, T1_, aj_]; rfl) (by simp only [go_sem, seval, ah_, ae_, T2_, T1_, aj_]) (by simp only [go_sem, seval, ah_, ae_, T2_, T1_, aj_]; rfl) (by simp only [go_sem, seval, ah_, ae_, T2_, T1_, aj_]; rfl) ?_
    refine .ret ⟨.inr rfl, ?_⟩
    exact Out.plain (by simp only [Tryz.results87]; rfl) (by simp only [ax_, a6_, go_sem, seval, ah_, ae_, T2_, T1_, aj_] <;> (split <;> rfl)) (by simp only [a4_, go_sem, seval, ah_, ae_, T2_, T1_, aj_] <;> (have k : s.kind = 3 := (by simpa using h31); rw [if_pos (by omega), T1_ (by simp [ah_]; omega)]; simp [du_, k, wdR, peel, bv_, ds_])) (by simp only [go_sem, seval, ah_, ae_, T2_, T1_, aj_])
   ·refine .skip (.seq (.rgn [] (by simp only [go_sem, seval, ah_, ae_, T2_, T1_, aj_]; rfl) ?_ ?_))
    ·(first | trivial | (simp; done) | (simp [ce_, List.forall_mem_append, bf_]; done))
    refine .can (Can.slotLe 2 (.sl false []) (by simp only [go_sem, seval, ah_, ae_, T2_, T1_, aj_] <;> trivial) (by simp only [go_sem, seval, ah_, ae_, T2_, T1_, aj_] <;> rfl)) ?_
    refine .ret ⟨.inr rfl, ?_⟩
    exact Out.plain (by simp only [Tryz.results87]; rfl) (by simp only [ax_, a6_, go_sem, seval, ah_, ae_, T2_, T1_, aj_] <;> (split <;> rfl)) (by simp only [a4_, go_sem, seval, ah_, ae_, T2_, T1_, aj_] <;> (have k : s.kind = 0 := (by simp_all); simp [du_, k, wdR])) (by simp only [go_sem, seval, ah_, ae_, T2_, T1_, aj_])
theorem lh_ {s : Sl} (h : cz_ s = true) : (b1_ (sw' s)).length ≤ 1000 := by
 have := l8_ h
 have h2 := qg_ (fun s hs => (this.2 s hs).2)
 omega
theorem s6_ (s : Sl) (h : cz_ s = true) (hs : ez_ s = true) : ACall En 118 [.ag (sC s)] [] [.s (b1_ (sw' s))] [] := by
 have h1 := lh_ h
 have h2 := (l8_ h).1
 have h3 := nx_ h
 have h4 : (du_ s).length = (sw' s).length := by rw [← h3, List.length_map]
 refine al_ (fn := Tryz.f118) [] Tryz.func118 rfl rfl (by simp) fun C => ?_
 rw [av_]
 simp only [Tryz.ntmps118, T7_, List.length_nil, Nat.reduceAdd, Nat.reduceSub, List.replicate_succ, List.replicate_zero, List.cons_append, List.nil_append, bt_]
 refine .seq (.rgn [] (by simp only [go_sem, seval, aj_, ae_, h3]; rfl) ?_ ?_)
 ·simp
 refine .seq (.rgn [a3_ (vt_ s h hs), a3_ (jp_ (du_ s) (by omega)), a3_ (lr_ (sw' s) (by omega) (by omega))] (by simp only [go_sem, seval, aj_, ae_, h3]; rfl) ?_ ?_)
 ·simp
 refine .ret ⟨.inr rfl, ?_⟩
 exact Out.plain (by simp only [Tryz.results118]; rfl) (by simp only [ax_, a6_, go_sem, seval, aj_, ae_, h3] <;> (split <;> rfl)) (by simp only [a4_, go_sem, seval, aj_, ae_, h3] <;> (rfl)) (by simp only [go_sem, seval, aj_, ae_, h3])
theorem r5_ (s : Sl) (hs : ez_ s = true) : ACall En 80 [.ag (sC s)] [] [.b (sok s)] [] := by
 obtain ⟨s1, s1', s2, s3⟩ := gk_ hs
 refine al_ (fn := Tryz.f80) [] Tryz.func80 rfl rfl (by simp) fun C => ?_
 rw [av_]
 simp only [Tryz.ntmps80, T7_, List.length_nil, Nat.reduceAdd, Nat.reduceSub, List.replicate_succ, List.replicate_zero, List.cons_append, List.nil_append, bt_]
 refine .seq (.rgn [] (by simp only [go_sem, seval, aj_]; rfl) ?_ ?_)
 ·(first | trivial | (simp; done) | exact hJ.symm)
 refine .seq (.rgn [] (by simp only [go_sem, seval, aj_]; rfl) ?_ ?_)
 ·(first | trivial | (simp; done) | exact hJ.symm)
 refine .seqJ (fun q : Bool => ⟨[.no, .pt 11 11 0 0, .no, .b q, .no, .no, .no, .no, .no, .no, .no, .no, .no, .no, .no, .no, .no, .no, .no, .no, .no, .no, .no, .no, .no, .no, .no, .no, .no, .no, .no, .no, .no, .no, .no, .no, .no, .no, .no, .no, .no, .no, .no, .no, .no, .no, .no, .no, .no, .no, .no, .no, .no, .no, .no, .no, .no, .no, .no, .no, .no, .no, .no, .no, .no, .no, .no, .no, .no, .no, .no, .no, .no, .no, .no, .no, .no, .no, .no, .no, .no, .no, .no, .no, .no, .no, .no, .no, .no, .no, .no, .no, .no], be_ [(11, ⟨66, 11, [sC s]⟩)], us [11]⟩) (fun q : Bool => q = cz_ s) ?_ (fun q hJ => ?_)
 ·refine .seq (.rgn [] (by simp only [go_sem, seval, aj_]; rfl) ?_ ?_)
  ·(first | trivial | (simp; done) | exact hJ.symm)
  refine .block (.seq (.rgn [] (by simp only [go_sem, seval, aj_]; rfl) ?_ ?_))
  ·(first | trivial | (simp; done) | exact hJ.symm)
  refine .condB (by simp only [go_sem, seval, aj_]; rfl) (by simp only [go_sem, seval, aj_]) (fun h6 => ?_) (fun h6 => ?_)
  ·refine .rgn [a3_ (ke_ s.expr s2), a3_ (ke_ s.thn s3)] (by simp only [go_sem, seval, aj_]; rfl) ?_ ?_
   ·(first | trivial | (simp; done) | exact hJ.symm)
   refine Exists.intro (cz_ s) ⟨?_, ?_⟩
   ·rfl
   exact Can.weak (Weak.lit (by simp only [go_sem, seval, aj_, as_, leV, aq_, ar_, V.inn, us, T9_, Ta_] <;> ((unfold cz_; simp_all))) (by simp only [go_sem, seval, aj_, as_, leV, aq_, ar_, V.inn, us, T9_, Ta_]) (by simp only [go_sem, seval, aj_, as_, leV, aq_, ar_, V.inn, us, T9_, Ta_]))
  ·refine .seq (.rgn [] (by simp only [go_sem, seval, aj_]; rfl) ?_ ?_)
   ·(first | trivial | (simp; done) | exact hJ.symm)
   refine .condB (by simp only [go_sem, seval, aj_]; rfl) (by simp only [go_sem, seval, aj_]) (fun h26 => ?_) (fun h26 => ?_)
   ·refine .rgn [a3_ (pm_ s.name s1), a3_ (vv_ s.type), a3_ (g5_ s.expr s2), a3_ (ke_ s.thn s3)] (by simp only [go_sem, seval, aj_]; rfl) ?_ ?_
    ·(first | trivial | (simp; done) | exact hJ.symm)
    refine Exists.intro (cz_ s) ⟨?_, ?_⟩
    ·rfl
    exact Can.weak (Weak.lit (by simp only [go_sem, seval, aj_, as_, leV, aq_, ar_, V.inn, us, T9_, Ta_] <;> ((unfold cz_; simp_all))) (by simp only [go_sem, seval, aj_, as_, leV, aq_, ar_, V.inn, us, T9_, Ta_]) (by simp only [go_sem, seval, aj_, as_, leV, aq_, ar_, V.inn, us, T9_, Ta_]))
   ·refine .seq (.rgn [] (by simp only [go_sem, seval, aj_]; rfl) ?_ ?_)
    ·(first | trivial | (simp; done) | exact hJ.symm)
    refine .condB (by simp only [go_sem, seval, aj_]; rfl) (by simp only [go_sem, seval, aj_]) (fun h46 => ?_) (fun h46 => ?_)
    ·refine .rgn [a3_ (g5_ s.expr s2), a3_ (ke_ s.thn s3)] (by simp only [go_sem, seval, aj_]; rfl) ?_ ?_
     ·(first | trivial | (simp; done) | exact hJ.symm)
     refine Exists.intro (cz_ s) ⟨?_, ?_⟩
     ·rfl
     exact Can.weak (Weak.lit (by simp only [go_sem, seval, aj_, as_, leV, aq_, ar_, V.inn, us, T9_, Ta_] <;> ((unfold cz_; simp_all))) (by simp only [go_sem, seval, aj_, as_, leV, aq_, ar_, V.inn, us, T9_, Ta_]) (by simp only [go_sem, seval, aj_, as_, leV, aq_, ar_, V.inn, us, T9_, Ta_]))
    ·refine .seq (.rgn [] (by simp only [go_sem, seval, aj_]; rfl) ?_ ?_)
     ·(first | trivial | (simp; done) | exact hJ.symm)
     refine .condB (by simp only [go_sem, seval, aj_]; rfl) (by simp only [go_sem, seval, aj_]) (fun h66 => ?_) (fun h66 => ?_)
     ·refine .rgn [a3_ (g5_ s.expr s2), a3_ (g5_ s.thn s3)] (by simp only [go_sem, seval, aj_]; rfl) ?_ ?_
      ·(first | trivial | (simp; done) | exact hJ.symm)
      refine Exists.intro (cz_ s) ⟨?_, ?_⟩
      ·rfl
      exact Can.weak (Weak.lit (by simp only [go_sem, seval, aj_, as_, leV, aq_, ar_, V.inn, us, T9_, Ta_] <;> ((unfold cz_; simp_all))) (by simp only [go_sem, seval, aj_, as_, leV, aq_, ar_, V.inn, us, T9_, Ta_]) (by simp only [go_sem, seval, aj_, as_, leV, aq_, ar_, V.inn, us, T9_, Ta_]))
     ·refine .skip ?_
      refine Exists.intro (cz_ s) ⟨?_, ?_⟩
      ·rfl
      exact Can.weak (Weak.lit (by simp only [go_sem, seval, aj_, as_, leV, aq_, ar_, V.inn, us, T9_, Ta_] <;> ((unfold cz_; simp_all))) (by simp only [go_sem, seval, aj_, as_, leV, aq_, ar_, V.inn, us, T9_, Ta_]) (by simp only [go_sem, seval, aj_, as_, leV, aq_, ar_, V.inn, us, T9_, Ta_]))
 cases q
 ·refine .seq (.rgn [cm_ (cz_ s = true) (fun h => s6_ s h hs)] (by simp only [go_sem, seval, aj_]; rfl) ?_ ?_)
  ·(first | trivial | (simp; done) | exact hJ.symm)
  refine .ret ⟨.inr rfl, ?_⟩
  exact Out.plain (by simp only [Tryz.results80]; rfl) (by simp only [ax_, a6_, go_sem, seval, aj_] <;> (split <;> rfl)) (by simp only [a4_, go_sem, seval, aj_] <;> (rw [sok, ← hJ]; first | rfl | (rw [Bool.true_and, im_]; rfl))) (by simp only [go_sem, seval, aj_])
 ·refine .seq (.rgn [cm_ (cz_ s = true) (fun h => s6_ s h hs)] (by simp only [go_sem, seval, aj_]; rfl) ?_ ?_)
  ·(first | trivial | (simp; done) | exact hJ.symm)
  refine .ret ⟨.inr rfl, ?_⟩
  exact Out.plain (by simp only [Tryz.results80]; rfl) (by simp only [ax_, a6_, go_sem, seval, aj_] <;> (split <;> rfl)) (by simp only [a4_, go_sem, seval, aj_] <;> (rw [sok, ← hJ]; first | rfl | (rw [Bool.true_and, im_]; rfl))) (by simp only [go_sem, seval, aj_])
theorem do_ {s : Sl} (h : sok s = true) : cz_ s = true := by simp only [sok, T5_] at h; exact h.1
def el_ (s : Sl) : Str := if sok s then b1_ (sw' s) else []
theorem vr_ (s : Sl) (hs : ez_ s = true) : ACall En 81 [.ag (sC s)] [] [.s (el_ s)] [] := by
 refine al_ (fn := Tryz.f81) [] Tryz.func81 rfl rfl (by simp) fun C => ?_
 rw [av_]
 simp only [Tryz.ntmps81, T7_, List.length_nil, Nat.reduceAdd, Nat.reduceSub, List.replicate_succ, List.replicate_zero, List.cons_append, List.nil_append, bt_]
 refine .seq (.rgn [] (by simp only [go_sem, seval, aj_]; rfl) ?_ ?_)
 ·first | trivial | simp
 refine .seq (.seq (.rgn [a3_ (r5_ s hs)] (by simp only [go_sem, seval, aj_]; rfl) ?_ ?_))
 ·simp
 refine .condB (by simp only [go_sem, seval, aj_]; rfl) (by simp only [go_sem, seval, aj_]) (fun h5 => ?_) (fun h5 => ?_)
 ·refine .seq (.rgn [] (by simp only [go_sem, seval, aj_]; rfl) ?_ ?_)
  ·first | trivial | simp
  refine .ret ⟨.inr rfl, ?_⟩
  exact Out.plain (by simp only [Tryz.results81]; rfl) (by simp only [ax_, a6_, go_sem, seval, aj_] <;> (split <;> rfl)) (by simp only [a4_, go_sem, seval, aj_] <;> (simp at h5; simp [el_, h5])) (by simp only [go_sem, seval, aj_])
 ·refine .skip (.seq (.rgn [cm_ (sok s = true) (fun h => s6_ s (do_ h) hs)] (by simp only [go_sem, seval, aj_]; rfl) ?_ ?_))
  ·simpa using h5
  refine .ret ⟨.inr rfl, ?_⟩
  exact Out.plain (by simp only [Tryz.results81]; rfl) (by simp only [ax_, a6_, go_sem, seval, aj_] <;> (split <;> rfl)) (by simp only [a4_, go_sem, seval, aj_] <;> (simp at h5; simp [el_, h5])) (by simp only [go_sem, seval, aj_])
theorem ii_ (s : Sl) (h : cz_ s = true) (hs : ez_ s = true) : ACall En 109 [.ag (sC s)] [] [.sl false (bm_ (sw' s))] [] := by
 obtain ⟨h0, h1, h2⟩ := gb_ h
 obtain ⟨s1, s1', s2, s3⟩ := gk_ hs
 have W : s.kind = 1 ∨ s.kind = 2 ∨ s.kind = 3 → _ := fun hk => ie_ 5 s.expr 1 (bx_ (h1 hk)) s2 (h0_ (h1 hk)) (by decide) (by decide)
 have W3 : s.kind = 3 → _ := fun hk => ie_ 5 s.thn 1 (bx_ (h2 hk)) s3 (h0_ (h2 hk)) (by decide) (by decide)
 refine al_ (fn := Tryz.f109) [] Tryz.func109 rfl rfl (by simp) fun C => ?_
 rw [av_]
 simp only [Tryz.ntmps109, T7_, List.length_nil, Nat.reduceAdd, Nat.reduceSub, List.replicate_succ, List.replicate_zero, List.cons_append, List.nil_append, bt_]
 refine .seq (.rgn [] (by simp only [go_sem, seval, ab_, aa_, T2_, T1_, aj_]; rfl) ?_ ?_)
 ·(first | trivial | (simp; done) | (simp [bc_]; done))
 refine .seq (.seq (.rgn [] (by simp only [go_sem, seval, ab_, aa_, T2_, T1_, aj_]; rfl) ?_ ?_))
 ·(first | trivial | (simp; done) | (simp [bc_]; done))
 refine .block (.seq (.rgn [] (by simp only [go_sem, seval, ab_, aa_, T2_, T1_, aj_]; rfl) ?_ ?_))
 ·(first | trivial | (simp; done) | (simp [bc_]; done))
 refine .condB (by simp only [go_sem, seval, ab_, aa_, T2_, T1_, aj_]; rfl) (by simp only [go_sem, seval, ab_, aa_, T2_, T1_, aj_]) (fun h6 => ?_) (fun h6 => ?_)
 ·refine .seq (.rgnD [a3_ (W (.inl (by simpa using h6)))] enM (by simp only [go_sem, seval, ab_, aa_, T2_, T1_, aj_]; rfl) (by rfl) ?_ ?_)
  ·have q := h1 (.inl (by simpa using h6)); have q2 := (cq_ q 1); have q3 := wo_ q 1; simp [ce_, bc_, q3, j6_]; omega
  refine .frz 26 (by simp only [go_sem, seval, ab_, aa_, T2_, T1_, aj_]; rfl) (by simp only [go_sem, seval, ab_, aa_, T2_, T1_, aj_]) (by simp only [go_sem, seval, ab_, aa_, T2_, T1_, aj_]; rfl) (by simp only [go_sem, seval, ab_, aa_, T2_, T1_, aj_]; rfl) ?_
  refine .ret ⟨.inr rfl, ?_⟩
  exact Out.plain (by simp only [Tryz.results109]; rfl) (by simp only [ax_, a6_, go_sem, seval, ab_, aa_, T2_, T1_, aj_] <;> (split <;> rfl)) (by simp only [a4_, go_sem, seval, ab_, aa_, T2_, T1_, aj_] <;> (have k : s.kind = 1 := (by simpa using h6); rw [if_pos (by omega), T1_ (by simp [ab_]; omega)]; simp [sw', k, bm_, peel, wEq, hz_, hk_])) (by simp only [go_sem, seval, ab_, aa_, T2_, T1_, aj_])
 ·refine .seq (.rgn [] (by simp only [go_sem, seval, ab_, aa_, T2_, T1_, aj_]; rfl) ?_ ?_)
  ·(first | trivial | (simp; done) | (simp [bc_]; done))
  refine .condB (by simp only [go_sem, seval, ab_, aa_, T2_, T1_, aj_]; rfl) (by simp only [go_sem, seval, ab_, aa_, T2_, T1_, aj_]) (fun h17 => ?_) (fun h17 => ?_)
  ·refine .seq (.rgn [a3_ (W (.inr (.inl (by simpa using h17))))] (by simp only [go_sem, seval, ab_, aa_, T2_, T1_, aj_]; rfl) ?_ ?_)
   ·have q := h1 (.inr (.inl (by simpa using h17))); have q2 := (cq_ q 1); have q3 := wo_ q 1; simp [ce_, bc_, q3, j6_]; omega
   refine .frz 33 (by simp only [go_sem, seval, ab_, aa_, T2_, T1_, aj_]; rfl) (by simp only [go_sem, seval, ab_, aa_, T2_, T1_, aj_]) (by simp only [go_sem, seval, ab_, aa_, T2_, T1_, aj_]; rfl) (by simp only [go_sem, seval, ab_, aa_, T2_, T1_, aj_]; rfl) ?_
   refine .ret ⟨.inr rfl, ?_⟩
   exact Out.plain (by simp only [Tryz.results109]; rfl) (by simp only [ax_, a6_, go_sem, seval, ab_, aa_, T2_, T1_, aj_] <;> (split <;> rfl)) (by simp only [a4_, go_sem, seval, ab_, aa_, T2_, T1_, aj_] <;> (have k : s.kind = 2 := (by simpa using h17); rw [if_pos (by omega), T1_ (by simp [ab_]; omega)]; simp [sw', k, bm_, peel, bv_])) (by simp only [go_sem, seval, ab_, aa_, T2_, T1_, aj_])
  ·refine .seq (.rgn [] (by simp only [go_sem, seval, ab_, aa_, T2_, T1_, aj_]; rfl) ?_ ?_)
   ·(first | trivial | (simp; done) | (simp [bc_]; done))
   refine .condB (by simp only [go_sem, seval, ab_, aa_, T2_, T1_, aj_]; rfl) (by simp only [go_sem, seval, ab_, aa_, T2_, T1_, aj_]) (fun h24 => ?_) (fun h24 => ?_)
   ·refine .seq (.rgn [a3_ (W (.inr (.inr (by simpa using h24))))] (by simp only [go_sem, seval, ab_, aa_, T2_, T1_, aj_]; rfl) ?_ ?_)
    ·have q := h1 (.inr (.inr (by simpa using h24))); have q2 := (cq_ q 1); have q3 := wo_ q 1; simp [ce_, bc_, q3, j6_]; omega
    refine .seq (.rgnD [a3_ (W3 (by simpa using h24))] enM (by simp only [go_sem, seval, ab_, aa_, T2_, T1_, aj_]; rfl) (by rfl) ?_ ?_)
    ·have q := h1 (.inr (.inr (by simpa using h24))); have q2 := (cq_ q 1); have q4 := cq_ (h2 (by simpa using h24)) 1; simp [ce_, bc_]; omega
    refine .frz 47 (by simp only [go_sem, seval, ab_, aa_, T2_, T1_, aj_]; rfl) (by simp only [go_sem, seval, ab_, aa_, T2_, T1_, aj_]) (by simp only [go_sem, seval, ab_, aa_, T2_, T1_, aj_]; rfl) (by simp only [go_sem, seval, ab_, aa_, T2_, T1_, aj_]; rfl) ?_
    refine .ret ⟨.inr rfl, ?_⟩
    exact Out.plain (by simp only [Tryz.results109]; rfl) (by simp only [ax_, a6_, go_sem, seval, ab_, aa_, T2_, T1_, aj_] <;> (split <;> rfl)) (by simp only [a4_, go_sem, seval, ab_, aa_, T2_, T1_, aj_] <;> (have k : s.kind = 3 := (by simpa using h24); rw [if_pos (by omega), T1_ (by simp [ab_]; omega)]; simp [sw', k, bm_, peel, bv_, ds_])) (by simp only [go_sem, seval, ab_, aa_, T2_, T1_, aj_])
   ·refine .skip (.seq (.rgn [] (by simp only [go_sem, seval, ab_, aa_, T2_, T1_, aj_]; rfl) ?_ ?_))
    ·(first | trivial | (simp; done) | (simp [bc_]; done))
    refine .can (Can.slotLe 2 (.sl false []) (by simp only [go_sem, seval, ab_, aa_, T2_, T1_, aj_] <;> trivial) (by simp only [go_sem, seval, ab_, aa_, T2_, T1_, aj_] <;> rfl)) ?_
    refine .ret ⟨.inr rfl, ?_⟩
    exact Out.plain (by simp only [Tryz.results109]; rfl) (by simp only [ax_, a6_, go_sem, seval, ab_, aa_, T2_, T1_, aj_] <;> (split <;> rfl)) (by simp only [a4_, go_sem, seval, ab_, aa_, T2_, T1_, aj_] <;> (have k : s.kind = 0 := (by simp_all); simp [sw', k, bm_])) (by simp only [go_sem, seval, ab_, aa_, T2_, T1_, aj_])
theorem mm_ (s : Sl) (hs : ez_ s = true) : ACall En 107 [.ag (sC s)] [] [.b (sok s)] [] := by
 obtain ⟨s1, s1', s2, s3⟩ := gk_ hs
 refine al_ (fn := Tryz.f107) [] Tryz.func107 rfl rfl (by simp) fun C => ?_
 rw [av_]
 simp only [Tryz.ntmps107, T7_, List.length_nil, Nat.reduceAdd, Nat.reduceSub, List.replicate_succ, List.replicate_zero, List.cons_append, List.nil_append, bt_]
 refine .seq (.rgn [] (by simp only [go_sem, seval, aj_, aa_]; rfl) ?_ ?_)
 ·(first | trivial | (simp; done) | exact hJ.symm | exact ⟨hJ.symm, hJ.symm⟩)
 refine .seq (.rgn [] (by simp only [go_sem, seval, aj_, aa_]; rfl) ?_ ?_)
 ·(first | trivial | (simp; done) | exact hJ.symm | exact ⟨hJ.symm, hJ.symm⟩)
 refine .seqJ (fun q : Bool => ⟨[.no, .pt 11 11 0 0, .no, .b q, .no, .no, .no, .no, .no, .no, .no, .no, .no, .no, .no, .no, .no, .no, .no, .no, .no, .no, .no, .no, .no, .no, .no, .no, .no, .no, .no, .no, .no, .no, .no, .no, .no, .no, .no, .no, .no, .no, .no, .no, .no, .no, .no, .no, .no, .no, .no, .no, .no, .no, .no, .no, .no, .no, .no, .no, .no, .no, .no, .no, .no, .no, .no, .no, .no, .no, .no, .no, .no, .no, .no, .no, .no, .no, .no, .no, .no, .no, .no, .no, .no, .no, .no, .no, .no, .no, .no, .no, .no, .no], be_ [(11, ⟨66, 11, [sC s]⟩)], us [11]⟩) (fun q : Bool => q = cz_ s) ?_ (fun q hJ => ?_)
 ·refine .seq (.rgn [] (by simp only [go_sem, seval, aj_, aa_]; rfl) ?_ ?_)
  ·(first | trivial | (simp; done) | exact hJ.symm | exact ⟨hJ.symm, hJ.symm⟩)
  refine .block (.seq (.rgn [] (by simp only [go_sem, seval, aj_, aa_]; rfl) ?_ ?_))
  ·(first | trivial | (simp; done) | exact hJ.symm | exact ⟨hJ.symm, hJ.symm⟩)
  refine .condB (by simp only [go_sem, seval, aj_, aa_]; rfl) (by simp only [go_sem, seval, aj_, aa_]) (fun h6 => ?_) (fun h6 => ?_)
  ·refine .rgn [a3_ (k7_ s.expr s2), a3_ (k7_ s.thn s3)] (by simp only [go_sem, seval, aj_, aa_]; rfl) ?_ ?_
   ·(first | trivial | (simp; done) | exact hJ.symm | exact ⟨hJ.symm, hJ.symm⟩)
   refine Exists.intro (cz_ s) ⟨?_, ?_⟩
   ·rfl
   exact Can.weak (Weak.lit (by simp only [go_sem, seval, aj_, aa_, as_, leV, aq_, ar_, V.inn, us, T9_, Ta_] <;> ((unfold cz_; simp_all))) (by simp only [go_sem, seval, aj_, aa_, as_, leV, aq_, ar_, V.inn, us, T9_, Ta_]) (by simp only [go_sem, seval, aj_, aa_, as_, leV, aq_, ar_, V.inn, us, T9_, Ta_]))
  ·refine .seq (.rgn [] (by simp only [go_sem, seval, aj_, aa_]; rfl) ?_ ?_)
   ·(first | trivial | (simp; done) | exact hJ.symm | exact ⟨hJ.symm, hJ.symm⟩)
   refine .condB (by simp only [go_sem, seval, aj_, aa_]; rfl) (by simp only [go_sem, seval, aj_, aa_]) (fun h26 => ?_) (fun h26 => ?_)
   ·refine .rgn [a3_ (o7_ s.name s1), a3_ (l5_ s.type), a3_ (g0_ s.expr s2), a3_ (k7_ s.thn s3)] (by simp only [go_sem, seval, aj_, aa_]; rfl) ?_ ?_
    ·(first | trivial | (simp; done) | exact hJ.symm | exact ⟨hJ.symm, hJ.symm⟩)
    refine Exists.intro (cz_ s) ⟨?_, ?_⟩
    ·rfl
    exact Can.weak (Weak.lit (by simp only [go_sem, seval, aj_, aa_, as_, leV, aq_, ar_, V.inn, us, T9_, Ta_] <;> ((unfold cz_; simp_all))) (by simp only [go_sem, seval, aj_, aa_, as_, leV, aq_, ar_, V.inn, us, T9_, Ta_]) (by simp only [go_sem, seval, aj_, aa_, as_, leV, aq_, ar_, V.inn, us, T9_, Ta_]))
   ·refine .seq (.rgn [] (by simp only [go_sem, seval, aj_, aa_]; rfl) ?_ ?_)
    ·(first | trivial | (simp; done) | exact hJ.symm | exact ⟨hJ.symm, hJ.symm⟩)
    refine .condB (by simp only [go_sem, seval, aj_, aa_]; rfl) (by simp only [go_sem, seval, aj_, aa_]) (fun h46 => ?_) (fun h46 => ?_)
    ·refine .rgn [a3_ (g0_ s.expr s2), a3_ (k7_ s.thn s3)] (by simp only [go_sem, seval, aj_, aa_]; rfl) ?_ ?_
     ·(first | trivial | (simp; done) | exact hJ.symm | exact ⟨hJ.symm, hJ.symm⟩)
     refine Exists.intro (cz_ s) ⟨?_, ?_⟩
     ·rfl
     exact Can.weak (Weak.lit (by simp only [go_sem, seval, aj_, aa_, as_, leV, aq_, ar_, V.inn, us, T9_, Ta_] <;> ((unfold cz_; simp_all))) (by simp only [go_sem, seval, aj_, aa_, as_, leV, aq_, ar_, V.inn, us, T9_, Ta_]) (by simp only [go_sem, seval, aj_, aa_, as_, leV, aq_, ar_, V.inn, us, T9_, Ta_]))
    ·refine .seq (.rgn [] (by simp only [go_sem, seval, aj_, aa_]; rfl) ?_ ?_)
     ·(first | trivial | (simp; done) | exact hJ.symm | exact ⟨hJ.symm, hJ.symm⟩)
     refine .condB (by simp only [go_sem, seval, aj_, aa_]; rfl) (by simp only [go_sem, seval, aj_, aa_]) (fun h66 => ?_) (fun h66 => ?_)
     ·refine .rgn [a3_ (g0_ s.expr s2), a3_ (g0_ s.thn s3)] (by simp only [go_sem, seval, aj_, aa_]; rfl) ?_ ?_
      ·(first | trivial | (simp; done) | exact hJ.symm | exact ⟨hJ.symm, hJ.symm⟩)
      refine Exists.intro (cz_ s) ⟨?_, ?_⟩
      ·rfl
      exact Can.weak (Weak.lit (by simp only [go_sem, seval, aj_, aa_, as_, leV, aq_, ar_, V.inn, us, T9_, Ta_] <;> ((unfold cz_; simp_all))) (by simp only [go_sem, seval, aj_, aa_, as_, leV, aq_, ar_, V.inn, us, T9_, Ta_]) (by simp only [go_sem, seval, aj_, aa_, as_, leV, aq_, ar_, V.inn, us, T9_, Ta_]))
     ·refine .skip ?_
      refine Exists.intro (cz_ s) ⟨?_, ?_⟩
      ·rfl
      exact Can.weak (Weak.lit (by simp only [go_sem, seval, aj_, aa_, as_, leV, aq_, ar_, V.inn, us, T9_, Ta_] <;> ((unfold cz_; simp_all))) (by simp only [go_sem, seval, aj_, aa_, as_, leV, aq_, ar_, V.inn, us, T9_, Ta_]) (by simp only [go_sem, seval, aj_, aa_, as_, leV, aq_, ar_, V.inn, us, T9_, Ta_]))
 cases q
 ·refine .seq (.rgn [cm_ (cz_ s = true) (fun h => ii_ s h hs), cm_ (cz_ s = true) (fun h => he_ (sw' s) (by have := (l8_ h).1; omega) (by have := lh_ h; omega))] (by simp only [go_sem, seval, aj_, aa_]; rfl) ?_ ?_)
  ·(first | trivial | (simp; done) | exact hJ.symm | exact ⟨hJ.symm, hJ.symm⟩)
  refine .ret ⟨.inr rfl, ?_⟩
  exact Out.plain (by simp only [Tryz.results107]; rfl) (by simp only [ax_, a6_, go_sem, seval, aj_, aa_] <;> (split <;> rfl)) (by simp only [a4_, go_sem, seval, aj_, aa_] <;> (rw [sok, ← hJ]; first | rfl | (rw [Bool.true_and, im_]; rfl))) (by simp only [go_sem, seval, aj_, aa_])
 ·refine .seq (.rgn [cm_ (cz_ s = true) (fun h => ii_ s h hs), cm_ (cz_ s = true) (fun h => he_ (sw' s) (by have := (l8_ h).1; omega) (by have := lh_ h; omega))] (by simp only [go_sem, seval, aj_, aa_]; rfl) ?_ ?_)
  ·(first | trivial | (simp; done) | exact hJ.symm | exact ⟨hJ.symm, hJ.symm⟩)
  refine .ret ⟨.inr rfl, ?_⟩
  exact Out.plain (by simp only [Tryz.results107]; rfl) (by simp only [ax_, a6_, go_sem, seval, aj_, aa_] <;> (split <;> rfl)) (by simp only [a4_, go_sem, seval, aj_, aa_] <;> (rw [sok, ← hJ]; first | rfl | (rw [Bool.true_and, im_]; rfl))) (by simp only [go_sem, seval, aj_, aa_])
end
section
set_option maxRecDepth 100000
set_option maxHeartbeats 4000000
theorem y3_ {s : Sl} (h : cz_ s = true) : wf s.expr = true ∧ wf s.thn = true := by
 unfold cz_ at h
 by_cases k0 : s.kind = 0
 ·simp [k0, dn_] at h; rw [h.1.2, h.2]; exact ⟨na_, na_⟩
 by_cases k1 : s.kind = 1
 ·simp [k1, dn_] at h; rw [h.2]; exact ⟨iq_ h.1.2, na_⟩
 by_cases k2 : s.kind = 2
 ·simp [k2, dn_] at h; rw [h.2]; exact ⟨iq_ h.1.2, na_⟩
 by_cases k3 : s.kind = 3
 ·simp [k3] at h; exact ⟨iq_ h.1.2, iq_ h.2⟩
 ·simp [k0, k1, k2, k3] at h
theorem aeq_ (s : Sl) (hs : ez_ s = true) (w1 : wf s.expr = true) (w2 : wf s.thn = true) : ACall En 89 [.ag (sC s)] [] [.ag (bC (bof s))] [] := by
 obtain ⟨s1, s2, s3, s4⟩ := gk_ hs
 refine al_ (fn := Tryz.f89) [] Tryz.func89 rfl rfl (by simp) fun C => ?_
 rw [av_]
 simp only [Tryz.ntmps89, T7_, List.length_nil, Nat.reduceAdd, Nat.reduceSub, List.replicate_succ, List.replicate_zero, List.cons_append, List.nil_append, bt_]
 refine .seq (.rgn [] (by simp only [go_sem, seval, aj_, bo_]; rfl) ?_ ?_)
 ·first | trivial | simp
 refine .seq (.rgn [] (by simp only [go_sem, seval, aj_, bo_]; rfl) ?_ ?_)
 ·first | trivial | simp
 refine .seq (.seq (.rgn [] (by simp only [go_sem, seval, aj_, bo_]; rfl) ?_ ?_))
 ·first | trivial | simp
 refine .condB (by simp only [go_sem, seval, aj_, bo_]; rfl) (by simp only [go_sem, seval, aj_, bo_]) (fun h11 => ?_) (fun h11 => ?_)
 ·refine .rgn [a3_ (s3_ s.expr w1 s3)] (by simp only [go_sem, seval, aj_, bo_]; rfl) ?_ ?_
  ·first | trivial | simp
  refine .seq (.seq (.rgn [] (by simp only [go_sem, seval, aj_, bo_]; rfl) ?_ ?_))
  ·first | trivial | simp
  refine .condB (by simp only [go_sem, seval, aj_, bo_]; rfl) (by simp only [go_sem, seval, aj_, bo_]) (fun h18 => ?_) (fun h18 => ?_)
  ·refine .rgn [a3_ (s3_ s.thn w2 s4)] (by simp only [go_sem, seval, aj_, bo_]; rfl) ?_ ?_
   ·first | trivial | simp
   refine .seq (.rgn [] (by simp only [go_sem, seval, aj_, bo_]; rfl) ?_ ?_)
   ·first | trivial | simp
   refine .ret ⟨.inr rfl, ?_⟩
   exact Out.plainL (by simp only [Tryz.results89]; rfl) (by simp only [ax_, a6_, go_sem, seval, aj_, bo_] <;> (split <;> rfl)) (by simp only [a4_, go_sem, seval, aj_, bo_] <;> (simp at h11 h18; simp [bof, h11, h18, bo_, iy_, i0_, ip_, dj_, ec_, ler, a8_])) (by simp only [go_sem, seval, aj_, bo_])
  ·refine .skip (.seq (.rgn [] (by simp only [go_sem, seval, aj_, bo_]; rfl) ?_ ?_))
   ·first | trivial | simp
   refine .ret ⟨.inr rfl, ?_⟩
   exact Out.plainL (by simp only [Tryz.results89]; rfl) (by simp only [ax_, a6_, go_sem, seval, aj_, bo_] <;> (split <;> rfl)) (by simp only [a4_, go_sem, seval, aj_, bo_] <;> (simp at h11 h18; simp [bof, h11, h18, bo_, iy_, i0_, ip_, dj_, ec_, ler, a8_])) (by simp only [go_sem, seval, aj_, bo_])
 ·refine .skip (.seq (.seq (.rgn [] (by simp only [go_sem, seval, aj_, bo_]; rfl) ?_ ?_)))
  ·first | trivial | simp
  refine .condB (by simp only [go_sem, seval, aj_, bo_]; rfl) (by simp only [go_sem, seval, aj_, bo_]) (fun h18 => ?_) (fun h18 => ?_)
  ·refine .rgn [a3_ (s3_ s.thn w2 s4)] (by simp only [go_sem, seval, aj_, bo_]; rfl) ?_ ?_
   ·first | trivial | simp
   refine .seq (.rgn [] (by simp only [go_sem, seval, aj_, bo_]; rfl) ?_ ?_)
   ·first | trivial | simp
   refine .ret ⟨.inr rfl, ?_⟩
   exact Out.plainL (by simp only [Tryz.results89]; rfl) (by simp only [ax_, a6_, go_sem, seval, aj_, bo_] <;> (split <;> rfl)) (by simp only [a4_, go_sem, seval, aj_, bo_] <;> (simp at h11 h18; omega)) (by simp only [go_sem, seval, aj_, bo_])
  ·refine .skip (.seq (.rgn [] (by simp only [go_sem, seval, aj_, bo_]; rfl) ?_ ?_))
   ·first | trivial | simp
   refine .ret ⟨.inr rfl, ?_⟩
   exact Out.plainL (by simp only [Tryz.results89]; rfl) (by simp only [ax_, a6_, go_sem, seval, aj_, bo_] <;> (split <;> rfl)) (by simp only [a4_, go_sem, seval, aj_, bo_] <;> (simp at h11 h18; simp [bof, h11, h18, bo_, iy_, i0_, ip_, dj_, ec_, ler, a8_])) (by simp only [go_sem, seval, aj_, bo_])
end
section
set_option maxRecDepth 100000
set_option maxHeartbeats 4000000
def i7_ (b : Str) (q k : Int) (x : Sl) : Sl × Int :=
 if k = 0 then ({ x with kind := u2_ b q [0, 4, 1, 2, 3] }, q + 1)
 else if k = 1 then ({ x with name := ofI b q [[120], [108, 101, 116], [88], []] }, q + 1)
 else if k = 2 then ({ x with type := ofI b q [[105, 110, 116], [116, 101, 120, 116], []] }, q + 1)
 else if k = 3 then ({ x with thn := (gf_ b q).1 }, (gf_ b q).2)
 else (x, q)
def dl5 (b : Str) (p : Int) : Sl × Int := i7_ b ((cn_ b p).2 + 1) (br_ b (cn_ b p).2 40) (cn_ b p).1
theorem abt_ (b : Str) {p : Int} (hp : 0 ≤ p) (hp2 : p < 100000000) : p ≤ (dl5 b p).2 ∧ (dl5 b p).2 ≤ p + 700 ∧ ez_ (dl5 b p).1 = true := by
 obtain ⟨h1, h2, h3, _⟩ := k0_ b hp hp2
 obtain ⟨s1, s2, s3, s4⟩ := gk_ h3
 have hB := agf_ b (p := (cn_ b p).2 + 1) (by omega) (by omega)
 unfold dl5 i7_
 split
 ·exact ⟨by dsimp only; omega, by dsimp only; omega, h3⟩
 ·split
  ·have l1 := hd_ (b := b) (p := (cn_ b p).2 + 1) (l := [[120], [108, 101, 116], [88], []]) (by decide) (by omega) (by omega) 5 (by decide)
   refine ⟨by dsimp only; omega, by dsimp only; omega, ?_⟩
   simp only [ez_, s2, s3, s4, decide_true, Bool.and_true, T3_]; omega
  ·split
   ·have l1 := hd_ (b := b) (p := (cn_ b p).2 + 1) (l := [[105, 110, 116], [116, 101, 120, 116], []]) (by decide) (by omega) (by omega) 5 (by decide)
    refine ⟨by dsimp only; omega, by dsimp only; omega, ?_⟩
    simp only [ez_, s1, s3, s4, decide_true, Bool.and_true, Bool.true_and, T3_]; omega
   ·split
    ·refine ⟨by dsimp only; omega, by dsimp only; omega, ?_⟩
     simp only [ez_, s1, s2, s3, hB.2.2, decide_true, Bool.and_true]
    ·exact ⟨by dsimp only; omega, by dsimp only; omega, h3⟩
theorem tx_ (b : Str) (p : Int) (hb : b.length ≤ 2000) (hp : 0 ≤ p) (hp2 : p < 100000000) : ACall En 130 [.pt 0 2 0 0] [rdB b p] [.ag (sC (dl5 b p).1)] [rdB b (dl5 b p).2] := by
 obtain ⟨h1, h2, h3, w1, w2, _⟩ := k0_ b hp hp2
 refine al_ (fn := Tryz.f130) [0] Tryz.func130 rfl rfl (by simp) fun C => ?_
 rw [av_]
 simp only [Tryz.ntmps130, T7_, List.length_nil, Nat.reduceAdd, Nat.reduceSub, List.replicate_succ, List.replicate_zero, List.cons_append, List.nil_append, bt_]
 refine .seq (.rgn [] (by simp only [go_sem, seval, ag_, ak_, aw_, ap_, ao_, am_, aj_]; rfl) ?_ ?_)
 ·first | trivial | simp
 refine .seq (.rgn [bw_ [0] [] (v6_ b p hb hp hp2)] (by simp only [go_sem, seval, ag_, ak_, aw_, ap_, ao_, am_, aj_]; rfl) ?_ ?_)
 ·first | trivial | simp
 refine .seq (.seq (.rgn [bw_ [0] [] (dv_ b (cn_ b p).2 40 hb (by omega) (by omega))] (by simp only [go_sem, seval, ag_, ak_, aw_, ap_, ao_, am_, aj_]; rfl) ?_ ?_))
 ·first | trivial | simp
 refine .block (.seq (.rgn [] (by simp only [go_sem, seval, ag_, ak_, aw_, ap_, ao_, am_, aj_]; rfl) ?_ ?_))
 ·first | trivial | simp
 refine .condB (by simp only [go_sem, seval, ag_, ak_, aw_, ap_, ao_, am_, aj_]; rfl) (by simp only [go_sem, seval, ag_, ak_, aw_, ap_, ao_, am_, aj_]) (fun h8 => ?_) (fun h8 => ?_)
 ·refine .rgn [bw_ [0] [] (qr_ b ((cn_ b p).2 + 1) [0, 4, 1, 2, 3] (by decide) hb (by omega) (by omega))] (by simp only [go_sem, seval, ag_, ak_, aw_, ap_, ao_, am_, aj_]; rfl) ?_ ?_
  ·first | trivial | simp
  refine .seq (.rgn [] (by simp only [go_sem, seval, ag_, ak_, aw_, ap_, ao_, am_, aj_]; rfl) ?_ ?_)
  ·first | trivial | simp
  refine .ret ⟨.inr rfl, ?_⟩
  exact Out.mem' (by simp only [Tryz.results130]; rfl) (by simp only [ax_, a6_, go_sem, seval, ag_, ak_, aw_, ap_, ao_, am_, aj_]) (by simp only [a4_, rns, rn, go_sem, seval, ag_, ak_, aw_, ap_, ao_, am_, aj_] <;> (simp at h8; simp [dl5, i7_, h8])) (by simp) rfl (by decide) (by simp only [go_sem, seval, ag_, ak_, aw_, ap_, ao_, am_, aj_]) (by simp only [ak_, go_sem, seval, ag_, ak_, aw_, ap_, ao_, am_, aj_]) (by simp only [ag_, go_sem, seval, ag_, ak_, aw_, ap_, ao_, am_, aj_] <;> (simp at h8; simp [dl5, i7_, h8]))
 ·refine .seq (.rgn [] (by simp only [go_sem, seval, ag_, ak_, aw_, ap_, ao_, am_, aj_]; rfl) ?_ ?_)
  ·first | trivial | simp
  refine .condB (by simp only [go_sem, seval, ag_, ak_, aw_, ap_, ao_, am_, aj_]; rfl) (by simp only [go_sem, seval, ag_, ak_, aw_, ap_, ao_, am_, aj_]) (fun h14 => ?_) (fun h14 => ?_)
  ·refine .rgn [bw_ [0] [] (qo_ b ((cn_ b p).2 + 1) [[120], [108, 101, 116], [88], []] (by decide) hb (by omega) (by omega))] (by simp only [go_sem, seval, ag_, ak_, aw_, ap_, ao_, am_, aj_]; rfl) ?_ ?_
   ·first | trivial | simp
   refine .seq (.rgn [] (by simp only [go_sem, seval, ag_, ak_, aw_, ap_, ao_, am_, aj_]; rfl) ?_ ?_)
   ·first | trivial | simp
   refine .ret ⟨.inr rfl, ?_⟩
   exact Out.mem' (by simp only [Tryz.results130]; rfl) (by simp only [ax_, a6_, go_sem, seval, ag_, ak_, aw_, ap_, ao_, am_, aj_]) (by simp only [a4_, rns, rn, go_sem, seval, ag_, ak_, aw_, ap_, ao_, am_, aj_] <;> (simp at h8 h14; simp [dl5, i7_, h8, h14])) (by simp) rfl (by decide) (by simp only [go_sem, seval, ag_, ak_, aw_, ap_, ao_, am_, aj_]) (by simp only [ak_, go_sem, seval, ag_, ak_, aw_, ap_, ao_, am_, aj_]) (by simp only [ag_, go_sem, seval, ag_, ak_, aw_, ap_, ao_, am_, aj_] <;> (simp at h8 h14; simp [dl5, i7_, h8, h14]))
  ·refine .seq (.rgn [] (by simp only [go_sem, seval, ag_, ak_, aw_, ap_, ao_, am_, aj_]; rfl) ?_ ?_)
   ·first | trivial | simp
   refine .condB (by simp only [go_sem, seval, ag_, ak_, aw_, ap_, ao_, am_, aj_]; rfl) (by simp only [go_sem, seval, ag_, ak_, aw_, ap_, ao_, am_, aj_]) (fun h20 => ?_) (fun h20 => ?_)
   ·refine .rgn [bw_ [0] [] (qo_ b ((cn_ b p).2 + 1) [[105, 110, 116], [116, 101, 120, 116], []] (by decide) hb (by omega) (by omega))] (by simp only [go_sem, seval, ag_, ak_, aw_, ap_, ao_, am_, aj_]; rfl) ?_ ?_
    ·first | trivial | simp
    refine .seq (.rgn [] (by simp only [go_sem, seval, ag_, ak_, aw_, ap_, ao_, am_, aj_]; rfl) ?_ ?_)
    ·first | trivial | simp
    refine .ret ⟨.inr rfl, ?_⟩
    exact Out.mem' (by simp only [Tryz.results130]; rfl) (by simp only [ax_, a6_, go_sem, seval, ag_, ak_, aw_, ap_, ao_, am_, aj_]) (by simp only [a4_, rns, rn, go_sem, seval, ag_, ak_, aw_, ap_, ao_, am_, aj_] <;> (simp at h8 h14 h20; simp [dl5, i7_, h8, h14, h20])) (by simp) rfl (by decide) (by simp only [go_sem, seval, ag_, ak_, aw_, ap_, ao_, am_, aj_]) (by simp only [ak_, go_sem, seval, ag_, ak_, aw_, ap_, ao_, am_, aj_]) (by simp only [ag_, go_sem, seval, ag_, ak_, aw_, ap_, ao_, am_, aj_] <;> (simp at h8 h14 h20; simp [dl5, i7_, h8, h14, h20]))
   ·refine .seq (.rgn [] (by simp only [go_sem, seval, ag_, ak_, aw_, ap_, ao_, am_, aj_]; rfl) ?_ ?_)
    ·first | trivial | simp
    refine .condB (by simp only [go_sem, seval, ag_, ak_, aw_, ap_, ao_, am_, aj_]; rfl) (by simp only [go_sem, seval, ag_, ak_, aw_, ap_, ao_, am_, aj_]) (fun h26 => ?_) (fun h26 => ?_)
    ·refine .rgn [bw_ [0] [] (adf_ b ((cn_ b p).2 + 1) hb (by omega) (by omega))] (by simp only [go_sem, seval, ag_, ak_, aw_, ap_, ao_, am_, aj_]; rfl) ?_ ?_
     ·first | trivial | simp
     refine .seq (.rgn [] (by simp only [go_sem, seval, ag_, ak_, aw_, ap_, ao_, am_, aj_]; rfl) ?_ ?_)
     ·first | trivial | simp
     refine .ret ⟨.inr rfl, ?_⟩
     exact Out.mem' (by simp only [Tryz.results130]; rfl) (by simp only [ax_, a6_, go_sem, seval, ag_, ak_, aw_, ap_, ao_, am_, aj_]) (by simp only [a4_, rns, rn, go_sem, seval, ag_, ak_, aw_, ap_, ao_, am_, aj_] <;> (simp at h8 h14 h20 h26; simp [dl5, i7_, h8, h14, h20, h26])) (by simp) rfl (by decide) (by simp only [go_sem, seval, ag_, ak_, aw_, ap_, ao_, am_, aj_]) (by simp only [ak_, go_sem, seval, ag_, ak_, aw_, ap_, ao_, am_, aj_]) (by simp only [ag_, go_sem, seval, ag_, ak_, aw_, ap_, ao_, am_, aj_] <;> (simp at h8 h14 h20 h26; simp [dl5, i7_, h8, h14, h20, h26]))
    ·refine .skip (.seq (.rgn [] (by simp only [go_sem, seval, ag_, ak_, aw_, ap_, ao_, am_, aj_]; rfl) ?_ ?_))
     ·first | trivial | simp
     refine .ret ⟨.inr rfl, ?_⟩
     exact Out.mem' (by simp only [Tryz.results130]; rfl) (by simp only [ax_, a6_, go_sem, seval, ag_, ak_, aw_, ap_, ao_, am_, aj_]) (by simp only [a4_, rns, rn, go_sem, seval, ag_, ak_, aw_, ap_, ao_, am_, aj_] <;> (simp at h8 h14 h20 h26; simp [dl5, i7_, h8, h14, h20, h26])) (by simp) rfl (by decide) (by simp only [go_sem, seval, ag_, ak_, aw_, ap_, ao_, am_, aj_]) (by simp only [ak_, go_sem, seval, ag_, ak_, aw_, ap_, ao_, am_, aj_]) (by simp only [ag_, go_sem, seval, ag_, ak_, aw_, ap_, ao_, am_, aj_] <;> (simp at h8 h14 h20 h26; simp [dl5, i7_, h8, h14, h20, h26]))
end
end Go.Proofs.YtpikbndepapbhaaGreatDoor
