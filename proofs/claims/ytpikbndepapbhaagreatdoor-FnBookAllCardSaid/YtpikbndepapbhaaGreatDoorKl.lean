/- Lines with types: words, text, ok: the program's and the reference's; without types. Conditions: none. -/
import Derived.Test.YtpikbndepapbhaaGreatDoorKj
set_option linter.unusedVariables false
set_option linter.unusedSimpArgs false
namespace Go.Proofs.YtpikbndepapbhaaGreatDoor
section
set_option maxRecDepth 100000
set_option maxHeartbeats 4000000
def dh_ (s : Sl) : Wd :=
 if s.kind = 1 then (hr_, 100) :: (s.name, 101) :: (hd_, -1) :: (s.type, -1) :: (wEq, 102) :: src s.expr 0 0
 else if s.kind = 2 then (br_, 103) :: src s.expr 0 0
 else if s.kind = 3 then ((dg_, 100) :: src s.expr 0 0 ++ [(br_, 103)]) ++ src s.thn 0 (cnt s.expr)
 else []
theorem fq_ {s : Sl} (h : co_ s = true) : (s.kind = 0 ∨ s.kind = 1 ∨ s.kind = 2 ∨ s.kind = 3) ∧ (s.kind = 1 ∨ s.kind = 2 ∨ s.kind = 3 → eok s.expr = true) ∧ (s.kind = 3 → eok s.thn = true) := by
 unfold co_ at h
 by_cases k0 : s.kind = 0
 ·simp [k0]
 by_cases k1 : s.kind = 1
 ·simp [k1] at h; simp [k1]; exact h.1.2
 by_cases k2 : s.kind = 2
 ·simp [k2] at h; simp [k2]; exact h.1.2
 by_cases k3 : s.kind = 3
 ·simp [k3] at h; simp [k3]; exact ⟨h.1.2, h.2⟩
 ·simp [k0, k1, k2, k3] at h
theorem nu_ {s : Sl} (h : co_ s = true) : (dh_ s).map (·.1) = sw' s := by
 obtain ⟨h0, h1, h2⟩ := fq_ h
 unfold dh_ sw'
 rcases h0 with k | k | k | k
 ·simp [k]
 ·simp [k, d9_, ep_ (bs_ (h1 (.inl k)))]
 ·simp [k, d9_, ep_ (bs_ (h1 (.inr (.inl k))))]
 ·simp [k, d9_, ep_ (bs_ (h1 (.inr (.inr k)))), ep_ (bs_ (h2 k))]
theorem vf_ (s : Sl) (h : co_ s = true) (hs : d6_ s = true) : ACall En 87 [.ag (sC s)] [] [.sl false (wdR (dh_ s))] [] := by
 obtain ⟨h0, h1, h2⟩ := fq_ h
 obtain ⟨s1, s1', s2, s3⟩ := f6_ hs
 have W : s.kind = 1 ∨ s.kind = 2 ∨ s.kind = 3 → _ := fun hk => lf_ 5 s.expr 0 0 (bs_ (h1 hk)) s2 (hp_ (h1 hk)) (by decide) (by have := j3_ (h1 hk); omega) (by decide)
 have W3 : s.kind = 3 → _ := fun hk => lf_ 5 s.thn 0 (0 + cnt s.expr) (bs_ (h2 hk)) s3 (hp_ (h2 hk)) (by have := j3_ (h1 (.inr (.inr hk))); omega) (by have := j3_ (h1 (.inr (.inr hk))); have := j3_ (h2 hk); omega) (by decide)
 refine aj_ (fn := Tryz.f87) [] Tryz.func87 rfl rfl (by simp) fun C => ?_
 rw [a0_]
 simp only [Tryz.ntmps87, T7_, List.length_nil, Nat.reduceAdd, Nat.reduceSub, List.replicate_succ, List.replicate_zero, List.cons_append, List.nil_append, bq_]
 refine .seq (.rgn [] (by simp only [go_sem, seval, ae_, ad_, T2_, T1_, af_]; rfl) ?_ ?_)
 ·(first | trivial | (simp; done) | (simp [b1_, List.forall_mem_append, bi_]; done))
 refine .seq (.rgn [] (by simp only [go_sem, seval, ae_, ad_, T2_, T1_, af_]; rfl) ?_ ?_)
 ·(first | trivial | (simp; done) | (simp [b1_, List.forall_mem_append, bi_]; done))
 refine .seq (.seq (.rgn [] (by simp only [go_sem, seval, ae_, ad_, T2_, T1_, af_]; rfl) ?_ ?_))
 ·(first | trivial | (simp; done) | (simp [b1_, List.forall_mem_append, bi_]; done))
 refine .block (.seq (.rgn [] (by simp only [go_sem, seval, ae_, ad_, T2_, T1_, af_]; rfl) ?_ ?_))
 ·(first | trivial | (simp; done) | (simp [b1_, List.forall_mem_append, bi_]; done))
 refine .condB (by simp only [go_sem, seval, ae_, ad_, T2_, T1_, af_]; rfl) (by simp only [go_sem, seval, ae_, ad_, T2_, T1_, af_]) (fun h7 => ?_) (fun h7 => ?_)
 ·refine .seq (.rgnD [bu_ [13] [31] (W (.inl (by simpa using h7)))] enM (by simp only [go_sem, seval, ae_, ad_, T2_, T1_, af_, ah_, ap_]; rfl) (by rfl) ?_ ?_)
  ·have q := h1 (.inl (by simpa using h7)); have q2 := (gk_ q 0 0); have q3 : src s.expr 0 0 ≠ [] := (fun e => by have := (ce_ q 0).1; rw [← io_ s.expr 0 0, e] at this; simp at this); simp [b1_, bi_, q3, ew_]; omega
  refine .frz 32 (by simp only [go_sem, seval, ae_, ad_, T2_, T1_, af_]; rfl) (by simp only [go_sem, seval, ae_, ad_, T2_, T1_, af_]) (by simp only [go_sem, seval, ae_, ad_, T2_, T1_, af_]; rfl) (by simp only [go_sem, seval, ae_, ad_, T2_, T1_, af_]; rfl) ?_
  refine .ret ⟨.inr rfl, ?_⟩
  exact Out.plain (by simp only [Tryz.results87]; rfl) (by simp only [a1_, a9_, go_sem, seval, ae_, ad_, T2_, T1_, af_] <;> (split <;> rfl)) (by simp only [a8_, go_sem, seval, ae_, ad_, T2_, T1_, af_] <;> (have k : s.kind = 1 := (by simpa using h7); rw [if_pos (by omega), T1_ (by simp [ae_]; omega)]; simp [dh_, k, wdR, peel, wEq, hr_, hd_])) (by simp only [go_sem, seval, ae_, ad_, T2_, T1_, af_])
 ·refine .seq (.rgn [] (by simp only [go_sem, seval, ae_, ad_, T2_, T1_, af_]; rfl) ?_ ?_)
  ·(first | trivial | (simp; done) | (simp [b1_, List.forall_mem_append, bi_]; done))
  refine .condB (by simp only [go_sem, seval, ae_, ad_, T2_, T1_, af_]; rfl) (by simp only [go_sem, seval, ae_, ad_, T2_, T1_, af_]) (fun h23 => ?_) (fun h23 => ?_)
  ·refine .seq (.rgn [bu_ [13] [39] (W (.inr (.inl (by simpa using h23))))] (by simp only [go_sem, seval, ae_, ad_, T2_, T1_, af_, ah_, ap_]; rfl) ?_ ?_)
   ·have q := h1 (.inr (.inl (by simpa using h23))); have q2 := (gk_ q 0 0); have q3 : src s.expr 0 0 ≠ [] := (fun e => by have := (ce_ q 0).1; rw [← io_ s.expr 0 0, e] at this; simp at this); simp [b1_, bi_, q3, ew_]; omega
   refine .frz 40 (by simp only [go_sem, seval, ae_, ad_, T2_, T1_, af_]; rfl) (by simp only [go_sem, seval, ae_, ad_, T2_, T1_, af_]) (by simp only [go_sem, seval, ae_, ad_, T2_, T1_, af_]; rfl) (by simp only [go_sem, seval, ae_, ad_, T2_, T1_, af_]; rfl) ?_
   refine .ret ⟨.inr rfl, ?_⟩
   exact Out.plain (by simp only [Tryz.results87]; rfl) (by simp only [a1_, a9_, go_sem, seval, ae_, ad_, T2_, T1_, af_] <;> (split <;> rfl)) (by simp only [a8_, go_sem, seval, ae_, ad_, T2_, T1_, af_] <;> (have k : s.kind = 2 := (by simpa using h23); rw [if_pos (by omega), T1_ (by simp [ae_]; omega)]; simp [dh_, k, wdR, peel, br_])) (by simp only [go_sem, seval, ae_, ad_, T2_, T1_, af_])
  ·refine .seq (.rgn [] (by simp only [go_sem, seval, ae_, ad_, T2_, T1_, af_]; rfl) ?_ ?_)
   ·(first | trivial | (simp; done) | (simp [b1_, List.forall_mem_append, bi_]; done))
   refine .condB (by simp only [go_sem, seval, ae_, ad_, T2_, T1_, af_]; rfl) (by simp only [go_sem, seval, ae_, ad_, T2_, T1_, af_]) (fun h31 => ?_) (fun h31 => ?_)
   ·refine .seq (.rgn [bu_ [13] [47] (W (.inr (.inr (by simpa using h31))))] (by simp only [go_sem, seval, ae_, ad_, T2_, T1_, af_, ah_, ap_]; rfl) ?_ ?_)
    ·have q := h1 (.inr (.inr (by simpa using h31))); have q2 := (gk_ q 0 0); have q3 : src s.expr 0 0 ≠ [] := (fun e => by have := (ce_ q 0).1; rw [← io_ s.expr 0 0, e] at this; simp at this); simp [b1_, bi_, q3, ew_]; omega
    refine .seq (.rgn [] (by simp only [go_sem, seval, ae_, ad_, T2_, T1_, af_]; rfl) ?_ ?_)
    ·have q := h1 (.inr (.inr (by simpa using h31))); have q2 := (gk_ q 0 0); simp [b1_, bi_]; omega
    refine .seq (.rgn [bu_ [13] [56] (W3 (by simpa using h31))] (by simp only [go_sem, seval, ae_, ad_, T2_, T1_, af_, ah_, ap_]; rfl) ?_ ?_)
    ·have q := h1 (.inr (.inr (by simpa using h31))); have q2 := (gk_ q 0 0); have q4 := gk_ (h2 (by simpa using h31)) 0 (0 + cnt s.expr); simp at q4; simp [b1_, bi_]; omega
    refine .frz 57 (by simp only [go_sem, seval, ae_, ad_, T2_, T1_, af_]; rfl) (by simp only [go_sem, seval, ae_, ad_, T2_, T1_, af_]) (by simp only [go_sem, seval, ae_, ad_, T2_, T1_, af_]; rfl) (by simp only [go_sem, seval, ae_, ad_, T2_, T1_, af_]; rfl) ?_
    refine .ret ⟨.inr rfl, ?_⟩
    exact Out.plain (by simp only [Tryz.results87]; rfl) (by simp only [a1_, a9_, go_sem, seval, ae_, ad_, T2_, T1_, af_] <;> (split <;> rfl)) (by simp only [a8_, go_sem, seval, ae_, ad_, T2_, T1_, af_] <;> (have k : s.kind = 3 := (by simpa using h31); rw [if_pos (by omega), T1_ (by simp [ae_]; omega)]; simp [dh_, k, wdR, peel, br_, dg_])) (by simp only [go_sem, seval, ae_, ad_, T2_, T1_, af_])
   ·refine .skip (.seq (.rgn [] (by simp only [go_sem, seval, ae_, ad_, T2_, T1_, af_]; rfl) ?_ ?_))
    ·(first | trivial | (simp; done) | (simp [b1_, List.forall_mem_append, bi_]; done))
    refine .can (Can.slotLe 2 (.sl false []) (by simp only [go_sem, seval, ae_, ad_, T2_, T1_, af_] <;> trivial) (by simp only [go_sem, seval, ae_, ad_, T2_, T1_, af_] <;> rfl)) ?_
    refine .ret ⟨.inr rfl, ?_⟩
    exact Out.plain (by simp only [Tryz.results87]; rfl) (by simp only [a1_, a9_, go_sem, seval, ae_, ad_, T2_, T1_, af_] <;> (split <;> rfl)) (by simp only [a8_, go_sem, seval, ae_, ad_, T2_, T1_, af_] <;> (have k : s.kind = 0 := (by simp_all); simp [dh_, k, wdR])) (by simp only [go_sem, seval, ae_, ad_, T2_, T1_, af_])
theorem lt_ {s : Sl} (h : co_ s = true) : (bw_ (sw' s)).length ≤ 1000 := by
 have := lm_ h
 have h2 := om_ (fun s hs => (this.2 s hs).2)
 omega
theorem sr_ (s : Sl) (h : co_ s = true) (hs : d6_ s = true) : ACall En 118 [.ag (sC s)] [] [.s (bw_ (sw' s))] [] := by
 have h1 := lt_ h
 have h2 := (lm_ h).1
 have h3 := nu_ h
 have h4 : (dh_ s).length = (sw' s).length := by rw [← h3, List.length_map]
 refine aj_ (fn := Tryz.f118) [] Tryz.func118 rfl rfl (by simp) fun C => ?_
 rw [a0_]
 simp only [Tryz.ntmps118, T7_, List.length_nil, Nat.reduceAdd, Nat.reduceSub, List.replicate_succ, List.replicate_zero, List.cons_append, List.nil_append, bq_]
 refine .seq (.rgn [] (by simp only [go_sem, seval, af_, ad_, h3]; rfl) ?_ ?_)
 ·simp
 refine .seq (.rgn [a5_ (vf_ s h hs), a5_ (ix_ (dh_ s) (by omega)), a5_ (ls_ (sw' s) (by omega) (by omega))] (by simp only [go_sem, seval, af_, ad_, h3]; rfl) ?_ ?_)
 ·simp
 refine .ret ⟨.inr rfl, ?_⟩
 exact Out.plain (by simp only [Tryz.results118]; rfl) (by simp only [a1_, a9_, go_sem, seval, af_, ad_, h3] <;> (split <;> rfl)) (by simp only [a8_, go_sem, seval, af_, ad_, h3] <;> (rfl)) (by simp only [go_sem, seval, af_, ad_, h3])
theorem l6_ (s : Sl) (hs : d6_ s = true) : ACall En 80 [.ag (sC s)] [] [.b (sok s)] [] := by
 obtain ⟨s1, s1', s2, s3⟩ := f6_ hs
 refine aj_ (fn := Tryz.f80) [] Tryz.func80 rfl rfl (by simp) fun C => ?_
 rw [a0_]
 simp only [Tryz.ntmps80, T7_, List.length_nil, Nat.reduceAdd, Nat.reduceSub, List.replicate_succ, List.replicate_zero, List.cons_append, List.nil_append, bq_]
 refine .seq (.rgn [] (by simp only [go_sem, seval, af_]; rfl) ?_ ?_)
 ·(first | trivial | (simp; done) | exact hJ.symm)
 refine .seq (.rgn [] (by simp only [go_sem, seval, af_]; rfl) ?_ ?_)
 ·(first | trivial | (simp; done) | exact hJ.symm)
 refine .seqJ (fun q : Bool => ⟨[.no, .pt 11 11 0 0, .no, .b q, .no, .no, .no, .no, .no, .no, .no, .no, .no, .no, .no, .no, .no, .no, .no, .no, .no, .no, .no, .no, .no, .no, .no, .no, .no, .no, .no, .no, .no, .no, .no, .no, .no, .no, .no, .no, .no, .no, .no, .no, .no, .no, .no, .no, .no, .no, .no, .no, .no, .no, .no, .no, .no, .no, .no, .no, .no, .no, .no, .no, .no, .no, .no, .no, .no, .no, .no, .no, .no, .no, .no, .no, .no, .no, .no, .no, .no, .no, .no, .no, .no, .no, .no, .no, .no, .no, .no, .no, .no], bg_ [(11, ⟨66, 11, [sC s]⟩)], us [11]⟩) (fun q : Bool => q = co_ s) ?_ (fun q hJ => ?_)
 ·refine .seq (.rgn [] (by simp only [go_sem, seval, af_]; rfl) ?_ ?_)
  ·(first | trivial | (simp; done) | exact hJ.symm)
  refine .block (.seq (.rgn [] (by simp only [go_sem, seval, af_]; rfl) ?_ ?_))
  ·(first | trivial | (simp; done) | exact hJ.symm)
  refine .condB (by simp only [go_sem, seval, af_]; rfl) (by simp only [go_sem, seval, af_]) (fun h6 => ?_) (fun h6 => ?_)
  ·refine .rgn [a5_ (jo_ s.expr s2), a5_ (jo_ s.thn s3)] (by simp only [go_sem, seval, af_]; rfl) ?_ ?_
   ·(first | trivial | (simp; done) | exact hJ.symm)
   refine Exists.intro (co_ s) ⟨?_, ?_⟩
   ·rfl
   exact Can.weak (Weak.lit (by simp only [go_sem, seval, af_, av_, leV, at_, au_, V.inn, us, T9_, Ta_] <;> ((unfold co_; simp_all))) (by simp only [go_sem, seval, af_, av_, leV, at_, au_, V.inn, us, T9_, Ta_]) (by simp only [go_sem, seval, af_, av_, leV, at_, au_, V.inn, us, T9_, Ta_]))
  ·refine .seq (.rgn [] (by simp only [go_sem, seval, af_]; rfl) ?_ ?_)
   ·(first | trivial | (simp; done) | exact hJ.symm)
   refine .condB (by simp only [go_sem, seval, af_]; rfl) (by simp only [go_sem, seval, af_]) (fun h26 => ?_) (fun h26 => ?_)
   ·refine .rgn [a5_ (pz_ s.name s1), a5_ (uk_ s.type), a5_ (gv_ s.expr s2), a5_ (jo_ s.thn s3)] (by simp only [go_sem, seval, af_]; rfl) ?_ ?_
    ·(first | trivial | (simp; done) | exact hJ.symm)
    refine Exists.intro (co_ s) ⟨?_, ?_⟩
    ·rfl
    exact Can.weak (Weak.lit (by simp only [go_sem, seval, af_, av_, leV, at_, au_, V.inn, us, T9_, Ta_] <;> ((unfold co_; simp_all))) (by simp only [go_sem, seval, af_, av_, leV, at_, au_, V.inn, us, T9_, Ta_]) (by simp only [go_sem, seval, af_, av_, leV, at_, au_, V.inn, us, T9_, Ta_]))
   ·refine .seq (.rgn [] (by simp only [go_sem, seval, af_]; rfl) ?_ ?_)
    ·(first | trivial | (simp; done) | exact hJ.symm)
    refine .condB (by simp only [go_sem, seval, af_]; rfl) (by simp only [go_sem, seval, af_]) (fun h46 => ?_) (fun h46 => ?_)
    ·refine .rgn [a5_ (gv_ s.expr s2), a5_ (jo_ s.thn s3)] (by simp only [go_sem, seval, af_]; rfl) ?_ ?_
     ·(first | trivial | (simp; done) | exact hJ.symm)
     refine Exists.intro (co_ s) ⟨?_, ?_⟩
     ·rfl
     exact Can.weak (Weak.lit (by simp only [go_sem, seval, af_, av_, leV, at_, au_, V.inn, us, T9_, Ta_] <;> ((unfold co_; simp_all))) (by simp only [go_sem, seval, af_, av_, leV, at_, au_, V.inn, us, T9_, Ta_]) (by simp only [go_sem, seval, af_, av_, leV, at_, au_, V.inn, us, T9_, Ta_]))
    ·refine .seq (.rgn [] (by simp only [go_sem, seval, af_]; rfl) ?_ ?_)
     ·(first | trivial | (simp; done) | exact hJ.symm)
     refine .condB (by simp only [go_sem, seval, af_]; rfl) (by simp only [go_sem, seval, af_]) (fun h66 => ?_) (fun h66 => ?_)
     ·refine .rgn [a5_ (gv_ s.expr s2), a5_ (gv_ s.thn s3)] (by simp only [go_sem, seval, af_]; rfl) ?_ ?_
      ·(first | trivial | (simp; done) | exact hJ.symm)
      refine Exists.intro (co_ s) ⟨?_, ?_⟩
      ·rfl
      exact Can.weak (Weak.lit (by simp only [go_sem, seval, af_, av_, leV, at_, au_, V.inn, us, T9_, Ta_] <;> ((unfold co_; simp_all))) (by simp only [go_sem, seval, af_, av_, leV, at_, au_, V.inn, us, T9_, Ta_]) (by simp only [go_sem, seval, af_, av_, leV, at_, au_, V.inn, us, T9_, Ta_]))
     ·refine .skip ?_
      refine Exists.intro (co_ s) ⟨?_, ?_⟩
      ·rfl
      exact Can.weak (Weak.lit (by simp only [go_sem, seval, af_, av_, leV, at_, au_, V.inn, us, T9_, Ta_] <;> ((unfold co_; simp_all))) (by simp only [go_sem, seval, af_, av_, leV, at_, au_, V.inn, us, T9_, Ta_]) (by simp only [go_sem, seval, af_, av_, leV, at_, au_, V.inn, us, T9_, Ta_]))
 cases q
 ·refine .seq (.rgn [cf_ (co_ s = true) (fun h => sr_ s h hs)] (by simp only [go_sem, seval, af_]; rfl) ?_ ?_)
  ·(first | trivial | (simp; done) | exact hJ.symm)
  refine .ret ⟨.inr rfl, ?_⟩
  exact Out.plain (by simp only [Tryz.results80]; rfl) (by simp only [a1_, a9_, go_sem, seval, af_] <;> (split <;> rfl)) (by simp only [a8_, go_sem, seval, af_] <;> (rw [sok, ← hJ]; first | rfl | (rw [Bool.true_and, hv_]; rfl))) (by simp only [go_sem, seval, af_])
 ·refine .seq (.rgn [cf_ (co_ s = true) (fun h => sr_ s h hs)] (by simp only [go_sem, seval, af_]; rfl) ?_ ?_)
  ·(first | trivial | (simp; done) | exact hJ.symm)
  refine .ret ⟨.inr rfl, ?_⟩
  exact Out.plain (by simp only [Tryz.results80]; rfl) (by simp only [a1_, a9_, go_sem, seval, af_] <;> (split <;> rfl)) (by simp only [a8_, go_sem, seval, af_] <;> (rw [sok, ← hJ]; first | rfl | (rw [Bool.true_and, hv_]; rfl))) (by simp only [go_sem, seval, af_])
theorem de_ {s : Sl} (h : sok s = true) : co_ s = true := by simp only [sok, T5_] at h; exact h.1
def d4_ (s : Sl) : Str := if sok s then bw_ (sw' s) else []
theorem vg_ (s : Sl) (hs : d6_ s = true) : ACall En 81 [.ag (sC s)] [] [.s (d4_ s)] [] := by
 refine aj_ (fn := Tryz.f81) [] Tryz.func81 rfl rfl (by simp) fun C => ?_
 rw [a0_]
 simp only [Tryz.ntmps81, T7_, List.length_nil, Nat.reduceAdd, Nat.reduceSub, List.replicate_succ, List.replicate_zero, List.cons_append, List.nil_append, bq_]
 refine .seq (.rgn [] (by simp only [go_sem, seval, af_]; rfl) ?_ ?_)
 ·first | trivial | simp
 refine .seq (.seq (.rgn [a5_ (l6_ s hs)] (by simp only [go_sem, seval, af_]; rfl) ?_ ?_))
 ·simp
 refine .condB (by simp only [go_sem, seval, af_]; rfl) (by simp only [go_sem, seval, af_]) (fun h5 => ?_) (fun h5 => ?_)
 ·refine .seq (.rgn [] (by simp only [go_sem, seval, af_]; rfl) ?_ ?_)
  ·first | trivial | simp
  refine .ret ⟨.inr rfl, ?_⟩
  exact Out.plain (by simp only [Tryz.results81]; rfl) (by simp only [a1_, a9_, go_sem, seval, af_] <;> (split <;> rfl)) (by simp only [a8_, go_sem, seval, af_] <;> (simp at h5; simp [d4_, h5])) (by simp only [go_sem, seval, af_])
 ·refine .skip (.seq (.rgn [cf_ (sok s = true) (fun h => sr_ s (de_ h) hs)] (by simp only [go_sem, seval, af_]; rfl) ?_ ?_))
  ·simpa using h5
  refine .ret ⟨.inr rfl, ?_⟩
  exact Out.plain (by simp only [Tryz.results81]; rfl) (by simp only [a1_, a9_, go_sem, seval, af_] <;> (split <;> rfl)) (by simp only [a8_, go_sem, seval, af_] <;> (simp at h5; simp [d4_, h5])) (by simp only [go_sem, seval, af_])
theorem ht_ (s : Sl) (h : co_ s = true) (hs : d6_ s = true) : ACall En 109 [.ag (sC s)] [] [.sl false (bo_ (sw' s))] [] := by
 obtain ⟨h0, h1, h2⟩ := fq_ h
 obtain ⟨s1, s1', s2, s3⟩ := f6_ hs
 have W : s.kind = 1 ∨ s.kind = 2 ∨ s.kind = 3 → _ := fun hk => ib_ 5 s.expr 1 (bs_ (h1 hk)) s2 (hp_ (h1 hk)) (by decide) (by decide)
 have W3 : s.kind = 3 → _ := fun hk => ib_ 5 s.thn 1 (bs_ (h2 hk)) s3 (hp_ (h2 hk)) (by decide) (by decide)
 refine aj_ (fn := Tryz.f109) [] Tryz.func109 rfl rfl (by simp) fun C => ?_
 rw [a0_]
 simp only [Tryz.ntmps109, T7_, List.length_nil, Nat.reduceAdd, Nat.reduceSub, List.replicate_succ, List.replicate_zero, List.cons_append, List.nil_append, bq_]
 refine .seq (.rgn [] (by simp only [go_sem, seval, ab_, aa_, T2_, T1_, af_]; rfl) ?_ ?_)
 ·(first | trivial | (simp; done) | (simp [bf_]; done))
 refine .seq (.seq (.rgn [] (by simp only [go_sem, seval, ab_, aa_, T2_, T1_, af_]; rfl) ?_ ?_))
 ·(first | trivial | (simp; done) | (simp [bf_]; done))
 refine .block (.seq (.rgn [] (by simp only [go_sem, seval, ab_, aa_, T2_, T1_, af_]; rfl) ?_ ?_))
 ·(first | trivial | (simp; done) | (simp [bf_]; done))
 refine .condB (by simp only [go_sem, seval, ab_, aa_, T2_, T1_, af_]; rfl) (by simp only [go_sem, seval, ab_, aa_, T2_, T1_, af_]) (fun h6 => ?_) (fun h6 => ?_)
 ·refine .seq (.rgnD [a5_ (W (.inl (by simpa using h6)))] enM (by simp only [go_sem, seval, ab_, aa_, T2_, T1_, af_]; rfl) (by rfl) ?_ ?_)
  ·have q := h1 (.inl (by simpa using h6)); have q2 := (ce_ q 1); have q3 := xv_ q 1; simp [b1_, bf_, q3, jk_]; omega
  refine .frz 26 (by simp only [go_sem, seval, ab_, aa_, T2_, T1_, af_]; rfl) (by simp only [go_sem, seval, ab_, aa_, T2_, T1_, af_]) (by simp only [go_sem, seval, ab_, aa_, T2_, T1_, af_]; rfl) (by simp only [go_sem, seval, ab_, aa_, T2_, T1_, af_]; rfl) ?_
  refine .ret ⟨.inr rfl, ?_⟩
  exact Out.plain (by simp only [Tryz.results109]; rfl) (by simp only [a1_, a9_, go_sem, seval, ab_, aa_, T2_, T1_, af_] <;> (split <;> rfl)) (by simp only [a8_, go_sem, seval, ab_, aa_, T2_, T1_, af_] <;> (have k : s.kind = 1 := (by simpa using h6); rw [if_pos (by omega), T1_ (by simp [ab_]; omega)]; simp [sw', k, bo_, peel, wEq, hr_, hd_])) (by simp only [go_sem, seval, ab_, aa_, T2_, T1_, af_])
 ·refine .seq (.rgn [] (by simp only [go_sem, seval, ab_, aa_, T2_, T1_, af_]; rfl) ?_ ?_)
  ·(first | trivial | (simp; done) | (simp [bf_]; done))
  refine .condB (by simp only [go_sem, seval, ab_, aa_, T2_, T1_, af_]; rfl) (by simp only [go_sem, seval, ab_, aa_, T2_, T1_, af_]) (fun h17 => ?_) (fun h17 => ?_)
  ·refine .seq (.rgn [a5_ (W (.inr (.inl (by simpa using h17))))] (by simp only [go_sem, seval, ab_, aa_, T2_, T1_, af_]; rfl) ?_ ?_)
   ·have q := h1 (.inr (.inl (by simpa using h17))); have q2 := (ce_ q 1); have q3 := xv_ q 1; simp [b1_, bf_, q3, jk_]; omega
   refine .frz 33 (by simp only [go_sem, seval, ab_, aa_, T2_, T1_, af_]; rfl) (by simp only [go_sem, seval, ab_, aa_, T2_, T1_, af_]) (by simp only [go_sem, seval, ab_, aa_, T2_, T1_, af_]; rfl) (by simp only [go_sem, seval, ab_, aa_, T2_, T1_, af_]; rfl) ?_
   refine .ret ⟨.inr rfl, ?_⟩
   exact Out.plain (by simp only [Tryz.results109]; rfl) (by simp only [a1_, a9_, go_sem, seval, ab_, aa_, T2_, T1_, af_] <;> (split <;> rfl)) (by simp only [a8_, go_sem, seval, ab_, aa_, T2_, T1_, af_] <;> (have k : s.kind = 2 := (by simpa using h17); rw [if_pos (by omega), T1_ (by simp [ab_]; omega)]; simp [sw', k, bo_, peel, br_])) (by simp only [go_sem, seval, ab_, aa_, T2_, T1_, af_])
  ·refine .seq (.rgn [] (by simp only [go_sem, seval, ab_, aa_, T2_, T1_, af_]; rfl) ?_ ?_)
   ·(first | trivial | (simp; done) | (simp [bf_]; done))
   refine .condB (by simp only [go_sem, seval, ab_, aa_, T2_, T1_, af_]; rfl) (by simp only [go_sem, seval, ab_, aa_, T2_, T1_, af_]) (fun h24 => ?_) (fun h24 => ?_)
   ·refine .seq (.rgn [a5_ (W (.inr (.inr (by simpa using h24))))] (by simp only [go_sem, seval, ab_, aa_, T2_, T1_, af_]; rfl) ?_ ?_)
    ·have q := h1 (.inr (.inr (by simpa using h24))); have q2 := (ce_ q 1); have q3 := xv_ q 1; simp [b1_, bf_, q3, jk_]; omega
    refine .seq (.rgnD [a5_ (W3 (by simpa using h24))] enM (by simp only [go_sem, seval, ab_, aa_, T2_, T1_, af_]; rfl) (by rfl) ?_ ?_)
    ·have q := h1 (.inr (.inr (by simpa using h24))); have q2 := (ce_ q 1); have q4 := ce_ (h2 (by simpa using h24)) 1; simp [b1_, bf_]; omega
    refine .frz 47 (by simp only [go_sem, seval, ab_, aa_, T2_, T1_, af_]; rfl) (by simp only [go_sem, seval, ab_, aa_, T2_, T1_, af_]) (by simp only [go_sem, seval, ab_, aa_, T2_, T1_, af_]; rfl) (by simp only [go_sem, seval, ab_, aa_, T2_, T1_, af_]; rfl) ?_
    refine .ret ⟨.inr rfl, ?_⟩
    exact Out.plain (by simp only [Tryz.results109]; rfl) (by simp only [a1_, a9_, go_sem, seval, ab_, aa_, T2_, T1_, af_] <;> (split <;> rfl)) (by simp only [a8_, go_sem, seval, ab_, aa_, T2_, T1_, af_] <;> (have k : s.kind = 3 := (by simpa using h24); rw [if_pos (by omega), T1_ (by simp [ab_]; omega)]; simp [sw', k, bo_, peel, br_, dg_])) (by simp only [go_sem, seval, ab_, aa_, T2_, T1_, af_])
   ·refine .skip (.seq (.rgn [] (by simp only [go_sem, seval, ab_, aa_, T2_, T1_, af_]; rfl) ?_ ?_))
    ·(first | trivial | (simp; done) | (simp [bf_]; done))
    refine .can (Can.slotLe 2 (.sl false []) (by simp only [go_sem, seval, ab_, aa_, T2_, T1_, af_] <;> trivial) (by simp only [go_sem, seval, ab_, aa_, T2_, T1_, af_] <;> rfl)) ?_
    refine .ret ⟨.inr rfl, ?_⟩
    exact Out.plain (by simp only [Tryz.results109]; rfl) (by simp only [a1_, a9_, go_sem, seval, ab_, aa_, T2_, T1_, af_] <;> (split <;> rfl)) (by simp only [a8_, go_sem, seval, ab_, aa_, T2_, T1_, af_] <;> (have k : s.kind = 0 := (by simp_all); simp [sw', k, bo_])) (by simp only [go_sem, seval, ab_, aa_, T2_, T1_, af_])
theorem me_ (s : Sl) (hs : d6_ s = true) : ACall En 107 [.ag (sC s)] [] [.b (sok s)] [] := by
 obtain ⟨s1, s1', s2, s3⟩ := f6_ hs
 refine aj_ (fn := Tryz.f107) [] Tryz.func107 rfl rfl (by simp) fun C => ?_
 rw [a0_]
 simp only [Tryz.ntmps107, T7_, List.length_nil, Nat.reduceAdd, Nat.reduceSub, List.replicate_succ, List.replicate_zero, List.cons_append, List.nil_append, bq_]
 refine .seq (.rgn [] (by simp only [go_sem, seval, af_, aa_]; rfl) ?_ ?_)
 ·(first | trivial | (simp; done) | exact hJ.symm | exact ⟨hJ.symm, hJ.symm⟩)
 refine .seq (.rgn [] (by simp only [go_sem, seval, af_, aa_]; rfl) ?_ ?_)
 ·(first | trivial | (simp; done) | exact hJ.symm | exact ⟨hJ.symm, hJ.symm⟩)
 refine .seqJ (fun q : Bool => ⟨[.no, .pt 11 11 0 0, .no, .b q, .no, .no, .no, .no, .no, .no, .no, .no, .no, .no, .no, .no, .no, .no, .no, .no, .no, .no, .no, .no, .no, .no, .no, .no, .no, .no, .no, .no, .no, .no, .no, .no, .no, .no, .no, .no, .no, .no, .no, .no, .no, .no, .no, .no, .no, .no, .no, .no, .no, .no, .no, .no, .no, .no, .no, .no, .no, .no, .no, .no, .no, .no, .no, .no, .no, .no, .no, .no, .no, .no, .no, .no, .no, .no, .no, .no, .no, .no, .no, .no, .no, .no, .no, .no, .no, .no, .no, .no, .no, .no], bg_ [(11, ⟨66, 11, [sC s]⟩)], us [11]⟩) (fun q : Bool => q = co_ s) ?_ (fun q hJ => ?_)
 ·refine .seq (.rgn [] (by simp only [go_sem, seval, af_, aa_]; rfl) ?_ ?_)
  ·(first | trivial | (simp; done) | exact hJ.symm | exact ⟨hJ.symm, hJ.symm⟩)
  refine .block (.seq (.rgn [] (by simp only [go_sem, seval, af_, aa_]; rfl) ?_ ?_))
  ·(first | trivial | (simp; done) | exact hJ.symm | exact ⟨hJ.symm, hJ.symm⟩)
  refine .condB (by simp only [go_sem, seval, af_, aa_]; rfl) (by simp only [go_sem, seval, af_, aa_]) (fun h6 => ?_) (fun h6 => ?_)
  ·refine .rgn [a5_ (k4_ s.expr s2), a5_ (k4_ s.thn s3)] (by simp only [go_sem, seval, af_, aa_]; rfl) ?_ ?_
   ·(first | trivial | (simp; done) | exact hJ.symm | exact ⟨hJ.symm, hJ.symm⟩)
   refine Exists.intro (co_ s) ⟨?_, ?_⟩
   ·rfl
   exact Can.weak (Weak.lit (by simp only [go_sem, seval, af_, aa_, av_, leV, at_, au_, V.inn, us, T9_, Ta_] <;> ((unfold co_; simp_all))) (by simp only [go_sem, seval, af_, aa_, av_, leV, at_, au_, V.inn, us, T9_, Ta_]) (by simp only [go_sem, seval, af_, aa_, av_, leV, at_, au_, V.inn, us, T9_, Ta_]))
  ·refine .seq (.rgn [] (by simp only [go_sem, seval, af_, aa_]; rfl) ?_ ?_)
   ·(first | trivial | (simp; done) | exact hJ.symm | exact ⟨hJ.symm, hJ.symm⟩)
   refine .condB (by simp only [go_sem, seval, af_, aa_]; rfl) (by simp only [go_sem, seval, af_, aa_]) (fun h26 => ?_) (fun h26 => ?_)
   ·refine .rgn [a5_ (n9_ s.name s1), a5_ (k8_ s.type), a5_ (gt_ s.expr s2), a5_ (k4_ s.thn s3)] (by simp only [go_sem, seval, af_, aa_]; rfl) ?_ ?_
    ·(first | trivial | (simp; done) | exact hJ.symm | exact ⟨hJ.symm, hJ.symm⟩)
    refine Exists.intro (co_ s) ⟨?_, ?_⟩
    ·rfl
    exact Can.weak (Weak.lit (by simp only [go_sem, seval, af_, aa_, av_, leV, at_, au_, V.inn, us, T9_, Ta_] <;> ((unfold co_; simp_all))) (by simp only [go_sem, seval, af_, aa_, av_, leV, at_, au_, V.inn, us, T9_, Ta_]) (by simp only [go_sem, seval, af_, aa_, av_, leV, at_, au_, V.inn, us, T9_, Ta_]))
   ·refine .seq (.rgn [] (by simp only [go_sem, seval, af_, aa_]; rfl) ?_ ?_)
    ·(first | trivial | (simp; done) | exact hJ.symm | exact ⟨hJ.symm, hJ.symm⟩)
    refine .condB (by simp only [go_sem, seval, af_, aa_]; rfl) (by simp only [go_sem, seval, af_, aa_]) (fun h46 => ?_) (fun h46 => ?_)
    ·refine .rgn [a5_ (gt_ s.expr s2), a5_ (k4_ s.thn s3)] (by simp only [go_sem, seval, af_, aa_]; rfl) ?_ ?_
     ·(first | trivial | (simp; done) | exact hJ.symm | exact ⟨hJ.symm, hJ.symm⟩)
     refine Exists.intro (co_ s) ⟨?_, ?_⟩
     ·rfl
     exact Can.weak (Weak.lit (by simp only [go_sem, seval, af_, aa_, av_, leV, at_, au_, V.inn, us, T9_, Ta_] <;> ((unfold co_; simp_all))) (by simp only [go_sem, seval, af_, aa_, av_, leV, at_, au_, V.inn, us, T9_, Ta_]) (by simp only [go_sem, seval, af_, aa_, av_, leV, at_, au_, V.inn, us, T9_, Ta_]))
    ·refine .seq (.rgn [] (by simp only [go_sem, seval, af_, aa_]; rfl) ?_ ?_)
     ·(first | trivial | (simp; done) | exact hJ.symm | exact ⟨hJ.symm, hJ.symm⟩)
     refine .condB (by simp only [go_sem, seval, af_, aa_]; rfl) (by simp only [go_sem, seval, af_, aa_]) (fun h66 => ?_) (fun h66 => ?_)
     ·refine .rgn [a5_ (gt_ s.expr s2), a5_ (gt_ s.thn s3)] (by simp only [go_sem, seval, af_, aa_]; rfl) ?_ ?_
      ·(first | trivial | (simp; done) | exact hJ.symm | exact ⟨hJ.symm, hJ.symm⟩)
      refine Exists.intro (co_ s) ⟨?_, ?_⟩
      ·rfl
      exact Can.weak (Weak.lit (by simp only [go_sem, seval, af_, aa_, av_, leV, at_, au_, V.inn, us, T9_, Ta_] <;> ((unfold co_; simp_all))) (by simp only [go_sem, seval, af_, aa_, av_, leV, at_, au_, V.inn, us, T9_, Ta_]) (by simp only [go_sem, seval, af_, aa_, av_, leV, at_, au_, V.inn, us, T9_, Ta_]))
     ·refine .skip ?_
      refine Exists.intro (co_ s) ⟨?_, ?_⟩
      ·rfl
      exact Can.weak (Weak.lit (by simp only [go_sem, seval, af_, aa_, av_, leV, at_, au_, V.inn, us, T9_, Ta_] <;> ((unfold co_; simp_all))) (by simp only [go_sem, seval, af_, aa_, av_, leV, at_, au_, V.inn, us, T9_, Ta_]) (by simp only [go_sem, seval, af_, aa_, av_, leV, at_, au_, V.inn, us, T9_, Ta_]))
 cases q
 ·refine .seq (.rgn [cf_ (co_ s = true) (fun h => ht_ s h hs), cf_ (co_ s = true) (fun h => g1_ (sw' s) (by have := (lm_ h).1; omega) (by have := lt_ h; omega))] (by simp only [go_sem, seval, af_, aa_]; rfl) ?_ ?_)
  ·(first | trivial | (simp; done) | exact hJ.symm | exact ⟨hJ.symm, hJ.symm⟩)
  refine .ret ⟨.inr rfl, ?_⟩
  exact Out.plain (by simp only [Tryz.results107]; rfl) (by simp only [a1_, a9_, go_sem, seval, af_, aa_] <;> (split <;> rfl)) (by simp only [a8_, go_sem, seval, af_, aa_] <;> (rw [sok, ← hJ]; first | rfl | (rw [Bool.true_and, hv_]; rfl))) (by simp only [go_sem, seval, af_, aa_])
 ·refine .seq (.rgn [cf_ (co_ s = true) (fun h => ht_ s h hs), cf_ (co_ s = true) (fun h => g1_ (sw' s) (by have := (lm_ h).1; omega) (by have := lt_ h; omega))] (by simp only [go_sem, seval, af_, aa_]; rfl) ?_ ?_)
  ·(first | trivial | (simp; done) | exact hJ.symm | exact ⟨hJ.symm, hJ.symm⟩)
  refine .ret ⟨.inr rfl, ?_⟩
  exact Out.plain (by simp only [Tryz.results107]; rfl) (by simp only [a1_, a9_, go_sem, seval, af_, aa_] <;> (split <;> rfl)) (by simp only [a8_, go_sem, seval, af_, aa_] <;> (rw [sok, ← hJ]; first | rfl | (rw [Bool.true_and, hv_]; rfl))) (by simp only [go_sem, seval, af_, aa_])
end
section
set_option maxRecDepth 100000
set_option maxHeartbeats 4000000
theorem zu_ {s : Sl} (h : co_ s = true) : wf s.expr = true ∧ wf s.thn = true := by
 unfold co_ at h
 by_cases k0 : s.kind = 0
 ·simp [k0, dc_] at h; rw [h.1.2, h.2]; exact ⟨m3_, m3_⟩
 by_cases k1 : s.kind = 1
 ·simp [k1, dc_] at h; rw [h.2]; exact ⟨it_ h.1.2, m3_⟩
 by_cases k2 : s.kind = 2
 ·simp [k2, dc_] at h; rw [h.2]; exact ⟨it_ h.1.2, m3_⟩
 by_cases k3 : s.kind = 3
 ·simp [k3] at h; exact ⟨it_ h.1.2, it_ h.2⟩
 ·simp [k0, k1, k2, k3] at h
theorem acd_ (s : Sl) (hs : d6_ s = true) (w1 : wf s.expr = true) (w2 : wf s.thn = true) : ACall En 89 [.ag (sC s)] [] [.ag (bC (bof s))] [] := by
 obtain ⟨s1, s2, s3, s4⟩ := f6_ hs
 refine aj_ (fn := Tryz.f89) [] Tryz.func89 rfl rfl (by simp) fun C => ?_
 rw [a0_]
 simp only [Tryz.ntmps89, T7_, List.length_nil, Nat.reduceAdd, Nat.reduceSub, List.replicate_succ, List.replicate_zero, List.cons_append, List.nil_append, bq_]
 refine .seq (.rgn [] (by simp only [go_sem, seval, af_, bn_]; rfl) ?_ ?_)
 ·first | trivial | simp
 refine .seq (.rgn [] (by simp only [go_sem, seval, af_, bn_]; rfl) ?_ ?_)
 ·first | trivial | simp
 refine .seq (.seq (.rgn [] (by simp only [go_sem, seval, af_, bn_]; rfl) ?_ ?_))
 ·first | trivial | simp
 refine .condB (by simp only [go_sem, seval, af_, bn_]; rfl) (by simp only [go_sem, seval, af_, bn_]) (fun h11 => ?_) (fun h11 => ?_)
 ·refine .rgn [a5_ (r8_ s.expr w1 s3)] (by simp only [go_sem, seval, af_, bn_]; rfl) ?_ ?_
  ·first | trivial | simp
  refine .seq (.seq (.rgn [] (by simp only [go_sem, seval, af_, bn_]; rfl) ?_ ?_))
  ·first | trivial | simp
  refine .condB (by simp only [go_sem, seval, af_, bn_]; rfl) (by simp only [go_sem, seval, af_, bn_]) (fun h18 => ?_) (fun h18 => ?_)
  ·refine .rgn [a5_ (r8_ s.thn w2 s4)] (by simp only [go_sem, seval, af_, bn_]; rfl) ?_ ?_
   ·first | trivial | simp
   refine .seq (.rgn [] (by simp only [go_sem, seval, af_, bn_]; rfl) ?_ ?_)
   ·first | trivial | simp
   refine .ret ⟨.inr rfl, ?_⟩
   exact Out.plainL (by simp only [Tryz.results89]; rfl) (by simp only [a1_, a9_, go_sem, seval, af_, bn_] <;> (split <;> rfl)) (by simp only [a8_, go_sem, seval, af_, bn_] <;> (simp at h11 h18; simp [bof, h11, h18, bn_, ir_, ij_, iq_, c9_, dx_, ler, be_])) (by simp only [go_sem, seval, af_, bn_])
  ·refine .skip (.seq (.rgn [] (by simp only [go_sem, seval, af_, bn_]; rfl) ?_ ?_))
   ·first | trivial | simp
   refine .ret ⟨.inr rfl, ?_⟩
   exact Out.plainL (by simp only [Tryz.results89]; rfl) (by simp only [a1_, a9_, go_sem, seval, af_, bn_] <;> (split <;> rfl)) (by simp only [a8_, go_sem, seval, af_, bn_] <;> (simp at h11 h18; simp [bof, h11, h18, bn_, ir_, ij_, iq_, c9_, dx_, ler, be_])) (by simp only [go_sem, seval, af_, bn_])
 ·refine .skip (.seq (.seq (.rgn [] (by simp only [go_sem, seval, af_, bn_]; rfl) ?_ ?_)))
  ·first | trivial | simp
  refine .condB (by simp only [go_sem, seval, af_, bn_]; rfl) (by simp only [go_sem, seval, af_, bn_]) (fun h18 => ?_) (fun h18 => ?_)
  ·refine .rgn [a5_ (r8_ s.thn w2 s4)] (by simp only [go_sem, seval, af_, bn_]; rfl) ?_ ?_
   ·first | trivial | simp
   refine .seq (.rgn [] (by simp only [go_sem, seval, af_, bn_]; rfl) ?_ ?_)
   ·first | trivial | simp
   refine .ret ⟨.inr rfl, ?_⟩
   exact Out.plainL (by simp only [Tryz.results89]; rfl) (by simp only [a1_, a9_, go_sem, seval, af_, bn_] <;> (split <;> rfl)) (by simp only [a8_, go_sem, seval, af_, bn_] <;> (simp at h11 h18; omega)) (by simp only [go_sem, seval, af_, bn_])
  ·refine .skip (.seq (.rgn [] (by simp only [go_sem, seval, af_, bn_]; rfl) ?_ ?_))
   ·first | trivial | simp
   refine .ret ⟨.inr rfl, ?_⟩
   exact Out.plainL (by simp only [Tryz.results89]; rfl) (by simp only [a1_, a9_, go_sem, seval, af_, bn_] <;> (split <;> rfl)) (by simp only [a8_, go_sem, seval, af_, bn_] <;> (simp at h11 h18; simp [bof, h11, h18, bn_, ir_, ij_, iq_, c9_, dx_, ler, be_])) (by simp only [go_sem, seval, af_, bn_])
end
section
set_option maxRecDepth 100000
set_option maxHeartbeats 4000000
def iv_ (b : Str) (q k : Int) (x : Sl) : Sl × Int :=
 if k = 0 then ({ x with kind := tl_ b q [0, 4, 1, 2, 3] }, q + 1)
 else if k = 1 then ({ x with name := ofI b q [[120], [108, 101, 116], [88], []] }, q + 1)
 else if k = 2 then ({ x with type := ofI b q [[105, 110, 116], [116, 101, 120, 116], []] }, q + 1)
 else if k = 3 then ({ x with thn := (gf_ b q).1 }, (gf_ b q).2)
 else (x, q)
def dl5 (b : Str) (p : Int) : Sl × Int := iv_ b ((b9_ b p).2 + 1) (bx_ b (b9_ b p).2 40) (b9_ b p).1
theorem afy_ (b : Str) {p : Int} (hp : 0 ≤ p) (hp2 : p < 100000000) : p ≤ (dl5 b p).2 ∧ (dl5 b p).2 ≤ p + 700 ∧ d6_ (dl5 b p).1 = true := by
 obtain ⟨h1, h2, h3, _⟩ := k2_ b hp hp2
 obtain ⟨s1, s2, s3, s4⟩ := f6_ h3
 have hB := ahm_ b (p := (b9_ b p).2 + 1) (by omega) (by omega)
 unfold dl5 iv_
 split
 ·exact ⟨by dsimp only; omega, by dsimp only; omega, h3⟩
 ·split
  ·have l1 := g8_ (b := b) (p := (b9_ b p).2 + 1) (l := [[120], [108, 101, 116], [88], []]) (by decide) (by omega) (by omega) 5 (by decide)
   refine ⟨by dsimp only; omega, by dsimp only; omega, ?_⟩
   simp only [d6_, s2, s3, s4, decide_true, Bool.and_true, T3_]; omega
  ·split
   ·have l1 := g8_ (b := b) (p := (b9_ b p).2 + 1) (l := [[105, 110, 116], [116, 101, 120, 116], []]) (by decide) (by omega) (by omega) 5 (by decide)
    refine ⟨by dsimp only; omega, by dsimp only; omega, ?_⟩
    simp only [d6_, s1, s3, s4, decide_true, Bool.and_true, Bool.true_and, T3_]; omega
   ·split
    ·refine ⟨by dsimp only; omega, by dsimp only; omega, ?_⟩
     simp only [d6_, s1, s2, s3, hB.2.2, decide_true, Bool.and_true]
    ·exact ⟨by dsimp only; omega, by dsimp only; omega, h3⟩
theorem tk_ (b : Str) (p : Int) (hb : b.length ≤ 2000) (hp : 0 ≤ p) (hp2 : p < 100000000) : ACall En 130 [.pt 0 2 0 0] [rdB b p] [.ag (sC (dl5 b p).1)] [rdB b (dl5 b p).2] := by
 obtain ⟨h1, h2, h3, w1, w2, _⟩ := k2_ b hp hp2
 refine aj_ (fn := Tryz.f130) [0] Tryz.func130 rfl rfl (by simp) fun C => ?_
 rw [a0_]
 simp only [Tryz.ntmps130, T7_, List.length_nil, Nat.reduceAdd, Nat.reduceSub, List.replicate_succ, List.replicate_zero, List.cons_append, List.nil_append, bq_]
 refine .seq (.rgn [] (by simp only [go_sem, seval, ah_, ap_, ay_, ar_, al_, ak_, af_]; rfl) ?_ ?_)
 ·first | trivial | simp
 refine .seq (.rgn [bu_ [0] [] (uo_ b p hb hp hp2)] (by simp only [go_sem, seval, ah_, ap_, ay_, ar_, al_, ak_, af_]; rfl) ?_ ?_)
 ·first | trivial | simp
 refine .seq (.seq (.rgn [bu_ [0] [] (d5_ b (b9_ b p).2 40 hb (by omega) (by omega))] (by simp only [go_sem, seval, ah_, ap_, ay_, ar_, al_, ak_, af_]; rfl) ?_ ?_))
 ·first | trivial | simp
 refine .block (.seq (.rgn [] (by simp only [go_sem, seval, ah_, ap_, ay_, ar_, al_, ak_, af_]; rfl) ?_ ?_))
 ·first | trivial | simp
 refine .condB (by simp only [go_sem, seval, ah_, ap_, ay_, ar_, al_, ak_, af_]; rfl) (by simp only [go_sem, seval, ah_, ap_, ay_, ar_, al_, ak_, af_]) (fun h8 => ?_) (fun h8 => ?_)
 ·refine .rgn [bu_ [0] [] (rq_ b ((b9_ b p).2 + 1) [0, 4, 1, 2, 3] (by decide) hb (by omega) (by omega))] (by simp only [go_sem, seval, ah_, ap_, ay_, ar_, al_, ak_, af_]; rfl) ?_ ?_
  ·first | trivial | simp
  refine .seq (.rgn [] (by simp only [go_sem, seval, ah_, ap_, ay_, ar_, al_, ak_, af_]; rfl) ?_ ?_)
  ·first | trivial | simp
  refine .ret ⟨.inr rfl, ?_⟩
  exact Out.mem' (by simp only [Tryz.results130]; rfl) (by simp only [a1_, a9_, go_sem, seval, ah_, ap_, ay_, ar_, al_, ak_, af_]) (by simp only [a8_, rns, rn, go_sem, seval, ah_, ap_, ay_, ar_, al_, ak_, af_] <;> (simp at h8; simp [dl5, iv_, h8])) (by simp) rfl (by decide) (by simp only [go_sem, seval, ah_, ap_, ay_, ar_, al_, ak_, af_]) (by simp only [ap_, go_sem, seval, ah_, ap_, ay_, ar_, al_, ak_, af_]) (by simp only [ah_, go_sem, seval, ah_, ap_, ay_, ar_, al_, ak_, af_] <;> (simp at h8; simp [dl5, iv_, h8]))
 ·refine .seq (.rgn [] (by simp only [go_sem, seval, ah_, ap_, ay_, ar_, al_, ak_, af_]; rfl) ?_ ?_)
  ·first | trivial | simp
  refine .condB (by simp only [go_sem, seval, ah_, ap_, ay_, ar_, al_, ak_, af_]; rfl) (by simp only [go_sem, seval, ah_, ap_, ay_, ar_, al_, ak_, af_]) (fun h14 => ?_) (fun h14 => ?_)
  ·refine .rgn [bu_ [0] [] (p6_ b ((b9_ b p).2 + 1) [[120], [108, 101, 116], [88], []] (by decide) hb (by omega) (by omega))] (by simp only [go_sem, seval, ah_, ap_, ay_, ar_, al_, ak_, af_]; rfl) ?_ ?_
   ·first | trivial | simp
   refine .seq (.rgn [] (by simp only [go_sem, seval, ah_, ap_, ay_, ar_, al_, ak_, af_]; rfl) ?_ ?_)
   ·first | trivial | simp
   refine .ret ⟨.inr rfl, ?_⟩
   exact Out.mem' (by simp only [Tryz.results130]; rfl) (by simp only [a1_, a9_, go_sem, seval, ah_, ap_, ay_, ar_, al_, ak_, af_]) (by simp only [a8_, rns, rn, go_sem, seval, ah_, ap_, ay_, ar_, al_, ak_, af_] <;> (simp at h8 h14; simp [dl5, iv_, h8, h14])) (by simp) rfl (by decide) (by simp only [go_sem, seval, ah_, ap_, ay_, ar_, al_, ak_, af_]) (by simp only [ap_, go_sem, seval, ah_, ap_, ay_, ar_, al_, ak_, af_]) (by simp only [ah_, go_sem, seval, ah_, ap_, ay_, ar_, al_, ak_, af_] <;> (simp at h8 h14; simp [dl5, iv_, h8, h14]))
  ·refine .seq (.rgn [] (by simp only [go_sem, seval, ah_, ap_, ay_, ar_, al_, ak_, af_]; rfl) ?_ ?_)
   ·first | trivial | simp
   refine .condB (by simp only [go_sem, seval, ah_, ap_, ay_, ar_, al_, ak_, af_]; rfl) (by simp only [go_sem, seval, ah_, ap_, ay_, ar_, al_, ak_, af_]) (fun h20 => ?_) (fun h20 => ?_)
   ·refine .rgn [bu_ [0] [] (p6_ b ((b9_ b p).2 + 1) [[105, 110, 116], [116, 101, 120, 116], []] (by decide) hb (by omega) (by omega))] (by simp only [go_sem, seval, ah_, ap_, ay_, ar_, al_, ak_, af_]; rfl) ?_ ?_
    ·first | trivial | simp
    refine .seq (.rgn [] (by simp only [go_sem, seval, ah_, ap_, ay_, ar_, al_, ak_, af_]; rfl) ?_ ?_)
    ·first | trivial | simp
    refine .ret ⟨.inr rfl, ?_⟩
    exact Out.mem' (by simp only [Tryz.results130]; rfl) (by simp only [a1_, a9_, go_sem, seval, ah_, ap_, ay_, ar_, al_, ak_, af_]) (by simp only [a8_, rns, rn, go_sem, seval, ah_, ap_, ay_, ar_, al_, ak_, af_] <;> (simp at h8 h14 h20; simp [dl5, iv_, h8, h14, h20])) (by simp) rfl (by decide) (by simp only [go_sem, seval, ah_, ap_, ay_, ar_, al_, ak_, af_]) (by simp only [ap_, go_sem, seval, ah_, ap_, ay_, ar_, al_, ak_, af_]) (by simp only [ah_, go_sem, seval, ah_, ap_, ay_, ar_, al_, ak_, af_] <;> (simp at h8 h14 h20; simp [dl5, iv_, h8, h14, h20]))
   ·refine .seq (.rgn [] (by simp only [go_sem, seval, ah_, ap_, ay_, ar_, al_, ak_, af_]; rfl) ?_ ?_)
    ·first | trivial | simp
    refine .condB (by simp only [go_sem, seval, ah_, ap_, ay_, ar_, al_, ak_, af_]; rfl) (by simp only [go_sem, seval, ah_, ap_, ay_, ar_, al_, ak_, af_]) (fun h26 => ?_) (fun h26 => ?_)
    ·refine .rgn [bu_ [0] [] (acp_ b ((b9_ b p).2 + 1) hb (by omega) (by omega))] (by simp only [go_sem, seval, ah_, ap_, ay_, ar_, al_, ak_, af_]; rfl) ?_ ?_
     ·first | trivial | simp
     refine .seq (.rgn [] (by simp only [go_sem, seval, ah_, ap_, ay_, ar_, al_, ak_, af_]; rfl) ?_ ?_)
     ·first | trivial | simp
     refine .ret ⟨.inr rfl, ?_⟩
     exact Out.mem' (by simp only [Tryz.results130]; rfl) (by simp only [a1_, a9_, go_sem, seval, ah_, ap_, ay_, ar_, al_, ak_, af_]) (by simp only [a8_, rns, rn, go_sem, seval, ah_, ap_, ay_, ar_, al_, ak_, af_] <;> (simp at h8 h14 h20 h26; simp [dl5, iv_, h8, h14, h20, h26])) (by simp) rfl (by decide) (by simp only [go_sem, seval, ah_, ap_, ay_, ar_, al_, ak_, af_]) (by simp only [ap_, go_sem, seval, ah_, ap_, ay_, ar_, al_, ak_, af_]) (by simp only [ah_, go_sem, seval, ah_, ap_, ay_, ar_, al_, ak_, af_] <;> (simp at h8 h14 h20 h26; simp [dl5, iv_, h8, h14, h20, h26]))
    ·refine .skip (.seq (.rgn [] (by simp only [go_sem, seval, ah_, ap_, ay_, ar_, al_, ak_, af_]; rfl) ?_ ?_))
     ·first | trivial | simp
     refine .ret ⟨.inr rfl, ?_⟩
     exact Out.mem' (by simp only [Tryz.results130]; rfl) (by simp only [a1_, a9_, go_sem, seval, ah_, ap_, ay_, ar_, al_, ak_, af_]) (by simp only [a8_, rns, rn, go_sem, seval, ah_, ap_, ay_, ar_, al_, ak_, af_] <;> (simp at h8 h14 h20 h26; simp [dl5, iv_, h8, h14, h20, h26])) (by simp) rfl (by decide) (by simp only [go_sem, seval, ah_, ap_, ay_, ar_, al_, ak_, af_]) (by simp only [ap_, go_sem, seval, ah_, ap_, ay_, ar_, al_, ak_, af_]) (by simp only [ah_, go_sem, seval, ah_, ap_, ay_, ar_, al_, ak_, af_] <;> (simp at h8 h14 h20 h26; simp [dl5, iv_, h8, h14, h20, h26]))
end
end Go.Proofs.YtpikbndepapbhaaGreatDoor
