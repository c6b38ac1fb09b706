/- Lines with types: words, text, ok: the program's and the reference's; without types. Conditions: none. -/
import Derived.Test.YtefmbmafdgedmaaGreatDoorKj
import Derived.Test.YtefmbmafdgedmaaGreatDoorKk
set_option linter.unusedVariables false
set_option linter.unusedSimpArgs false
namespace Go.Proofs.YtefmbmafdgedmaaGreatDoor
section
set_option maxRecDepth 100000
set_option maxHeartbeats 4000000
def eb_ (s : Sl) : Wd :=
 if s.kind = 1 then (ik_, 100) :: (s.name, 101) :: (h7_, -1) :: (s.type, -1) :: (wEq, 102) :: src s.expr 0 0
 else if s.kind = 2 then (b7_, 103) :: src s.expr 0 0
 else if s.kind = 3 then ((ea_, 100) :: src s.expr 0 0 ++ [(b7_, 103)]) ++ src s.thn 0 (cnt s.expr)
 else []
theorem g0_ {s : Sl} (h : di_ s = true) : (s.kind = 0 ∨ s.kind = 1 ∨ s.kind = 2 ∨ s.kind = 3) ∧ (s.kind = 1 ∨ s.kind = 2 ∨ s.kind = 3 → eok s.expr = true) ∧ (s.kind = 3 → eok s.thn = true) := by
 unfold di_ at h
 by_cases k0 : s.kind = 0
 ·simp [k0]
 by_cases k1 : s.kind = 1
 ·simp [k1] at h; simp [k1]; exact h.1.2
 by_cases k2 : s.kind = 2
 ·simp [k2] at h; simp [k2]; exact h.1.2
 by_cases k3 : s.kind = 3
 ·simp [k3] at h; simp [k3]; exact ⟨h.1.2, h.2⟩
 ·simp [k0, k1, k2, k3] at h
theorem o9_ {s : Sl} (h : di_ s = true) : (eb_ s).map (·.1) = sw' s := by
 obtain ⟨h0, h1, h2⟩ := g0_ h
 unfold eb_ sw'
 rcases h0 with k | k | k | k
 ·simp [k]
 ·simp [k, e9_, fg_ (b9_ (h1 (.inl k)))]
 ·simp [k, e9_, fg_ (b9_ (h1 (.inr (.inl k))))]
 ·simp [k, e9_, fg_ (b9_ (h1 (.inr (.inr k)))), fg_ (b9_ (h2 k))]
theorem vj_ (s : Sl) (h : di_ s = true) (hs : hi_ s = true) : ACall En 90 [.ag (sC s)] [] [.sl false (wdR (eb_ s))] [] := by
 obtain ⟨h0, h1, h2⟩ := g0_ h
 obtain ⟨s1, s1', s2, s3⟩ := h2_ hs
 have W : s.kind = 1 ∨ s.kind = 2 ∨ s.kind = 3 → _ := fun hk => mw_ 5 s.expr 0 0 (b9_ (h1 hk)) s2 (in_ (h1 hk)) (by decide) (by have := k2_ (h1 hk); omega) (by decide)
 have W3 : s.kind = 3 → _ := fun hk => mw_ 5 s.thn 0 (0 + cnt s.expr) (b9_ (h2 hk)) s3 (in_ (h2 hk)) (by have := k2_ (h1 (.inr (.inr hk))); omega) (by have := k2_ (h1 (.inr (.inr hk))); have := k2_ (h2 hk); omega) (by decide)
 refine ao_ (fn := Tryz.f90) [] Tryz.func90 rfl rfl (by simp) fun C => ?_
 rw [bb_]
 simp only [Tryz.ntmps90, T7_, List.length_nil, Nat.reduceAdd, Nat.reduceSub, List.replicate_succ, List.replicate_zero, List.cons_append, List.nil_append, bu_]
 refine .seq (.rgn [] (by simp only [go_sem, seval, ag_, af_, T2_, T1_, as_]; rfl) ?_ ?_)
 ·(first | trivial | (simp; done) | (simp [cv_, List.forall_mem_append, bz_]; done))
 refine .seq (.rgn [] (by simp only [go_sem, seval, ag_, af_, T2_, T1_, as_]; rfl) ?_ ?_)
 ·(first | trivial | (simp; done) | (simp [cv_, List.forall_mem_append, bz_]; done))
 refine .seq (.seq (.rgn [] (by simp only [go_sem, seval, ag_, af_, T2_, T1_, as_]; rfl) ?_ ?_))
 ·(first | trivial | (simp; done) | (simp [cv_, List.forall_mem_append, bz_]; done))
 refine .block (.seq (.rgn [] (by simp only [go_sem, seval, ag_, af_, T2_, T1_, as_]; rfl) ?_ ?_))
 ·(first | trivial | (simp; done) | (simp [cv_, List.forall_mem_append, bz_]; done))
 refine .condB (by simp only [go_sem, seval, ag_, af_, T2_, T1_, as_]; rfl) (by simp only [go_sem, seval, ag_, af_, T2_, T1_, as_]) (fun h7 => ?_) (fun h7 => ?_)
 ·refine .seq (.rgnD [c4_ [13] [31] (W (.inl (by simpa using h7)))] enM (by simp only [go_sem, seval, ag_, af_, T2_, T1_, as_, an_, ar_]; rfl) (by rfl) ?_ ?_)
  ·have q := h1 (.inl (by simpa using h7)); have q2 := (hd_ q 0 0); have q3 : src s.expr 0 0 ≠ [] := (fun e => by have := (c8_ q 0).1; rw [← jo_ s.expr 0 0, e] at this; simp at this); simp [cv_, bz_, q3, fx_]; omega
  refine .frz 32 (by simp only [go_sem, seval, ag_, af_, T2_, T1_, as_]; rfl) (by simp only [go_sem, seval, ag_, af_, T2_, T1_, as_]) (by simp only [go_sem, seval, ag_, af_, T2_, T1_, as_]; rfl) (by simp only [go_sem, seval, ag_, af_, T2_, T1_, as_]; rfl) ?_
  refine .ret ⟨.inr rfl, ?_⟩
  exact Out.plain (by simp only [Tryz.results90]; rfl) (by simp only [bd_, bo_, go_sem, seval, ag_, af_, T2_, T1_, as_] <;> (split <;> rfl)) (by simp only [bn_, go_sem, seval, ag_, af_, T2_, T1_, as_] <;> (have k : s.kind = 1 := (by simpa using h7); rw [if_pos (by omega), T1_ (by simp [ag_]; omega)]; simp [eb_, k, wdR, peel, wEq, ik_, h7_])) (by simp only [go_sem, seval, ag_, af_, T2_, T1_, as_])
 ·refine .seq (.rgn [] (by simp only [go_sem, seval, ag_, af_, T2_, T1_, as_]; rfl) ?_ ?_)
  ·(first | trivial | (simp; done) | (simp [cv_, List.forall_mem_append, bz_]; done))
  refine .condB (by simp only [go_sem, seval, ag_, af_, T2_, T1_, as_]; rfl) (by simp only [go_sem, seval, ag_, af_, T2_, T1_, as_]) (fun h23 => ?_) (fun h23 => ?_)
  ·refine .seq (.rgn [c4_ [13] [39] (W (.inr (.inl (by simpa using h23))))] (by simp only [go_sem, seval, ag_, af_, T2_, T1_, as_, an_, ar_]; rfl) ?_ ?_)
   ·have q := h1 (.inr (.inl (by simpa using h23))); have q2 := (hd_ q 0 0); have q3 : src s.expr 0 0 ≠ [] := (fun e => by have := (c8_ q 0).1; rw [← jo_ s.expr 0 0, e] at this; simp at this); simp [cv_, bz_, q3, fx_]; omega
   refine .frz 40 (by simp only [go_sem, seval, ag_, af_, T2_, T1_, as_]; rfl) (by simp only [go_sem, seval, ag_, af_, T2_, T1_, as_]) (by simp only [go_sem, seval, ag_, af_, T2_, T1_, as_]; rfl) (by simp only [go_sem, seval, ag_, af_, T2_, T1_, as_]; rfl) ?_
   refine .ret ⟨.inr rfl, ?_⟩
   exact Out.plain (by simp only [Tryz.results90]; rfl) (by simp only [bd_, bo_, go_sem, seval, ag_, af_, T2_, T1_, as_] <;> (split <;> rfl)) (by simp only [bn_, go_sem, seval, ag_, af_, T2_, T1_, as_] <;> (have k : s.kind = 2 := (by simpa using h23); rw [if_pos (by omega), T1_ (by simp [ag_]; omega)]; simp [eb_, k, wdR, peel, b7_])) (by simp only [go_sem, seval, ag_, af_, T2_, T1_, as_])
  ·refine .seq (.rgn [] (by simp only [go_sem, seval, ag_, af_, T2_, T1_, as_]; rfl) ?_ ?_)
   ·(first | trivial | (simp; done) | (simp [cv_, List.forall_mem_append, bz_]; done))
   refine .condB (by simp only [go_sem, seval, ag_, af_, T2_, T1_, as_]; rfl) (by simp only [go_sem, seval, ag_, af_, T2_, T1_, as_]) (fun h31 => ?_) (fun h31 => ?_)
   ·refine .seq (.rgn [c4_ [13] [47] (W (.inr (.inr (by simpa using h31))))] (by simp only [go_sem, seval, ag_, af_, T2_, T1_, as_, an_, ar_]; rfl) ?_ ?_)
    ·have q := h1 (.inr (.inr (by simpa using h31))); have q2 := (hd_ q 0 0); have q3 : src s.expr 0 0 ≠ [] := (fun e => by have := (c8_ q 0).1; rw [← jo_ s.expr 0 0, e] at this; simp at this); simp [cv_, bz_, q3, fx_]; omega
    refine .seq (.rgn [] (by simp only [go_sem, seval, ag_, af_, T2_, T1_, as_]; rfl) ?_ ?_)
    ·have q := h1 (.inr (.inr (by simpa using h31))); have q2 := (hd_ q 0 0); simp [cv_, bz_]; omega
    refine .seq (.rgn [c4_ [13] [56] (W3 (by simpa using h31))] (by simp only [go_sem, seval, ag_, af_, T2_, T1_, as_, an_, ar_]; rfl) ?_ ?_)
    ·have q := h1 (.inr (.inr (by simpa using h31))); have q2 := (hd_ q 0 0); have q4 := hd_ (h2 (by simpa using h31)) 0 (0 + cnt s.expr); simp at q4; simp [cv_, bz_]; omega
    refine .frz 57 (by simp only [go_sem, seval, ag_, af_, T2_, T1_, as_]; rfl) (by simp only [go_sem, seval, ag_, af_, T2_, T1_, as_]) (by simp only [go_sem, seval, ag_, af_, T2_, T1_, as_]; rfl) (by simp only [go_sem, seval, ag_, af_, T2_, T1_, as_]; rfl) ?_
    refine .ret ⟨.inr rfl, ?_⟩
    exact Out.plain (by simp only [Tryz.results90]; rfl) (by simp only [bd_, bo_, go_sem, seval, ag_, af_, T2_, T1_, as_] <;> (split <;> rfl)) (by simp only [bn_, go_sem, seval, ag_, af_, T2_, T1_, as_] <;> (have k : s.kind = 3 := (by simpa using h31); rw [if_pos (by omega), T1_ (by simp [ag_]; omega)]; simp [eb_, k, wdR, peel, b7_, ea_])) (by simp only [go_sem, seval, ag_, af_, T2_, T1_, as_])
   ·refine .skip (.seq (.rgn [] (by simp only [go_sem, seval, ag_, af_, T2_, T1_, as_]; rfl) ?_ ?_))
    ·(first | trivial | (simp; done) | (simp [cv_, List.forall_mem_append, bz_]; done))
    refine .can (Can.slotLe 2 (.sl false []) (by simp only [go_sem, seval, ag_, af_, T2_, T1_, as_] <;> trivial) (by simp only [go_sem, seval, ag_, af_, T2_, T1_, as_] <;> rfl)) ?_
    refine .ret ⟨.inr rfl, ?_⟩
    exact Out.plain (by simp only [Tryz.results90]; rfl) (by simp only [bd_, bo_, go_sem, seval, ag_, af_, T2_, T1_, as_] <;> (split <;> rfl)) (by simp only [bn_, go_sem, seval, ag_, af_, T2_, T1_, as_] <;> (have k : s.kind = 0 := (by simp_all); simp [eb_, k, wdR])) (by simp only [go_sem, seval, ag_, af_, T2_, T1_, as_])
theorem o4_ {s : Sl} (h : di_ s = true) : (ch_ (sw' s)).length ≤ 1000 := by
 have := oh_ h
 have h2 := q5_ (fun s hs => (this.2 s hs).2)
 omega
theorem uc_ (s : Sl) (h : di_ s = true) (hs : hi_ s = true) : ACall En 143 [.ag (sC s)] [] [.s (ch_ (sw' s))] [] := by
 have h1 := o4_ h
 have h2 := (oh_ h).1
 have h3 := o9_ h
 have h4 : (eb_ s).length = (sw' s).length := by rw [← h3, List.length_map]
 refine ao_ (fn := Tryz.f143) [] Tryz.func143 rfl rfl (by simp) fun C => ?_
 rw [bb_]
 simp only [Tryz.ntmps143, T7_, List.length_nil, Nat.reduceAdd, Nat.reduceSub, List.replicate_succ, List.replicate_zero, List.cons_append, List.nil_append, bu_]
 refine .seq (.rgn [] (by simp only [go_sem, seval, as_, af_, h3]; rfl) ?_ ?_)
 ·simp
 refine .seq (.rgn [bj_ (vj_ s h hs), bj_ (j2_ (eb_ s) (by omega)), bj_ (my_ (sw' s) (by omega) (by omega))] (by simp only [go_sem, seval, as_, af_, h3]; rfl) ?_ ?_)
 ·simp
 refine .ret ⟨.inr rfl, ?_⟩
 exact Out.plain (by simp only [Tryz.results143]; rfl) (by simp only [bd_, bo_, go_sem, seval, as_, af_, h3] <;> (split <;> rfl)) (by simp only [bn_, go_sem, seval, as_, af_, h3] <;> (rfl)) (by simp only [go_sem, seval, as_, af_, h3])
theorem sc_ (s : Sl) (hs : hi_ s = true) : ACall En 89 [.ag (sC s)] [] [.b (sok s)] [] := by
 obtain ⟨s1, s1', s2, s3⟩ := h2_ hs
 refine ao_ (fn := Tryz.f89) [] Tryz.func89 rfl rfl (by simp) fun C => ?_
 rw [bb_]
 simp only [Tryz.ntmps89, T7_, List.length_nil, Nat.reduceAdd, Nat.reduceSub, List.replicate_succ, List.replicate_zero, List.cons_append, List.nil_append, bu_]
 refine .seq (.rgn [] (by simp only [go_sem, seval, as_]; rfl) ?_ ?_)
 ·(first | trivial | (simp; done) | exact hJ.symm)
 refine .seq (.rgn [] (by simp only [go_sem, seval, as_]; rfl) ?_ ?_)
 ·(first | trivial | (simp; done) | exact hJ.symm)
 refine .seqJ (fun q : Bool => ⟨[.no, .pt 11 11 0 0, .no, .b q, .no, .no, .no, .no, .no, .no, .no, .no, .no, .no, .no, .no, .no, .no, .no, .no, .no, .no, .no, .no, .no, .no, .no, .no, .no, .no, .no, .no, .no, .no, .no, .no, .no, .no, .no, .no, .no, .no, .no, .no, .no, .no, .no, .no, .no, .no, .no, .no, .no, .no, .no, .no, .no, .no, .no, .no, .no, .no, .no, .no, .no, .no, .no, .no, .no, .no, .no, .no, .no, .no, .no, .no, .no, .no, .no, .no, .no, .no, .no, .no, .no, .no, .no, .no, .no, .no, .no, .no, .no], bk_ [(11, ⟨72, 11, [sC s]⟩)], us [11]⟩) (fun q : Bool => q = di_ s) ?_ (fun q hJ => ?_)
 ·refine .seq (.rgn [] (by simp only [go_sem, seval, as_]; rfl) ?_ ?_)
  ·(first | trivial | (simp; done) | exact hJ.symm)
  refine .block (.seq (.rgn [] (by simp only [go_sem, seval, as_]; rfl) ?_ ?_))
  ·(first | trivial | (simp; done) | exact hJ.symm)
  refine .condB (by simp only [go_sem, seval, as_]; rfl) (by simp only [go_sem, seval, as_]) (fun h6 => ?_) (fun h6 => ?_)
  ·refine .rgn [bj_ (ks_ s.expr s2), bj_ (ks_ s.thn s3)] (by simp only [go_sem, seval, as_]; rfl) ?_ ?_
   ·(first | trivial | (simp; done) | exact hJ.symm)
   refine Exists.intro (di_ s) ⟨?_, ?_⟩
   ·rfl
   exact Can.weak (Weak.lit (by simp only [go_sem, seval, as_, ay_, leV, aw_, ax_, V.inn, us, T9_, Ta_] <;> ((unfold di_; simp_all))) (by simp only [go_sem, seval, as_, ay_, leV, aw_, ax_, V.inn, us, T9_, Ta_]) (by simp only [go_sem, seval, as_, ay_, leV, aw_, ax_, V.inn, us, T9_, Ta_]))
  ·refine .seq (.rgn [] (by simp only [go_sem, seval, as_]; rfl) ?_ ?_)
   ·(first | trivial | (simp; done) | exact hJ.symm)
   refine .condB (by simp only [go_sem, seval, as_]; rfl) (by simp only [go_sem, seval, as_]) (fun h26 => ?_) (fun h26 => ?_)
   ·refine .rgn [bj_ (pv_ s.name s1), bj_ (w6_ s.type), bj_ (ho_ s.expr s2), bj_ (ks_ s.thn s3)] (by simp only [go_sem, seval, as_]; rfl) ?_ ?_
    ·(first | trivial | (simp; done) | exact hJ.symm)
    refine Exists.intro (di_ s) ⟨?_, ?_⟩
    ·rfl
    exact Can.weak (Weak.lit (by simp only [go_sem, seval, as_, ay_, leV, aw_, ax_, V.inn, us, T9_, Ta_] <;> ((unfold di_; simp_all))) (by simp only [go_sem, seval, as_, ay_, leV, aw_, ax_, V.inn, us, T9_, Ta_]) (by simp only [go_sem, seval, as_, ay_, leV, aw_, ax_, V.inn, us, T9_, Ta_]))
   ·refine .seq (.rgn [] (by simp only [go_sem, seval, as_]; rfl) ?_ ?_)
    ·(first | trivial | (simp; done) | exact hJ.symm)
    refine .condB (by simp only [go_sem, seval, as_]; rfl) (by simp only [go_sem, seval, as_]) (fun h46 => ?_) (fun h46 => ?_)
    ·refine .rgn [bj_ (ho_ s.expr s2), bj_ (ks_ s.thn s3)] (by simp only [go_sem, seval, as_]; rfl) ?_ ?_
     ·(first | trivial | (simp; done) | exact hJ.symm)
     refine Exists.intro (di_ s) ⟨?_, ?_⟩
     ·rfl
     exact Can.weak (Weak.lit (by simp only [go_sem, seval, as_, ay_, leV, aw_, ax_, V.inn, us, T9_, Ta_] <;> ((unfold di_; simp_all))) (by simp only [go_sem, seval, as_, ay_, leV, aw_, ax_, V.inn, us, T9_, Ta_]) (by simp only [go_sem, seval, as_, ay_, leV, aw_, ax_, V.inn, us, T9_, Ta_]))
    ·refine .seq (.rgn [] (by simp only [go_sem, seval, as_]; rfl) ?_ ?_)
     ·(first | trivial | (simp; done) | exact hJ.symm)
     refine .condB (by simp only [go_sem, seval, as_]; rfl) (by simp only [go_sem, seval, as_]) (fun h66 => ?_) (fun h66 => ?_)
     ·refine .rgn [bj_ (ho_ s.expr s2), bj_ (ho_ s.thn s3)] (by simp only [go_sem, seval, as_]; rfl) ?_ ?_
      ·(first | trivial | (simp; done) | exact hJ.symm)
      refine Exists.intro (di_ s) ⟨?_, ?_⟩
      ·rfl
      exact Can.weak (Weak.lit (by simp only [go_sem, seval, as_, ay_, leV, aw_, ax_, V.inn, us, T9_, Ta_] <;> ((unfold di_; simp_all))) (by simp only [go_sem, seval, as_, ay_, leV, aw_, ax_, V.inn, us, T9_, Ta_]) (by simp only [go_sem, seval, as_, ay_, leV, aw_, ax_, V.inn, us, T9_, Ta_]))
     ·refine .skip ?_
      refine Exists.intro (di_ s) ⟨?_, ?_⟩
      ·rfl
      exact Can.weak (Weak.lit (by simp only [go_sem, seval, as_, ay_, leV, aw_, ax_, V.inn, us, T9_, Ta_] <;> ((unfold di_; simp_all))) (by simp only [go_sem, seval, as_, ay_, leV, aw_, ax_, V.inn, us, T9_, Ta_]) (by simp only [go_sem, seval, as_, ay_, leV, aw_, ax_, V.inn, us, T9_, Ta_]))
 cases q
 ·refine .seq (.rgn [dc_ (di_ s = true) (fun h => uc_ s h hs)] (by simp only [go_sem, seval, as_]; rfl) ?_ ?_)
  ·(first | trivial | (simp; done) | exact hJ.symm)
  refine .ret ⟨.inr rfl, ?_⟩
  exact Out.plain (by simp only [Tryz.results89]; rfl) (by simp only [bd_, bo_, go_sem, seval, as_] <;> (split <;> rfl)) (by simp only [bn_, go_sem, seval, as_] <;> (rw [sok, ← hJ]; first | rfl | (rw [Bool.true_and, iw_]; rfl))) (by simp only [go_sem, seval, as_])
 ·refine .seq (.rgn [dc_ (di_ s = true) (fun h => uc_ s h hs)] (by simp only [go_sem, seval, as_]; rfl) ?_ ?_)
  ·(first | trivial | (simp; done) | exact hJ.symm)
  refine .ret ⟨.inr rfl, ?_⟩
  exact Out.plain (by simp only [Tryz.results89]; rfl) (by simp only [bd_, bo_, go_sem, seval, as_] <;> (split <;> rfl)) (by simp only [bn_, go_sem, seval, as_] <;> (rw [sok, ← hJ]; first | rfl | (rw [Bool.true_and, iw_]; rfl))) (by simp only [go_sem, seval, as_])
theorem ek_ {s : Sl} (h : sok s = true) : di_ s = true := by simp only [sok, T5_] at h; exact h.1
def vq_ (s : Sl) : Str := if sok s then ch_ (sw' s) else []
theorem vn_ (s : Sl) (hs : hi_ s = true) : ACall En 178 [.ag (sC s)] [] [.s (vq_ s)] [] := by
 refine ao_ (fn := Tryz.f178) [] Tryz.func178 rfl rfl (by simp) fun C => ?_
 rw [bb_]
 simp only [Tryz.ntmps178, T7_, List.length_nil, Nat.reduceAdd, Nat.reduceSub, List.replicate_succ, List.replicate_zero, List.cons_append, List.nil_append, bu_]
 refine .seq (.rgn [] (by simp only [go_sem, seval, as_]; rfl) ?_ ?_)
 ·first | trivial | simp
 refine .seq (.seq (.rgn [bj_ (sc_ s hs)] (by simp only [go_sem, seval, as_]; rfl) ?_ ?_))
 ·simp
 refine .condB (by simp only [go_sem, seval, as_]; rfl) (by simp only [go_sem, seval, as_]) (fun h5 => ?_) (fun h5 => ?_)
 ·refine .seq (.rgn [] (by simp only [go_sem, seval, as_]; rfl) ?_ ?_)
  ·first | trivial | simp
  refine .ret ⟨.inr rfl, ?_⟩
  exact Out.plain (by simp only [Tryz.results178]; rfl) (by simp only [bd_, bo_, go_sem, seval, as_] <;> (split <;> rfl)) (by simp only [bn_, go_sem, seval, as_] <;> (simp at h5; simp [vq_, h5])) (by simp only [go_sem, seval, as_])
 ·refine .skip (.seq (.rgn [dc_ (sok s = true) (fun h => uc_ s (ek_ h) hs)] (by simp only [go_sem, seval, as_]; rfl) ?_ ?_))
  ·simpa using h5
  refine .ret ⟨.inr rfl, ?_⟩
  exact Out.plain (by simp only [Tryz.results178]; rfl) (by simp only [bd_, bo_, go_sem, seval, as_] <;> (split <;> rfl)) (by simp only [bn_, go_sem, seval, as_] <;> (simp at h5; simp [vq_, h5])) (by simp only [go_sem, seval, as_])
theorem kk_ (s : Sl) (h : di_ s = true) (hs : hi_ s = true) : ACall En 103 [.ag (sC s)] [] [.sl false (cb_ (sw' s))] [] := by
 obtain ⟨h0, h1, h2⟩ := g0_ h
 obtain ⟨s1, s1', s2, s3⟩ := h2_ hs
 have W : s.kind = 1 ∨ s.kind = 2 ∨ s.kind = 3 → _ := fun hk => iq_ 5 s.expr 1 (b9_ (h1 hk)) s2 (in_ (h1 hk)) (by decide) (by decide)
 have W3 : s.kind = 3 → _ := fun hk => iq_ 5 s.thn 1 (b9_ (h2 hk)) s3 (in_ (h2 hk)) (by decide) (by decide)
 refine ao_ (fn := Tryz.f103) [] Tryz.func103 rfl rfl (by simp) fun C => ?_
 rw [bb_]
 simp only [Tryz.ntmps103, T7_, List.length_nil, Nat.reduceAdd, Nat.reduceSub, List.replicate_succ, List.replicate_zero, List.cons_append, List.nil_append, bu_]
 refine .seq (.rgn [] (by simp only [go_sem, seval, ab_, aa_, T2_, T1_, as_]; rfl) ?_ ?_)
 ·(first | trivial | (simp; done) | (simp [bw_]; done))
 refine .seq (.seq (.rgn [] (by simp only [go_sem, seval, ab_, aa_, T2_, T1_, as_]; rfl) ?_ ?_))
 ·(first | trivial | (simp; done) | (simp [bw_]; done))
 refine .block (.seq (.rgn [] (by simp only [go_sem, seval, ab_, aa_, T2_, T1_, as_]; rfl) ?_ ?_))
 ·(first | trivial | (simp; done) | (simp [bw_]; done))
 refine .condB (by simp only [go_sem, seval, ab_, aa_, T2_, T1_, as_]; rfl) (by simp only [go_sem, seval, ab_, aa_, T2_, T1_, as_]) (fun h6 => ?_) (fun h6 => ?_)
 ·refine .seq (.rgnD [bj_ (W (.inl (by simpa using h6)))] enM (by simp only [go_sem, seval, ab_, aa_, T2_, T1_, as_]; rfl) (by rfl) ?_ ?_)
  ·have q := h1 (.inl (by simpa using h6)); have q2 := (c8_ q 1); have q3 := ys_ q 1; simp [cv_, bw_, q3, kv_]; omega
  refine .frz 26 (by simp only [go_sem, seval, ab_, aa_, T2_, T1_, as_]; rfl) (by simp only [go_sem, seval, ab_, aa_, T2_, T1_, as_]) (by simp only [go_sem, seval, ab_, aa_, T2_, T1_, as_]; rfl) (by simp only [go_sem, seval, ab_, aa_, T2_, T1_, as_]; rfl) ?_
  refine .ret ⟨.inr rfl, ?_⟩
  exact Out.plain (by simp only [Tryz.results103]; rfl) (by simp only [bd_, bo_, go_sem, seval, ab_, aa_, T2_, T1_, as_] <;> (split <;> rfl)) (by simp only [bn_, go_sem, seval, ab_, aa_, T2_, T1_, as_] <;> (have k : s.kind = 1 := (by simpa using h6); rw [if_pos (by omega), T1_ (by simp [ab_]; omega)]; simp [sw', k, cb_, peel, wEq, ik_, h7_])) (by simp only [go_sem, seval, ab_, aa_, T2_, T1_, as_])
 ·refine .seq (.rgn [] (by simp only [go_sem, seval, ab_, aa_, T2_, T1_, as_]; rfl) ?_ ?_)
  ·(first | trivial | (simp; done) | (simp [bw_]; done))
  refine .condB (by simp only [go_sem, seval, ab_, aa_, T2_, T1_, as_]; rfl) (by simp only [go_sem, seval, ab_, aa_, T2_, T1_, as_]) (fun h17 => ?_) (fun h17 => ?_)
  ·refine .seq (.rgn [bj_ (W (.inr (.inl (by simpa using h17))))] (by simp only [go_sem, seval, ab_, aa_, T2_, T1_, as_]; rfl) ?_ ?_)
   ·have q := h1 (.inr (.inl (by simpa using h17))); have q2 := (c8_ q 1); have q3 := ys_ q 1; simp [cv_, bw_, q3, kv_]; omega
   refine .frz 33 (by simp only [go_sem, seval, ab_, aa_, T2_, T1_, as_]; rfl) (by simp only [go_sem, seval, ab_, aa_, T2_, T1_, as_]) (by simp only [go_sem, seval, ab_, aa_, T2_, T1_, as_]; rfl) (by simp only [go_sem, seval, ab_, aa_, T2_, T1_, as_]; rfl) ?_
   refine .ret ⟨.inr rfl, ?_⟩
   exact Out.plain (by simp only [Tryz.results103]; rfl) (by simp only [bd_, bo_, go_sem, seval, ab_, aa_, T2_, T1_, as_] <;> (split <;> rfl)) (by simp only [bn_, go_sem, seval, ab_, aa_, T2_, T1_, as_] <;> (have k : s.kind = 2 := (by simpa using h17); rw [if_pos (by omega), T1_ (by simp [ab_]; omega)]; simp [sw', k, cb_, peel, b7_])) (by simp only [go_sem, seval, ab_, aa_, T2_, T1_, as_])
  ·refine .seq (.rgn [] (by simp only [go_sem, seval, ab_, aa_, T2_, T1_, as_]; rfl) ?_ ?_)
   ·(first | trivial | (simp; done) | (simp [bw_]; done))
   refine .condB (by simp only [go_sem, seval, ab_, aa_, T2_, T1_, as_]; rfl) (by simp only [go_sem, seval, ab_, aa_, T2_, T1_, as_]) (fun h24 => ?_) (fun h24 => ?_)
   ·refine .seq (.rgn [bj_ (W (.inr (.inr (by simpa using h24))))] (by simp only [go_sem, seval, ab_, aa_, T2_, T1_, as_]; rfl) ?_ ?_)
    ·have q := h1 (.inr (.inr (by simpa using h24))); have q2 := (c8_ q 1); have q3 := ys_ q 1; simp [cv_, bw_, q3, kv_]; omega
    refine .seq (.rgnD [bj_ (W3 (by simpa using h24))] enM (by simp only [go_sem, seval, ab_, aa_, T2_, T1_, as_]; rfl) (by rfl) ?_ ?_)
    ·have q := h1 (.inr (.inr (by simpa using h24))); have q2 := (c8_ q 1); have q4 := c8_ (h2 (by simpa using h24)) 1; simp [cv_, bw_]; omega
    refine .frz 47 (by simp only [go_sem, seval, ab_, aa_, T2_, T1_, as_]; rfl) (by simp only [go_sem, seval, ab_, aa_, T2_, T1_, as_]) (by simp only [go_sem, seval, ab_, aa_, T2_, T1_, as_]; rfl) (by simp only [go_sem, seval, ab_, aa_, T2_, T1_, as_]; rfl) ?_
    refine .ret ⟨.inr rfl, ?_⟩
    exact Out.plain (by simp only [Tryz.results103]; rfl) (by simp only [bd_, bo_, go_sem, seval, ab_, aa_, T2_, T1_, as_] <;> (split <;> rfl)) (by simp only [bn_, go_sem, seval, ab_, aa_, T2_, T1_, as_] <;> (have k : s.kind = 3 := (by simpa using h24); rw [if_pos (by omega), T1_ (by simp [ab_]; omega)]; simp [sw', k, cb_, peel, b7_, ea_])) (by simp only [go_sem, seval, ab_, aa_, T2_, T1_, as_])
   ·refine .skip (.seq (.rgn [] (by simp only [go_sem, seval, ab_, aa_, T2_, T1_, as_]; rfl) ?_ ?_))
    ·(first | trivial | (simp; done) | (simp [bw_]; done))
    refine .can (Can.slotLe 2 (.sl false []) (by simp only [go_sem, seval, ab_, aa_, T2_, T1_, as_] <;> trivial) (by simp only [go_sem, seval, ab_, aa_, T2_, T1_, as_] <;> rfl)) ?_
    refine .ret ⟨.inr rfl, ?_⟩
    exact Out.plain (by simp only [Tryz.results103]; rfl) (by simp only [bd_, bo_, go_sem, seval, ab_, aa_, T2_, T1_, as_] <;> (split <;> rfl)) (by simp only [bn_, go_sem, seval, ab_, aa_, T2_, T1_, as_] <;> (have k : s.kind = 0 := (by simp_all); simp [sw', k, cb_])) (by simp only [go_sem, seval, ab_, aa_, T2_, T1_, as_])
theorem rz_ (s : Sl) (hs : hi_ s = true) : ACall En 49 [.ag (sC s)] [] [.b (sok s)] [] := by
 obtain ⟨s1, s1', s2, s3⟩ := h2_ hs
 refine ao_ (fn := Tryz.f49) [] Tryz.func49 rfl rfl (by simp) fun C => ?_
 rw [bb_]
 simp only [Tryz.ntmps49, T7_, List.length_nil, Nat.reduceAdd, Nat.reduceSub, List.replicate_succ, List.replicate_zero, List.cons_append, List.nil_append, bu_]
 refine .seq (.rgn [] (by simp only [go_sem, seval, as_, aa_]; rfl) ?_ ?_)
 ·(first | trivial | (simp; done) | exact hJ.symm | exact ⟨hJ.symm, hJ.symm⟩)
 refine .seq (.rgn [] (by simp only [go_sem, seval, as_, aa_]; rfl) ?_ ?_)
 ·(first | trivial | (simp; done) | exact hJ.symm | exact ⟨hJ.symm, hJ.symm⟩)
 refine .seqJ (fun q : Bool => ⟨[.no, .pt 11 11 0 0, .no, .b q, .no, .no, .no, .no, .no, .no, .no, .no, .no, .no, .no, .no, .no, .no, .no, .no, .no, .no, .no, .no, .no, .no, .no, .no, .no, .no, .no, .no, .no, .no, .no, .no, .no, .no, .no, .no, .no, .no, .no, .no, .no, .no, .no, .no, .no, .no, .no, .no, .no, .no, .no, .no, .no, .no, .no, .no, .no, .no, .no, .no, .no, .no, .no, .no, .no, .no, .no, .no, .no, .no, .no, .no, .no, .no, .no, .no, .no, .no, .no, .no, .no, .no, .no, .no, .no, .no, .no, .no, .no, .no], bk_ [(11, ⟨72, 11, [sC s]⟩)], us [11]⟩) (fun q : Bool => q = di_ s) ?_ (fun q hJ => ?_)
 ·refine .seq (.rgn [] (by simp only [go_sem, seval, as_, aa_]; rfl) ?_ ?_)
  ·(first | trivial | (simp; done) | exact hJ.symm | exact ⟨hJ.symm, hJ.symm⟩)
  refine .block (.seq (.rgn [] (by simp only [go_sem, seval, as_, aa_]; rfl) ?_ ?_))
  ·(first | trivial | (simp; done) | exact hJ.symm | exact ⟨hJ.symm, hJ.symm⟩)
  refine .condB (by simp only [go_sem, seval, as_, aa_]; rfl) (by simp only [go_sem, seval, as_, aa_]) (fun h6 => ?_) (fun h6 => ?_)
  ·refine .rgn [bj_ (l2_ s.expr s2), bj_ (l2_ s.thn s3)] (by simp only [go_sem, seval, as_, aa_]; rfl) ?_ ?_
   ·(first | trivial | (simp; done) | exact hJ.symm | exact ⟨hJ.symm, hJ.symm⟩)
   refine Exists.intro (di_ s) ⟨?_, ?_⟩
   ·rfl
   exact Can.weak (Weak.lit (by simp only [go_sem, seval, as_, aa_, ay_, leV, aw_, ax_, V.inn, us, T9_, Ta_] <;> ((unfold di_; simp_all))) (by simp only [go_sem, seval, as_, aa_, ay_, leV, aw_, ax_, V.inn, us, T9_, Ta_]) (by simp only [go_sem, seval, as_, aa_, ay_, leV, aw_, ax_, V.inn, us, T9_, Ta_]))
  ·refine .seq (.rgn [] (by simp only [go_sem, seval, as_, aa_]; rfl) ?_ ?_)
   ·(first | trivial | (simp; done) | exact hJ.symm | exact ⟨hJ.symm, hJ.symm⟩)
   refine .condB (by simp only [go_sem, seval, as_, aa_]; rfl) (by simp only [go_sem, seval, as_, aa_]) (fun h26 => ?_) (fun h26 => ?_)
   ·refine .rgn [bj_ (rg_ s.name s1), bj_ (mo_ s.type), bj_ (io_ s.expr s2), bj_ (l2_ s.thn s3)] (by simp only [go_sem, seval, as_, aa_]; rfl) ?_ ?_
    ·(first | trivial | (simp; done) | exact hJ.symm | exact ⟨hJ.symm, hJ.symm⟩)
    refine Exists.intro (di_ s) ⟨?_, ?_⟩
    ·rfl
    exact Can.weak (Weak.lit (by simp only [go_sem, seval, as_, aa_, ay_, leV, aw_, ax_, V.inn, us, T9_, Ta_] <;> ((unfold di_; simp_all))) (by simp only [go_sem, seval, as_, aa_, ay_, leV, aw_, ax_, V.inn, us, T9_, Ta_]) (by simp only [go_sem, seval, as_, aa_, ay_, leV, aw_, ax_, V.inn, us, T9_, Ta_]))
   ·refine .seq (.rgn [] (by simp only [go_sem, seval, as_, aa_]; rfl) ?_ ?_)
    ·(first | trivial | (simp; done) | exact hJ.symm | exact ⟨hJ.symm, hJ.symm⟩)
    refine .condB (by simp only [go_sem, seval, as_, aa_]; rfl) (by simp only [go_sem, seval, as_, aa_]) (fun h46 => ?_) (fun h46 => ?_)
    ·refine .rgn [bj_ (io_ s.expr s2), bj_ (l2_ s.thn s3)] (by simp only [go_sem, seval, as_, aa_]; rfl) ?_ ?_
     ·(first | trivial | (simp; done) | exact hJ.symm | exact ⟨hJ.symm, hJ.symm⟩)
     refine Exists.intro (di_ s) ⟨?_, ?_⟩
     ·rfl
     exact Can.weak (Weak.lit (by simp only [go_sem, seval, as_, aa_, ay_, leV, aw_, ax_, V.inn, us, T9_, Ta_] <;> ((unfold di_; simp_all))) (by simp only [go_sem, seval, as_, aa_, ay_, leV, aw_, ax_, V.inn, us, T9_, Ta_]) (by simp only [go_sem, seval, as_, aa_, ay_, leV, aw_, ax_, V.inn, us, T9_, Ta_]))
    ·refine .seq (.rgn [] (by simp only [go_sem, seval, as_, aa_]; rfl) ?_ ?_)
     ·(first | trivial | (simp; done) | exact hJ.symm | exact ⟨hJ.symm, hJ.symm⟩)
     refine .condB (by simp only [go_sem, seval, as_, aa_]; rfl) (by simp only [go_sem, seval, as_, aa_]) (fun h66 => ?_) (fun h66 => ?_)
     ·refine .rgn [bj_ (io_ s.expr s2), bj_ (io_ s.thn s3)] (by simp only [go_sem, seval, as_, aa_]; rfl) ?_ ?_
      ·(first | trivial | (simp; done) | exact hJ.symm | exact ⟨hJ.symm, hJ.symm⟩)
      refine Exists.intro (di_ s) ⟨?_, ?_⟩
      ·rfl
      exact Can.weak (Weak.lit (by simp only [go_sem, seval, as_, aa_, ay_, leV, aw_, ax_, V.inn, us, T9_, Ta_] <;> ((unfold di_; simp_all))) (by simp only [go_sem, seval, as_, aa_, ay_, leV, aw_, ax_, V.inn, us, T9_, Ta_]) (by simp only [go_sem, seval, as_, aa_, ay_, leV, aw_, ax_, V.inn, us, T9_, Ta_]))
     ·refine .skip ?_
      refine Exists.intro (di_ s) ⟨?_, ?_⟩
      ·rfl
      exact Can.weak (Weak.lit (by simp only [go_sem, seval, as_, aa_, ay_, leV, aw_, ax_, V.inn, us, T9_, Ta_] <;> ((unfold di_; simp_all))) (by simp only [go_sem, seval, as_, aa_, ay_, leV, aw_, ax_, V.inn, us, T9_, Ta_]) (by simp only [go_sem, seval, as_, aa_, ay_, leV, aw_, ax_, V.inn, us, T9_, Ta_]))
 cases q
 ·refine .seq (.rgn [dc_ (di_ s = true) (fun h => kk_ s h hs), dc_ (di_ s = true) (fun h => jg_ (sw' s) (by have := (oh_ h).1; omega) (by have := o4_ h; omega))] (by simp only [go_sem, seval, as_, aa_]; rfl) ?_ ?_)
  ·(first | trivial | (simp; done) | exact hJ.symm | exact ⟨hJ.symm, hJ.symm⟩)
  refine .ret ⟨.inr rfl, ?_⟩
  exact Out.plain (by simp only [Tryz.results49]; rfl) (by simp only [bd_, bo_, go_sem, seval, as_, aa_] <;> (split <;> rfl)) (by simp only [bn_, go_sem, seval, as_, aa_] <;> (rw [sok, ← hJ]; first | rfl | (rw [Bool.true_and, iw_]; rfl))) (by simp only [go_sem, seval, as_, aa_])
 ·refine .seq (.rgn [dc_ (di_ s = true) (fun h => kk_ s h hs), dc_ (di_ s = true) (fun h => jg_ (sw' s) (by have := (oh_ h).1; omega) (by have := o4_ h; omega))] (by simp only [go_sem, seval, as_, aa_]; rfl) ?_ ?_)
  ·(first | trivial | (simp; done) | exact hJ.symm | exact ⟨hJ.symm, hJ.symm⟩)
  refine .ret ⟨.inr rfl, ?_⟩
  exact Out.plain (by simp only [Tryz.results49]; rfl) (by simp only [bd_, bo_, go_sem, seval, as_, aa_] <;> (split <;> rfl)) (by simp only [bn_, go_sem, seval, as_, aa_] <;> (rw [sok, ← hJ]; first | rfl | (rw [Bool.true_and, iw_]; rfl))) (by simp only [go_sem, seval, as_, aa_])
end
section
set_option maxRecDepth 100000
set_option maxHeartbeats 4000000
theorem aa5_ {s : Sl} (h : di_ s = true) : wf s.expr = true ∧ wf s.thn = true := by
 unfold di_ at h
 by_cases k0 : s.kind = 0
 ·simp [k0, d6_] at h; rw [h.1.2, h.2]; exact ⟨aaz_, aaz_⟩
 by_cases k1 : s.kind = 1
 ·simp [k1, d6_] at h; rw [h.2]; exact ⟨no_ h.1.2, aaz_⟩
 by_cases k2 : s.kind = 2
 ·simp [k2, d6_] at h; rw [h.2]; exact ⟨no_ h.1.2, aaz_⟩
 by_cases k3 : s.kind = 3
 ·simp [k3] at h; exact ⟨no_ h.1.2, no_ h.2⟩
 ·simp [k0, k1, k2, k3] at h
theorem ahe_ (s : Sl) (hs : hi_ s = true) (w1 : wf s.expr = true) (w2 : wf s.thn = true) : ACall En 92 [.ag (sC s)] [] [.ag (bC (bof s))] [] := by
 obtain ⟨s1, s2, s3, s4⟩ := h2_ hs
 refine ao_ (fn := Tryz.f92) [] Tryz.func92 rfl rfl (by simp) fun C => ?_
 rw [bb_]
 simp only [Tryz.ntmps92, T7_, List.length_nil, Nat.reduceAdd, Nat.reduceSub, List.replicate_succ, List.replicate_zero, List.cons_append, List.nil_append, bu_]
 refine .seq (.rgn [] (by simp only [go_sem, seval, as_, b1_]; rfl) ?_ ?_)
 ·first | trivial | simp
 refine .seq (.rgn [] (by simp only [go_sem, seval, as_, b1_]; rfl) ?_ ?_)
 ·first | trivial | simp
 refine .seq (.seq (.rgn [] (by simp only [go_sem, seval, as_, b1_]; rfl) ?_ ?_))
 ·first | trivial | simp
 refine .condB (by simp only [go_sem, seval, as_, b1_]; rfl) (by simp only [go_sem, seval, as_, b1_]) (fun h11 => ?_) (fun h11 => ?_)
 ·refine .rgn [bj_ (tm_ s.expr w1 s3)] (by simp only [go_sem, seval, as_, b1_]; rfl) ?_ ?_
  ·first | trivial | simp
  refine .seq (.seq (.rgn [] (by simp only [go_sem, seval, as_, b1_]; rfl) ?_ ?_))
  ·first | trivial | simp
  refine .condB (by simp only [go_sem, seval, as_, b1_]; rfl) (by simp only [go_sem, seval, as_, b1_]) (fun h18 => ?_) (fun h18 => ?_)
  ·refine .rgn [bj_ (tm_ s.thn w2 s4)] (by simp only [go_sem, seval, as_, b1_]; rfl) ?_ ?_
   ·first | trivial | simp
   refine .seq (.rgn [] (by simp only [go_sem, seval, as_, b1_]; rfl) ?_ ?_)
   ·first | trivial | simp
   refine .ret ⟨.inr rfl, ?_⟩
   exact Out.plainL (by simp only [Tryz.results92]; rfl) (by simp only [bd_, bo_, go_sem, seval, as_, b1_] <;> (split <;> rfl)) (by simp only [bn_, go_sem, seval, as_, b1_] <;> (simp at h11 h18; simp [bof, h11, h18, b1_, lm_, lp_, ld_, ex_, f1_, ler, by_])) (by simp only [go_sem, seval, as_, b1_])
  ·refine .skip (.seq (.rgn [] (by simp only [go_sem, seval, as_, b1_]; rfl) ?_ ?_))
   ·first | trivial | simp
   refine .ret ⟨.inr rfl, ?_⟩
   exact Out.plainL (by simp only [Tryz.results92]; rfl) (by simp only [bd_, bo_, go_sem, seval, as_, b1_] <;> (split <;> rfl)) (by simp only [bn_, go_sem, seval, as_, b1_] <;> (simp at h11 h18; simp [bof, h11, h18, b1_, lm_, lp_, ld_, ex_, f1_, ler, by_])) (by simp only [go_sem, seval, as_, b1_])
 ·refine .skip (.seq (.seq (.rgn [] (by simp only [go_sem, seval, as_, b1_]; rfl) ?_ ?_)))
  ·first | trivial | simp
  refine .condB (by simp only [go_sem, seval, as_, b1_]; rfl) (by simp only [go_sem, seval, as_, b1_]) (fun h18 => ?_) (fun h18 => ?_)
  ·refine .rgn [bj_ (tm_ s.thn w2 s4)] (by simp only [go_sem, seval, as_, b1_]; rfl) ?_ ?_
   ·first | trivial | simp
   refine .seq (.rgn [] (by simp only [go_sem, seval, as_, b1_]; rfl) ?_ ?_)
   ·first | trivial | simp
   refine .ret ⟨.inr rfl, ?_⟩
   exact Out.plainL (by simp only [Tryz.results92]; rfl) (by simp only [bd_, bo_, go_sem, seval, as_, b1_] <;> (split <;> rfl)) (by simp only [bn_, go_sem, seval, as_, b1_] <;> (simp at h11 h18; omega)) (by simp only [go_sem, seval, as_, b1_])
  ·refine .skip (.seq (.rgn [] (by simp only [go_sem, seval, as_, b1_]; rfl) ?_ ?_))
   ·first | trivial | simp
   refine .ret ⟨.inr rfl, ?_⟩
   exact Out.plainL (by simp only [Tryz.results92]; rfl) (by simp only [bd_, bo_, go_sem, seval, as_, b1_] <;> (split <;> rfl)) (by simp only [bn_, go_sem, seval, as_, b1_] <;> (simp at h11 h18; simp [bof, h11, h18, b1_, lm_, lp_, ld_, ex_, f1_, ler, by_])) (by simp only [go_sem, seval, as_, b1_])
end
section
set_option maxRecDepth 100000
set_option maxHeartbeats 4000000
end
section
set_option maxRecDepth 100000
set_option maxHeartbeats 4000000
def z4 : List V := [.i .i64 0, .i .i64 0, .s [], .sl true []]
end
section
set_option maxRecDepth 100000
set_option maxHeartbeats 4000000
end
section
open Go.ChangeShapes Go.WideShapes Go.ChangeAt Go.RowKit
set_option maxRecDepth 100000
section
variable {H : Type} {enc : TypeId × Value → H} {P : Program} {W : World}
def Opn (enc : TypeId × Value → H) (P : Program) (W : World) (fuel : Nat) (t : TypeId) (Q : List V → Prop) : Prop :=
 ∀ cs x, DataW.trod enc P W 0 (fun _ => true) true fuel t cs = some x → ∃ vs, Q vs ∧ VRs (fun _ => none) (fun _ => True) W vs cs ∧ vs.all V.one = true
theorem aaa_ {t : TypeId} {k : IntKind} {fuel : Nat} (ht : P.underlying t = some (.int k)) : Opn enc P W fuel t fun vs => ∃ n : Int, vs = [.i k n] ∧ (Lit.int k n).wf = true := fun cs x h => by
 obtain ⟨n, rfl, _, hw⟩ := DataW.trod_int ht h
 exact ⟨_, ⟨n, rfl, hw⟩, .cons (by simp only [VR]) .nil, rfl⟩
theorem ac2_ {t : TypeId} {fuel : Nat} (ht : P.underlying t = some .bool) : Opn enc P W fuel t fun vs => ∃ n : Bool, vs = [.b n] := fun cs x h => by
 obtain ⟨n, rfl, _⟩ := DataW.trod_bool ht h
 exact ⟨_, ⟨n, rfl⟩, .cons (by simp only [VR]) .nil, rfl⟩
theorem t8_ {t : TypeId} {fuel : Nat} (ht : P.underlying t = some .string) : Opn enc P W fuel t fun vs => ∃ s : Str, vs = [.s s] ∧ s.length ≤ maxLen := fun cs x h => by
 obtain ⟨s, rfl, _, hw⟩ := DataW.trod_string ht h
 refine ⟨_, ⟨s.data.toList, rfl, by rw [Array.length_toList]; exact hw⟩, .cons (by simp only [VR]) .nil, rfl⟩
theorem km_ {fs : Array Field} {t : TypeId} {fuel : Nat} {cs : List Value} {x : DataW H × List MemPlace} (ht : P.underlying t = some (.struct fs)) (h : DataW.trod enc P W 0 (fun _ => true) true fuel t cs = some x) {Q : List V → Prop} {f : Field} {i : Nat} (hf : fs[i]? = some f) {off size : Nat} (ho : f.offset = off) (hs : P.cellsOf f.type = size)
  (hq : ∀ n, n + 1 = fuel → Opn enc P W n f.type Q) : cs.length = P.cellsOf t ∧ ∃ vs, Q vs ∧ VRs (fun _ => none) (fun _ => True) W vs ((cs.drop off).take size) ∧ vs.all V.one = true := by
 obtain ⟨xs, n, e1, _, hl, hxl, hx⟩ := DataW.trod_struct ht h
 have hh := hx i f hf
 have hi : i < xs.length := by rw [hxl]; exact (Array.getElem?_eq_some_iff.1 hf).1
 rw [T6_ hi, ho, hs] at hh
 exact ⟨hl, hq n e1.symm _ _ hh⟩
theorem u7_ {base g o z : Nat} {sp : Option _} {cs : List Value} (h : W.cells? base ⟨g, o, sp⟩ z = some cs) : cs.length = z ∧ ∀ j u, cs[j]? = some u → W.cell? ((⟨g, o, sp⟩ : Addr).add j) = some u := by
 unfold World.cells? at h
 split at h
 ·refine ⟨by simpa using mapM_some_length h, fun j u hu => ?_⟩
  have hj : j < z := by
   have h1 := mapM_some_length h
   have h2 := (List.getElem?_eq_some_iff.1 hu).1
   simp at h1; omega
  have := mapM_some_get h j j (by simp [hj])
  rw [this]; exact hu
 ·cases h
theorem ri_ {α : Type} (R : α → List V) (Good : α → Prop) {z g o : Nat} : ∀ n : Nat, (∀ i, i < n → ∃ (a : α) (cs : List Value), Good a ∧ (R a).length = z ∧ VRs (fun _ => none) (fun _ => True) W (R a) cs ∧ (R a).all V.one = true ∧ ∀ j u, cs[j]? = some u → W.cell? ⟨g, o + i * z + j, none⟩ = some u) →
  ∃ l : List α, l.length = n ∧ (∀ a ∈ l, Good a) ∧ ∃ xs, VRr (fun _ => none) (fun _ => True) W z (l.map R) xs ∧ ∀ j u, xs[j]? = some u → W.cell? ⟨g, o + j, none⟩ = some u
 | 0, _ => ⟨[], rfl, fun a ha => (by cases ha), [], .nil, fun j u hu => by simp at hu⟩
 | n + 1, h => by
  obtain ⟨l, hl, hg, xs, hr, hc⟩ := ri_ R Good (z := z) (g := g) (o := o) n fun i hi => h i (by omega)
  obtain ⟨a, cs, ga, hz, hv, h1, hcc⟩ := h n (by omega)
  have hxl : xs.length = n * z := by rw [hr.len, List.length_map, hl]
  have hnew : VRr (fun _ => none) (fun _ => True) W z [R a] (cs ++ []) := .cons hz hv (VRs.ones hv h1) .nil
  refine ⟨l ++ [a], by simp [hl], fun b hb => ?_, xs ++ cs, ?_, fun j u hu => ?_⟩
  ·rcases List.mem_append.1 hb with hb | hb
   ·exact hg b hb
   ·simp at hb; subst hb; exact ga
  ·have := hr.append hnew
   simpa using this
  ·rw [List.getElem?_append] at hu
   split at hu
   ·exact hc j u hu
   ·rename_i hj
    have := hcc _ u hu
    rw [show o + n * z + (j - xs.length) = o + j by omega] at this
    exact this
theorem r5_ {α : Type} (R : α → List V) (Good : α → Prop) {t e : TypeId} {z fuel : Nat} (ht : P.underlying t = some (.slice e)) (hz : P.cellsOf e = z) (hz0 : 0 < z) (hq : ∀ n, n + 1 = fuel → Opn enc P W n e fun vs => ∃ a, vs = R a ∧ Good a) :
  Opn enc P W fuel t fun vs => ∃ l : List α, vs = [.sl false (l.map R)] ∧ l.length ≤ maxLen ∧ ∀ a ∈ l, Good a := fun cs x h => by
 rcases DataW.trod_slice ht h with ⟨rfl, _⟩ | ⟨a, len, cap, elems, rest, n, e1, rfl, _, _, hl, hm, hlen, hel, _⟩
 ·refine ⟨_, ⟨[], rfl, by simp, fun a ha => by cases ha⟩, .cons ?_ .nil, rfl⟩
  simp only [VR]
  exact ⟨none, 0, 1, [], rfl, Nat.le_refl _, by decide, fun _ => rfl, fun h => absurd rfl h, VRr.nil⟩
 ·obtain ⟨g, o, sp⟩ := a
  by_cases h0 : len = 0
  ·subst h0
   refine ⟨_, ⟨[], rfl, by simp, fun a ha => by cases ha⟩, .cons ?_ .nil, rfl⟩
   simp only [VR]
   exact ⟨some ⟨g, o, sp⟩, cap, 1, [], rfl, hl, hm, (fun h => by cases h), (fun h => absurd rfl h), VRr.nil⟩
  ·have hE : ∀ i, i < len → ∃ (a : α) (cs : List Value), Good a ∧ (R a).length = z ∧ VRs (fun _ => none) (fun _ => True) W (R a) cs ∧ (R a).all V.one = true ∧ W.cells? 0 ((⟨g, o, sp⟩ : Addr).add (i * z)) z = some cs := fun i hi => by
    have h1 := hel i hi
    have hi2 : i < elems.length := by omega
    rw [T6_ hi2, hz, Option.bind_eq_some_iff] at h1
    obtain ⟨cs, h2, h3⟩ := h1
    obtain ⟨vs, ⟨a, rfl, ga⟩, hv, h4⟩ := hq n e1.symm _ _ h3
    refine ⟨a, cs, ga, ?_, hv, h4, h2⟩
    rw [← hv.len]
    unfold World.cells? at h2
    split at h2
    ·simpa using mapM_some_length h2
    ·cases h2
   obtain ⟨a0, cs0, _, hz1, hv0, _, hc0⟩ := hE 0 (by omega)
   have hne : 0 < cs0.length := by rw [hv0.len, hz1]; exact hz0
   have hs := (u7_ (by simpa [Addr.add] using hc0)).2 0 cs0[0] (T6_ hne)
   have hsp : sp = none := by simpa [Addr.add] using World.cell?_spot hs
   subst hsp
   have hg : g < W.heap.size := by
    cases hh : W.heap[g]? with
    | none => simp [World.cell?, hh, add_plain] at hs
    | some o => exact (Array.getElem?_eq_some_iff.1 hh).1
   obtain ⟨l, hll, hgood, xs, hr, hc⟩ := ri_ R Good (W := W) (z := z) (g := g) (o := o) len fun i hi => by
    obtain ⟨a, cs, k1, k2, k3, k4, k5⟩ := hE i hi
    rw [add_plain] at k5
    exact ⟨a, cs, k1, k2, k3, k4, fun j u hu => by have := (u7_ k5).2 j u hu; rwa [add_plain] at this⟩
   refine ⟨_, ⟨l, rfl, by omega, hgood⟩, .cons ?_ .nil, rfl⟩
   simp only [VR, List.length_map]
   exact ⟨some ⟨g, o, none⟩, cap, z, xs, by rw [hll], by omega, hm, (fun h => by cases h), (fun _ => ⟨g, o, rfl, trivial, hg, hc⟩), hr⟩
theorem na_ {φ : Phi} {S : Nat → Prop} {vs us : List V} {cs : List Value} {a b c : Nat} (h : VRs φ S W vs ((cs.drop a).take b)) (hc : a + b = c) (k : VRs φ S W us (cs.drop c)) : VRs φ S W (vs ++ us) (cs.drop a) := by
 subst hc
 have := h.append k
 rw [← List.drop_drop, List.take_append_drop] at this
 exact this
theorem adq_ {φ : Phi} {S : Nat → Prop} {vs : List V} {cs : List Value} {a b : Nat} (h : VRs φ S W vs ((cs.drop a).take b)) (hl : cs.length = a + b) : VRs φ S W vs (cs.drop a) := by
 rw [T1_ (by rw [List.length_drop]; omega)] at h; exact h
end
theorem afv_ : Tryz.prog.cellsOf 3 = 1 := by kernel_rfl
theorem xy_ : Tryz.prog.cellsOf 9 = 1 := by kernel_rfl
section
variable {H : Type} {enc : TypeId × Value → H} {W : World}
theorem z9_ {r : Reach} {base : Nat} {v0 : Value} {d0 : DataW H} {p : List MemPlace} (hv : Value.okWide Tryz.prog W r base 9 v0) (h0 : DataW.Trod enc Tryz.prog W 0 (fun _ => true) true 9 v0 d0 p) :
  ∃ b : Str, b.length ≤ 9223372036854775807 ∧ VR (fun _ => none) (fun _ => True) W (.s b) v0 := by
 obtain ⟨fuel, h⟩ := h0
 obtain ⟨_, ⟨s, rfl, hs⟩, hr, _⟩ := t8_ (enc := enc) (P := Tryz.prog) (W := W) Tryz.underlying9 _ _ h
 have hm : maxLen = 9223372036854775807 := by decide
 obtain ⟨x, rfl⟩ := okWide_string Tryz.underlying9 hv
 refine ⟨s, by omega, ?_⟩
 simpa [Value.cells, VRs] using hr
theorem uq_ {r : Reach} {base : Nat} {v0 : Value} {d0 : DataW H} {p : List MemPlace} (hv : Value.okWide Tryz.prog W r base 3 v0) (h0 : DataW.Trod enc Tryz.prog W 0 (fun _ => true) true 3 v0 d0 p) :
  ∃ b : Int, (-9223372036854775808 ≤ b ∧ b < 9223372036854775808) ∧ VR (fun _ => none) (fun _ => True) W (.i .i64 b) v0 := by
 obtain ⟨fuel, h⟩ := h0
 obtain ⟨_, ⟨s, rfl, hs⟩, hr, _⟩ := aaa_ (enc := enc) (P := Tryz.prog) (W := W) Tryz.underlying3 _ _ h
 obtain ⟨x, rfl⟩ := okWide_int Tryz.underlying3 hv
 have h1 : IntKind.i64.min = -9223372036854775808 := rfl
 have h2 : IntKind.i64.max = 9223372036854775807 := rfl
 simp only [Lit.wf, T5_, T3_, h1, h2] at hs
 refine ⟨s, by omega, ?_⟩
 simpa [Value.cells, VRs] using hr
end
end
end Go.Proofs.YtefmbmafdgedmaaGreatDoor
