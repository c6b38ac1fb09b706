/- Lines with types: words, text, ok: the program's and the reference's; without types. Conditions: none. -/
import Derived.Test.YtpikbndepapbhaaGreatDoorKj
set_option linter.unusedVariables false
set_option linter.unusedSimpArgs false
namespace Go.Proofs.YtpikbndepapbhaaGreatDoor
section
set_option maxRecDepth 100000
set_option maxHeartbeats 4000000
def ds_ (s : Sl) : Wd :=
 if s.kind = 1 then (hz_, 100) :: (s.name, 101) :: (hk_, -1) :: (s.type, -1) :: (wEq, 102) :: src s.expr 0 0
 else if s.kind = 2 then (br_, 103) :: src s.expr 0 0
 else if s.kind = 3 then ((dp_, 100) :: src s.expr 0 0 ++ [(br_, 103)]) ++ src s.thn 0 (cnt s.expr)
 else []
theorem f6_ {s : Sl} (h : cw_ s = true) : (s.kind = 0 ∨ s.kind = 1 ∨ s.kind = 2 ∨ s.kind = 3) ∧ (s.kind = 1 ∨ s.kind = 2 ∨ s.kind = 3 → eok s.expr = true) ∧ (s.kind = 3 → eok s.thn = true) := by
 unfold cw_ at h
 by_cases k0 : s.kind = 0
 ·simp [k0]
 by_cases k1 : s.kind = 1
 ·simp [k1] at h; simp [k1]; exact h.1.2
 by_cases k2 : s.kind = 2
 ·simp [k2] at h; simp [k2]; exact h.1.2
 by_cases k3 : s.kind = 3
 ·simp [k3] at h; simp [k3]; exact ⟨h.1.2, h.2⟩
 ·simp [k0, k1, k2, k3] at h
theorem n3_ {s : Sl} (h : cw_ s = true) : (ds_ s).map (·.1) = sw' s := by
 obtain ⟨h0, h1, h2⟩ := f6_ h
 unfold ds_ sw'
 rcases h0 with k | k | k | k
 ·simp [k]
 ·simp [k, el_, ex_ (bt_ (h1 (.inl k)))]
 ·simp [k, el_, ex_ (bt_ (h1 (.inr (.inl k))))]
 ·simp [k, el_, ex_ (bt_ (h1 (.inr (.inr k)))), ex_ (bt_ (h2 k))]
theorem w9_ (s : Sl) (h : cw_ s = true) (hs : e1_ s = true) : ACall En 87 [.ag (sC s)] [] [.sl false (wdR (ds_ s))] [] := by
 obtain ⟨h0, h1, h2⟩ := f6_ h
 obtain ⟨s1, s1', s2, s3⟩ := gj_ hs
 have W : s.kind = 1 ∨ s.kind = 2 ∨ s.kind = 3 → _ := fun hk => l3_ 5 s.expr 0 0 (bt_ (h1 hk)) s2 (h0_ (h1 hk)) (by decide) (by have := kj_ (h1 hk); omega) (by decide)
 have W3 : s.kind = 3 → _ := fun hk => l3_ 5 s.thn 0 (0 + cnt s.expr) (bt_ (h2 hk)) s3 (h0_ (h2 hk)) (by have := kj_ (h1 (.inr (.inr hk))); omega) (by have := kj_ (h1 (.inr (.inr hk))); have := kj_ (h2 hk); omega) (by decide)
 refine al_ (fn := Tryz.f87) [] Tryz.func87 rfl rfl (by simp) fun C => ?_
 rw [aw_]
 simp only [Tryz.ntmps87, T7_, List.length_nil, Nat.reduceAdd, Nat.reduceSub, List.replicate_succ, List.replicate_zero, List.cons_append, List.nil_append, bo_]
 refine .seq (.rgn [] (by simp only [go_sem, seval, ai_, af_, T2_, T1_, am_]; rfl) ?_ ?_)
 ·(first | trivial | (simp; done) | (simp [bz_, List.forall_mem_append, bi_]; done))
 refine .seq (.rgn [] (by simp only [go_sem, seval, ai_, af_, T2_, T1_, am_]; rfl) ?_ ?_)
 ·(first | trivial | (simp; done) | (simp [bz_, List.forall_mem_append, bi_]; done))
 refine .seq (.seq (.rgn [] (by simp only [go_sem, seval, ai_, af_, T2_, T1_, am_]; rfl) ?_ ?_))
 ·(first | trivial | (simp; done) | (simp [bz_, List.forall_mem_append, bi_]; done))
 refine .block (.seq (.rgn [] (by simp only [go_sem, seval, ai_, af_, T2_, T1_, am_]; rfl) ?_ ?_))
 ·(first | trivial | (simp; done) | (simp [bz_, List.forall_mem_append, bi_]; done))
 refine .condB (by simp only [go_sem, seval, ai_, af_, T2_, T1_, am_]; rfl) (by simp only [go_sem, seval, ai_, af_, T2_, T1_, am_]) (fun h7 => ?_) (fun h7 => ?_)
 ·refine .seq (.rgnD [bs_ [13] [31] (W (.inl (by simpa using h7)))] enM (by simp only [go_sem, seval, ai_, af_, T2_, T1_, am_, ag_, ak_]; rfl) (by rfl) ?_ ?_)
  ·have q := h1 (.inl (by simpa using h7)); have q2 := (gq_ q 0 0); have q3 : src s.expr 0 0 ≠ [] := (fun e => by have := (cj_ q 0).1; rw [← i0_ s.expr 0 0, e] at this; simp at this); simp [bz_, bi_, q3, fe_]; omega
  refine .frz 32 (by simp only [go_sem, seval, ai_, af_, T2_, T1_, am_]; rfl) (by simp only [go_sem, seval, ai_, af_, T2_, T1_, am_]) (by simp only [go_sem, seval, ai_, af_, T2_, T1_, am_]; rfl) (by simp only [go_sem, seval, ai_, af_, T2_, T1_, am_]; rfl) ?_
  refine .ret ⟨.inr rfl, ?_⟩
  exact Out.plain (by simp only [Tryz.results87]; rfl) (by simp only [ay_, a6_, go_sem, seval, ai_, af_, T2_, T1_, am_] <;> (split <;> rfl)) (by simp only [a5_, go_sem, seval, ai_, af_, T2_, T1_, am_] <;> (have k : s.kind = 1 := (by simpa using h7); rw [if_pos (by omega), T1_ (by simp [ai_]; omega)]; simp [ds_, k, wdR, peel, wEq, hz_, hk_])) (by simp only [go_sem, seval, ai_, af_, T2_, T1_, am_])
 ·refine .seq (.rgn [] (by simp only [go_sem, seval, ai_, af_, T2_, T1_, am_]; rfl) ?_ ?_)
  ·(first | trivial | (simp; done) | (simp [bz_, List.forall_mem_append, bi_]; done))
  refine .condB (by simp only [go_sem, seval, ai_, af_, T2_, T1_, am_]; rfl) (by simp only [go_sem, seval, ai_, af_, T2_, T1_, am_]) (fun h23 => ?_) (fun h23 => ?_)
  ·refine .seq (.rgn [bs_ [13] [39] (W (.inr (.inl (by simpa using h23))))] (by simp only [go_sem, seval, ai_, af_, T2_, T1_, am_, ag_, ak_]; rfl) ?_ ?_)
   ·have q := h1 (.inr (.inl (by simpa using h23))); have q2 := (gq_ q 0 0); have q3 : src s.expr 0 0 ≠ [] := (fun e => by have := (cj_ q 0).1; rw [← i0_ s.expr 0 0, e] at this; simp at this); simp [bz_, bi_, q3, fe_]; omega
   refine .frz 40 (by simp only [go_sem, seval, ai_, af_, T2_, T1_, am_]; rfl) (by simp only [go_sem, seval, ai_, af_, T2_, T1_, am_]) (by simp only [go_sem, seval, ai_, af_, T2_, T1_, am_]; rfl) (by simp only [go_sem, seval, ai_, af_, T2_, T1_, am_]; rfl) ?_
   refine .ret ⟨.inr rfl, ?_⟩
   exact Out.plain (by simp only [Tryz.results87]; rfl) (by simp only [ay_, a6_, go_sem, seval, ai_, af_, T2_, T1_, am_] <;> (split <;> rfl)) (by simp only [a5_, go_sem, seval, ai_, af_, T2_, T1_, am_] <;> (have k : s.kind = 2 := (by simpa using h23); rw [if_pos (by omega), T1_ (by simp [ai_]; omega)]; simp [ds_, k, wdR, peel, br_])) (by simp only [go_sem, seval, ai_, af_, T2_, T1_, am_])
  ·refine .seq (.rgn [] (by simp only [go_sem, seval, ai_, af_, T2_, T1_, am_]; rfl) ?_ ?_)
   ·(first | trivial | (simp; done) | (simp [bz_, List.forall_mem_append, bi_]; done))
   refine .condB (by simp only [go_sem, seval, ai_, af_, T2_, T1_, am_]; rfl) (by simp only [go_sem, seval, ai_, af_, T2_, T1_, am_]) (fun h31 => ?_) (fun h31 => ?_)
   ·refine .seq (.rgn [bs_ [13] [47] (W (.inr (.inr (by simpa using h31))))] (by simp only [go_sem, seval, ai_, af_, T2_, T1_, am_, ag_, ak_]; rfl) ?_ ?_)
    ·have q := h1 (.inr (.inr (by simpa using h31))); have q2 := (gq_ q 0 0); have q3 : src s.expr 0 0 ≠ [] := (fun e => by have := (cj_ q 0).1; rw [← i0_ s.expr 0 0, e] at this; simp at this); simp [bz_, bi_, q3, fe_]; omega
    refine .seq (.rgn [] (by simp only [go_sem, seval, ai_, af_, T2_, T1_, am_]; rfl) ?_ ?_)
    ·have q := h1 (.inr (.inr (by simpa using h31))); have q2 := (gq_ q 0 0); simp [bz_, bi_]; omega
    refine .seq (.rgn [bs_ [13] [56] (W3 (by simpa using h31))] (by simp only [go_sem, seval, ai_, af_, T2_, T1_, am_, ag_, ak_]; rfl) ?_ ?_)
    ·have q := h1 (.inr (.inr (by simpa using h31))); have q2 := (gq_ q 0 0); have q4 := gq_ (h2 (by simpa using h31)) 0 (0 + cnt s.expr); simp at q4; simp [bz_, bi_]; omega
    refine .frz 57 (by simp only [go_sem, seval, ai_, af_, T2_, T1_, am_]; rfl) (by simp only [go_sem, seval, ai_, af_, T2_, T1_, am_]) (by simp only [go_sem, seval, ai_, af_, T2_, T1_, am_]; rfl) (by simp only [go_sem, seval, ai_, af_, T2_, T1_, am_]; rfl) ?_
    refine .ret ⟨.inr rfl, ?_⟩
    exact Out.plain (by simp only [Tryz.results87]; rfl) (by simp only [ay_, a6_, go_sem, seval, ai_, af_, T2_, T1_, am_] <;> (split <;> rfl)) (by simp only [a5_, go_sem, seval, ai_, af_, T2_, T1_, am_] <;> (have k : s.kind = 3 := (by simpa using h31); rw [if_pos (by omega), T1_ (by simp [ai_]; omega)]; simp [ds_, k, wdR, peel, br_, dp_])) (by simp only [go_sem, seval, ai_, af_, T2_, T1_, am_])
   ·refine .skip (.seq (.rgn [] (by simp only [go_sem, seval, ai_, af_, T2_, T1_, am_]; rfl) ?_ ?_))
    ·(first | trivial | (simp; done) | (simp [bz_, List.forall_mem_append, bi_]; done))
    refine .can (Can.slotLe 2 (.sl false []) (by simp only [go_sem, seval, ai_, af_, T2_, T1_, am_] <;> trivial) (by simp only [go_sem, seval, ai_, af_, T2_, T1_, am_] <;> rfl)) ?_
    refine .ret ⟨.inr rfl, ?_⟩
    exact Out.plain (by simp only [Tryz.results87]; rfl) (by simp only [ay_, a6_, go_sem, seval, ai_, af_, T2_, T1_, am_] <;> (split <;> rfl)) (by simp only [a5_, go_sem, seval, ai_, af_, T2_, T1_, am_] <;> (have k : s.kind = 0 := (by simp_all); simp [ds_, k, wdR])) (by simp only [go_sem, seval, ai_, af_, T2_, T1_, am_])
theorem mf_ {s : Sl} (h : cw_ s = true) : (by_ (sw' s)).length ≤ 1000 := by
 have := l4_ h
 have h2 := pl_ (fun s hs => (this.2 s hs).2)
 omega
theorem ti_ (s : Sl) (h : cw_ s = true) (hs : e1_ s = true) : ACall En 118 [.ag (sC s)] [] [.s (by_ (sw' s))] [] := by
 have h1 := mf_ h
 have h2 := (l4_ h).1
 have h3 := n3_ h
 have h4 : (ds_ s).length = (sw' s).length := by rw [← h3, List.length_map]
 refine al_ (fn := Tryz.f118) [] Tryz.func118 rfl rfl (by simp) fun C => ?_
 rw [aw_]
 simp only [Tryz.ntmps118, T7_, List.length_nil, Nat.reduceAdd, Nat.reduceSub, List.replicate_succ, List.replicate_zero, List.cons_append, List.nil_append, bo_]
 refine .seq (.rgn [] (by simp only [go_sem, seval, am_, af_, h3]; rfl) ?_ ?_)
 ·simp
 refine .seq (.rgn [a4_ (w9_ s h hs), a4_ (jm_ (ds_ s) (by omega)), a4_ (l0_ (sw' s) (by omega) (by omega))] (by simp only [go_sem, seval, am_, af_, h3]; rfl) ?_ ?_)
 ·simp
 refine .ret ⟨.inr rfl, ?_⟩
 exact Out.plain (by simp only [Tryz.results118]; rfl) (by simp only [ay_, a6_, go_sem, seval, am_, af_, h3] <;> (split <;> rfl)) (by simp only [a5_, go_sem, seval, am_, af_, h3] <;> (rfl)) (by simp only [go_sem, seval, am_, af_, h3])
theorem rq_ (s : Sl) (hs : e1_ s = true) : ACall En 80 [.ag (sC s)] [] [.b (sok s)] [] := by
 obtain ⟨s1, s1', s2, s3⟩ := gj_ hs
 refine al_ (fn := Tryz.f80) [] Tryz.func80 rfl rfl (by simp) fun C => ?_
 rw [aw_]
 simp only [Tryz.ntmps80, T7_, List.length_nil, Nat.reduceAdd, Nat.reduceSub, List.replicate_succ, List.replicate_zero, List.cons_append, List.nil_append, bo_]
 refine .seq (.rgn [] (by simp only [go_sem, seval, am_]; rfl) ?_ ?_)
 ·(first | trivial | (simp; done) | exact hJ.symm)
 refine .seq (.rgn [] (by simp only [go_sem, seval, am_]; rfl) ?_ ?_)
 ·(first | trivial | (simp; done) | exact hJ.symm)
 refine .seqJ (fun q : Bool => ⟨[.no, .pt 11 11 0 0, .no, .b q, .no, .no, .no, .no, .no, .no, .no, .no, .no, .no, .no, .no, .no, .no, .no, .no, .no, .no, .no, .no, .no, .no, .no, .no, .no, .no, .no, .no, .no, .no, .no, .no, .no, .no, .no, .no, .no, .no, .no, .no, .no, .no, .no, .no, .no, .no, .no, .no, .no, .no, .no, .no, .no, .no, .no, .no, .no, .no, .no, .no, .no, .no, .no, .no, .no, .no, .no, .no, .no, .no, .no, .no, .no, .no, .no, .no, .no, .no, .no, .no, .no, .no, .no, .no, .no, .no, .no, .no, .no], be_ [(11, ⟨66, 11, [sC s]⟩)], us [11]⟩) (fun q : Bool => q = cw_ s) ?_ (fun q hJ => ?_)
 ·refine .seq (.rgn [] (by simp only [go_sem, seval, am_]; rfl) ?_ ?_)
  ·(first | trivial | (simp; done) | exact hJ.symm)
  refine .block (.seq (.rgn [] (by simp only [go_sem, seval, am_]; rfl) ?_ ?_))
  ·(first | trivial | (simp; done) | exact hJ.symm)
  refine .condB (by simp only [go_sem, seval, am_]; rfl) (by simp only [go_sem, seval, am_]) (fun h6 => ?_) (fun h6 => ?_)
  ·refine .rgn [a4_ (ka_ s.expr s2), a4_ (ka_ s.thn s3)] (by simp only [go_sem, seval, am_]; rfl) ?_ ?_
   ·(first | trivial | (simp; done) | exact hJ.symm)
   refine Exists.intro (cw_ s) ⟨?_, ?_⟩
   ·rfl
   exact Can.weak (Weak.lit (by simp only [go_sem, seval, am_, as_, leV, ap_, ar_, V.inn, us, T9_, Ta_] <;> ((unfold cw_; simp_all))) (by simp only [go_sem, seval, am_, as_, leV, ap_, ar_, V.inn, us, T9_, Ta_]) (by simp only [go_sem, seval, am_, as_, leV, ap_, ar_, V.inn, us, T9_, Ta_]))
  ·refine .seq (.rgn [] (by simp only [go_sem, seval, am_]; rfl) ?_ ?_)
   ·(first | trivial | (simp; done) | exact hJ.symm)
   refine .condB (by simp only [go_sem, seval, am_]; rfl) (by simp only [go_sem, seval, am_]) (fun h26 => ?_) (fun h26 => ?_)
   ·refine .rgn [a4_ (qc_ s.name s1), a4_ (vi_ s.type), a4_ (g5_ s.expr s2), a4_ (ka_ s.thn s3)] (by simp only [go_sem, seval, am_]; rfl) ?_ ?_
    ·(first | trivial | (simp; done) | exact hJ.symm)
    refine Exists.intro (cw_ s) ⟨?_, ?_⟩
    ·rfl
    exact Can.weak (Weak.lit (by simp only [go_sem, seval, am_, as_, leV, ap_, ar_, V.inn, us, T9_, Ta_] <;> ((unfold cw_; simp_all))) (by simp only [go_sem, seval, am_, as_, leV, ap_, ar_, V.inn, us, T9_, Ta_]) (by simp only [go_sem, seval, am_, as_, leV, ap_, ar_, V.inn, us, T9_, Ta_]))
   ·refine .seq (.rgn [] (by simp only [go_sem, seval, am_]; rfl) ?_ ?_)
    ·(first | trivial | (simp; done) | exact hJ.symm)
    refine .condB (by simp only [go_sem, seval, am_]; rfl) (by simp only [go_sem, seval, am_]) (fun h46 => ?_) (fun h46 => ?_)
    ·refine .rgn [a4_ (g5_ s.expr s2), a4_ (ka_ s.thn s3)] (by simp only [go_sem, seval, am_]; rfl) ?_ ?_
     ·(first | trivial | (simp; done) | exact hJ.symm)
     refine Exists.intro (cw_ s) ⟨?_, ?_⟩
     ·rfl
     exact Can.weak (Weak.lit (by simp only [go_sem, seval, am_, as_, leV, ap_, ar_, V.inn, us, T9_, Ta_] <;> ((unfold cw_; simp_all))) (by simp only [go_sem, seval, am_, as_, leV, ap_, ar_, V.inn, us, T9_, Ta_]) (by simp only [go_sem, seval, am_, as_, leV, ap_, ar_, V.inn, us, T9_, Ta_]))
    ·refine .seq (.rgn [] (by simp only [go_sem, seval, am_]; rfl) ?_ ?_)
     ·(first | trivial | (simp; done) | exact hJ.symm)
     refine .condB (by simp only [go_sem, seval, am_]; rfl) (by simp only [go_sem, seval, am_]) (fun h66 => ?_) (fun h66 => ?_)
     ·refine .rgn [a4_ (g5_ s.expr s2), a4_ (g5_ s.thn s3)] (by simp only [go_sem, seval, am_]; rfl) ?_ ?_
      ·(first | trivial | (simp; done) | exact hJ.symm)
      refine Exists.intro (cw_ s) ⟨?_, ?_⟩
      ·rfl
      exact Can.weak (Weak.lit (by simp only [go_sem, seval, am_, as_, leV, ap_, ar_, V.inn, us, T9_, Ta_] <;> ((unfold cw_; simp_all))) (by simp only [go_sem, seval, am_, as_, leV, ap_, ar_, V.inn, us, T9_, Ta_]) (by simp only [go_sem, seval, am_, as_, leV, ap_, ar_, V.inn, us, T9_, Ta_]))
     ·refine .skip ?_
      refine Exists.intro (cw_ s) ⟨?_, ?_⟩
      ·rfl
      exact Can.weak (Weak.lit (by simp only [go_sem, seval, am_, as_, leV, ap_, ar_, V.inn, us, T9_, Ta_] <;> ((unfold cw_; simp_all))) (by simp only [go_sem, seval, am_, as_, leV, ap_, ar_, V.inn, us, T9_, Ta_]) (by simp only [go_sem, seval, am_, as_, leV, ap_, ar_, V.inn, us, T9_, Ta_]))
 cases q
 ·refine .seq (.rgn [cl_ (cw_ s = true) (fun h => ti_ s h hs)] (by simp only [go_sem, seval, am_]; rfl) ?_ ?_)
  ·(first | trivial | (simp; done) | exact hJ.symm)
  refine .ret ⟨.inr rfl, ?_⟩
  exact Out.plain (by simp only [Tryz.results80]; rfl) (by simp only [ay_, a6_, go_sem, seval, am_] <;> (split <;> rfl)) (by simp only [a5_, go_sem, seval, am_] <;> (rw [sok, ← hJ]; first | rfl | (rw [Bool.true_and, h7_]; rfl))) (by simp only [go_sem, seval, am_])
 ·refine .seq (.rgn [cl_ (cw_ s = true) (fun h => ti_ s h hs)] (by simp only [go_sem, seval, am_]; rfl) ?_ ?_)
  ·(first | trivial | (simp; done) | exact hJ.symm)
  refine .ret ⟨.inr rfl, ?_⟩
  exact Out.plain (by simp only [Tryz.results80]; rfl) (by simp only [ay_, a6_, go_sem, seval, am_] <;> (split <;> rfl)) (by simp only [a5_, go_sem, seval, am_] <;> (rw [sok, ← hJ]; first | rfl | (rw [Bool.true_and, h7_]; rfl))) (by simp only [go_sem, seval, am_])
theorem dn_ {s : Sl} (h : sok s = true) : cw_ s = true := by simp only [sok, T5_] at h; exact h.1
def ei_ (s : Sl) : Str := if sok s then by_ (sw' s) else []
theorem vp_ (s : Sl) (hs : e1_ s = true) : ACall En 81 [.ag (sC s)] [] [.s (ei_ s)] [] := by
 refine al_ (fn := Tryz.f81) [] Tryz.func81 rfl rfl (by simp) fun C => ?_
 rw [aw_]
 simp only [Tryz.ntmps81, T7_, List.length_nil, Nat.reduceAdd, Nat.reduceSub, List.replicate_succ, List.replicate_zero, List.cons_append, List.nil_append, bo_]
 refine .seq (.rgn [] (by simp only [go_sem, seval, am_]; rfl) ?_ ?_)
 ·first | trivial | simp
 refine .seq (.seq (.rgn [a4_ (rq_ s hs)] (by simp only [go_sem, seval, am_]; rfl) ?_ ?_))
 ·simp
 refine .condB (by simp only [go_sem, seval, am_]; rfl) (by simp only [go_sem, seval, am_]) (fun h5 => ?_) (fun h5 => ?_)
 ·refine .seq (.rgn [] (by simp only [go_sem, seval, am_]; rfl) ?_ ?_)
  ·first | trivial | simp
  refine .ret ⟨.inr rfl, ?_⟩
  exact Out.plain (by simp only [Tryz.results81]; rfl) (by simp only [ay_, a6_, go_sem, seval, am_] <;> (split <;> rfl)) (by simp only [a5_, go_sem, seval, am_] <;> (simp at h5; simp [ei_, h5])) (by simp only [go_sem, seval, am_])
 ·refine .skip (.seq (.rgn [cl_ (sok s = true) (fun h => ti_ s (dn_ h) hs)] (by simp only [go_sem, seval, am_]; rfl) ?_ ?_))
  ·simpa using h5
  refine .ret ⟨.inr rfl, ?_⟩
  exact Out.plain (by simp only [Tryz.results81]; rfl) (by simp only [ay_, a6_, go_sem, seval, am_] <;> (split <;> rfl)) (by simp only [a5_, go_sem, seval, am_] <;> (simp at h5; simp [ei_, h5])) (by simp only [go_sem, seval, am_])
theorem ib_ (s : Sl) (h : cw_ s = true) (hs : e1_ s = true) : ACall En 109 [.ag (sC s)] [] [.sl false (bp_ (sw' s))] [] := by
 obtain ⟨h0, h1, h2⟩ := f6_ h
 obtain ⟨s1, s1', s2, s3⟩ := gj_ hs
 have W : s.kind = 1 ∨ s.kind = 2 ∨ s.kind = 3 → _ := fun hk => ia_ 5 s.expr 1 (bt_ (h1 hk)) s2 (h0_ (h1 hk)) (by decide) (by decide)
 have W3 : s.kind = 3 → _ := fun hk => ia_ 5 s.thn 1 (bt_ (h2 hk)) s3 (h0_ (h2 hk)) (by decide) (by decide)
 refine al_ (fn := Tryz.f109) [] Tryz.func109 rfl rfl (by simp) fun C => ?_
 rw [aw_]
 simp only [Tryz.ntmps109, T7_, List.length_nil, Nat.reduceAdd, Nat.reduceSub, List.replicate_succ, List.replicate_zero, List.cons_append, List.nil_append, bo_]
 refine .seq (.rgn [] (by simp only [go_sem, seval, ab_, aa_, T2_, T1_, am_]; rfl) ?_ ?_)
 ·(first | trivial | (simp; done) | (simp [bg_]; done))
 refine .seq (.seq (.rgn [] (by simp only [go_sem, seval, ab_, aa_, T2_, T1_, am_]; rfl) ?_ ?_))
 ·(first | trivial | (simp; done) | (simp [bg_]; done))
 refine .block (.seq (.rgn [] (by simp only [go_sem, seval, ab_, aa_, T2_, T1_, am_]; rfl) ?_ ?_))
 ·(first | trivial | (simp; done) | (simp [bg_]; done))
 refine .condB (by simp only [go_sem, seval, ab_, aa_, T2_, T1_, am_]; rfl) (by simp only [go_sem, seval, ab_, aa_, T2_, T1_, am_]) (fun h6 => ?_) (fun h6 => ?_)
 ·refine .seq (.rgnD [a4_ (W (.inl (by simpa using h6)))] enM (by simp only [go_sem, seval, ab_, aa_, T2_, T1_, am_]; rfl) (by rfl) ?_ ?_)
  ·have q := h1 (.inl (by simpa using h6)); have q2 := (cj_ q 1); have q3 := x2_ q 1; simp [bz_, bg_, q3, j0_]; omega
  refine .frz 26 (by simp only [go_sem, seval, ab_, aa_, T2_, T1_, am_]; rfl) (by simp only [go_sem, seval, ab_, aa_, T2_, T1_, am_]) (by simp only [go_sem, seval, ab_, aa_, T2_, T1_, am_]; rfl) (by simp only [go_sem, seval, ab_, aa_, T2_, T1_, am_]; rfl) ?_
  refine .ret ⟨.inr rfl, ?_⟩
  exact Out.plain (by simp only [Tryz.results109]; rfl) (by simp only [ay_, a6_, go_sem, seval, ab_, aa_, T2_, T1_, am_] <;> (split <;> rfl)) (by simp only [a5_, go_sem, seval, ab_, aa_, T2_, T1_, am_] <;> (have k : s.kind = 1 := (by simpa using h6); rw [if_pos (by omega), T1_ (by simp [ab_]; omega)]; simp [sw', k, bp_, peel, wEq, hz_, hk_])) (by simp only [go_sem, seval, ab_, aa_, T2_, T1_, am_])
 ·refine .seq (.rgn [] (by simp only [go_sem, seval, ab_, aa_, T2_, T1_, am_]; rfl) ?_ ?_)
  ·(first | trivial | (simp; done) | (simp [bg_]; done))
  refine .condB (by simp only [go_sem, seval, ab_, aa_, T2_, T1_, am_]; rfl) (by simp only [go_sem, seval, ab_, aa_, T2_, T1_, am_]) (fun h17 => ?_) (fun h17 => ?_)
  ·refine .seq (.rgn [a4_ (W (.inr (.inl (by simpa using h17))))] (by simp only [go_sem, seval, ab_, aa_, T2_, T1_, am_]; rfl) ?_ ?_)
   ·have q := h1 (.inr (.inl (by simpa using h17))); have q2 := (cj_ q 1); have q3 := x2_ q 1; simp [bz_, bg_, q3, j0_]; omega
   refine .frz 33 (by simp only [go_sem, seval, ab_, aa_, T2_, T1_, am_]; rfl) (by simp only [go_sem, seval, ab_, aa_, T2_, T1_, am_]) (by simp only [go_sem, seval, ab_, aa_, T2_, T1_, am_]; rfl) (by simp only [go_sem, seval, ab_, aa_, T2_, T1_, am_]; rfl) ?_
   refine .ret ⟨.inr rfl, ?_⟩
   exact Out.plain (by simp only [Tryz.results109]; rfl) (by simp only [ay_, a6_, go_sem, seval, ab_, aa_, T2_, T1_, am_] <;> (split <;> rfl)) (by simp only [a5_, go_sem, seval, ab_, aa_, T2_, T1_, am_] <;> (have k : s.kind = 2 := (by simpa using h17); rw [if_pos (by omega), T1_ (by simp [ab_]; omega)]; simp [sw', k, bp_, peel, br_])) (by simp only [go_sem, seval, ab_, aa_, T2_, T1_, am_])
  ·refine .seq (.rgn [] (by simp only [go_sem, seval, ab_, aa_, T2_, T1_, am_]; rfl) ?_ ?_)
   ·(first | trivial | (simp; done) | (simp [bg_]; done))
   refine .condB (by simp only [go_sem, seval, ab_, aa_, T2_, T1_, am_]; rfl) (by simp only [go_sem, seval, ab_, aa_, T2_, T1_, am_]) (fun h24 => ?_) (fun h24 => ?_)
   ·refine .seq (.rgn [a4_ (W (.inr (.inr (by simpa using h24))))] (by simp only [go_sem, seval, ab_, aa_, T2_, T1_, am_]; rfl) ?_ ?_)
    ·have q := h1 (.inr (.inr (by simpa using h24))); have q2 := (cj_ q 1); have q3 := x2_ q 1; simp [bz_, bg_, q3, j0_]; omega
    refine .seq (.rgnD [a4_ (W3 (by simpa using h24))] enM (by simp only [go_sem, seval, ab_, aa_, T2_, T1_, am_]; rfl) (by rfl) ?_ ?_)
    ·have q := h1 (.inr (.inr (by simpa using h24))); have q2 := (cj_ q 1); have q4 := cj_ (h2 (by simpa using h24)) 1; simp [bz_, bg_]; omega
    refine .frz 47 (by simp only [go_sem, seval, ab_, aa_, T2_, T1_, am_]; rfl) (by simp only [go_sem, seval, ab_, aa_, T2_, T1_, am_]) (by simp only [go_sem, seval, ab_, aa_, T2_, T1_, am_]; rfl) (by simp only [go_sem, seval, ab_, aa_, T2_, T1_, am_]; rfl) ?_
    refine .ret ⟨.inr rfl, ?_⟩
    exact Out.plain (by simp only [Tryz.results109]; rfl) (by simp only [ay_, a6_, go_sem, seval, ab_, aa_, T2_, T1_, am_] <;> (split <;> rfl)) (by simp only [a5_, go_sem, seval, ab_, aa_, T2_, T1_, am_] <;> (have k : s.kind = 3 := (by simpa using h24); rw [if_pos (by omega), T1_ (by simp [ab_]; omega)]; simp [sw', k, bp_, peel, br_, dp_])) (by simp only [go_sem, seval, ab_, aa_, T2_, T1_, am_])
   ·refine .skip (.seq (.rgn [] (by simp only [go_sem, seval, ab_, aa_, T2_, T1_, am_]; rfl) ?_ ?_))
    ·(first | trivial | (simp; done) | (simp [bg_]; done))
    refine .can (Can.slotLe 2 (.sl false []) (by simp only [go_sem, seval, ab_, aa_, T2_, T1_, am_] <;> trivial) (by simp only [go_sem, seval, ab_, aa_, T2_, T1_, am_] <;> rfl)) ?_
    refine .ret ⟨.inr rfl, ?_⟩
    exact Out.plain (by simp only [Tryz.results109]; rfl) (by simp only [ay_, a6_, go_sem, seval, ab_, aa_, T2_, T1_, am_] <;> (split <;> rfl)) (by simp only [a5_, go_sem, seval, ab_, aa_, T2_, T1_, am_] <;> (have k : s.kind = 0 := (by simp_all); simp [sw', k, bp_])) (by simp only [go_sem, seval, ab_, aa_, T2_, T1_, am_])
theorem m9_ (s : Sl) (hs : e1_ s = true) : ACall En 107 [.ag (sC s)] [] [.b (sok s)] [] := by
 obtain ⟨s1, s1', s2, s3⟩ := gj_ hs
 refine al_ (fn := Tryz.f107) [] Tryz.func107 rfl rfl (by simp) fun C => ?_
 rw [aw_]
 simp only [Tryz.ntmps107, T7_, List.length_nil, Nat.reduceAdd, Nat.reduceSub, List.replicate_succ, List.replicate_zero, List.cons_append, List.nil_append, bo_]
 refine .seq (.rgn [] (by simp only [go_sem, seval, am_, aa_]; rfl) ?_ ?_)
 ·(first | trivial | (simp; done) | exact hJ.symm | exact ⟨hJ.symm, hJ.symm⟩)
 refine .seq (.rgn [] (by simp only [go_sem, seval, am_, aa_]; rfl) ?_ ?_)
 ·(first | trivial | (simp; done) | exact hJ.symm | exact ⟨hJ.symm, hJ.symm⟩)
 refine .seqJ (fun q : Bool => ⟨[.no, .pt 11 11 0 0, .no, .b q, .no, .no, .no, .no, .no, .no, .no, .no, .no, .no, .no, .no, .no, .no, .no, .no, .no, .no, .no, .no, .no, .no, .no, .no, .no, .no, .no, .no, .no, .no, .no, .no, .no, .no, .no, .no, .no, .no, .no, .no, .no, .no, .no, .no, .no, .no, .no, .no, .no, .no, .no, .no, .no, .no, .no, .no, .no, .no, .no, .no, .no, .no, .no, .no, .no, .no, .no, .no, .no, .no, .no, .no, .no, .no, .no, .no, .no, .no, .no, .no, .no, .no, .no, .no, .no, .no, .no, .no, .no, .no], be_ [(11, ⟨66, 11, [sC s]⟩)], us [11]⟩) (fun q : Bool => q = cw_ s) ?_ (fun q hJ => ?_)
 ·refine .seq (.rgn [] (by simp only [go_sem, seval, am_, aa_]; rfl) ?_ ?_)
  ·(first | trivial | (simp; done) | exact hJ.symm | exact ⟨hJ.symm, hJ.symm⟩)
  refine .block (.seq (.rgn [] (by simp only [go_sem, seval, am_, aa_]; rfl) ?_ ?_))
  ·(first | trivial | (simp; done) | exact hJ.symm | exact ⟨hJ.symm, hJ.symm⟩)
  refine .condB (by simp only [go_sem, seval, am_, aa_]; rfl) (by simp only [go_sem, seval, am_, aa_]) (fun h6 => ?_) (fun h6 => ?_)
  ·refine .rgn [a4_ (l2_ s.expr s2), a4_ (l2_ s.thn s3)] (by simp only [go_sem, seval, am_, aa_]; rfl) ?_ ?_
   ·(first | trivial | (simp; done) | exact hJ.symm | exact ⟨hJ.symm, hJ.symm⟩)
   refine Exists.intro (cw_ s) ⟨?_, ?_⟩
   ·rfl
   exact Can.weak (Weak.lit (by simp only [go_sem, seval, am_, aa_, as_, leV, ap_, ar_, V.inn, us, T9_, Ta_] <;> ((unfold cw_; simp_all))) (by simp only [go_sem, seval, am_, aa_, as_, leV, ap_, ar_, V.inn, us, T9_, Ta_]) (by simp only [go_sem, seval, am_, aa_, as_, leV, ap_, ar_, V.inn, us, T9_, Ta_]))
  ·refine .seq (.rgn [] (by simp only [go_sem, seval, am_, aa_]; rfl) ?_ ?_)
   ·(first | trivial | (simp; done) | exact hJ.symm | exact ⟨hJ.symm, hJ.symm⟩)
   refine .condB (by simp only [go_sem, seval, am_, aa_]; rfl) (by simp only [go_sem, seval, am_, aa_]) (fun h26 => ?_) (fun h26 => ?_)
   ·refine .rgn [a4_ (p1_ s.name s1), a4_ (ln_ s.type), a4_ (g4_ s.expr s2), a4_ (l2_ s.thn s3)] (by simp only [go_sem, seval, am_, aa_]; rfl) ?_ ?_
    ·(first | trivial | (simp; done) | exact hJ.symm | exact ⟨hJ.symm, hJ.symm⟩)
    refine Exists.intro (cw_ s) ⟨?_, ?_⟩
    ·rfl
    exact Can.weak (Weak.lit (by simp only [go_sem, seval, am_, aa_, as_, leV, ap_, ar_, V.inn, us, T9_, Ta_] <;> ((unfold cw_; simp_all))) (by simp only [go_sem, seval, am_, aa_, as_, leV, ap_, ar_, V.inn, us, T9_, Ta_]) (by simp only [go_sem, seval, am_, aa_, as_, leV, ap_, ar_, V.inn, us, T9_, Ta_]))
   ·refine .seq (.rgn [] (by simp only [go_sem, seval, am_, aa_]; rfl) ?_ ?_)
    ·(first | trivial | (simp; done) | exact hJ.symm | exact ⟨hJ.symm, hJ.symm⟩)
    refine .condB (by simp only [go_sem, seval, am_, aa_]; rfl) (by simp only [go_sem, seval, am_, aa_]) (fun h46 => ?_) (fun h46 => ?_)
    ·refine .rgn [a4_ (g4_ s.expr s2), a4_ (l2_ s.thn s3)] (by simp only [go_sem, seval, am_, aa_]; rfl) ?_ ?_
     ·(first | trivial | (simp; done) | exact hJ.symm | exact ⟨hJ.symm, hJ.symm⟩)
     refine Exists.intro (cw_ s) ⟨?_, ?_⟩
     ·rfl
     exact Can.weak (Weak.lit (by simp only [go_sem, seval, am_, aa_, as_, leV, ap_, ar_, V.inn, us, T9_, Ta_] <;> ((unfold cw_; simp_all))) (by simp only [go_sem, seval, am_, aa_, as_, leV, ap_, ar_, V.inn, us, T9_, Ta_]) (by simp only [go_sem, seval, am_, aa_, as_, leV, ap_, ar_, V.inn, us, T9_, Ta_]))
    ·refine .seq (.rgn [] (by simp only [go_sem, seval, am_, aa_]; rfl) ?_ ?_)
     ·(first | trivial | (simp; done) | exact hJ.symm | exact ⟨hJ.symm, hJ.symm⟩)
     refine .condB (by simp only [go_sem, seval, am_, aa_]; rfl) (by simp only [go_sem, seval, am_, aa_]) (fun h66 => ?_) (fun h66 => ?_)
     ·refine .rgn [a4_ (g4_ s.expr s2), a4_ (g4_ s.thn s3)] (by simp only [go_sem, seval, am_, aa_]; rfl) ?_ ?_
      ·(first | trivial | (simp; done) | exact hJ.symm | exact ⟨hJ.symm, hJ.symm⟩)
      refine Exists.intro (cw_ s) ⟨?_, ?_⟩
      ·rfl
      exact Can.weak (Weak.lit (by simp only [go_sem, seval, am_, aa_, as_, leV, ap_, ar_, V.inn, us, T9_, Ta_] <;> ((unfold cw_; simp_all))) (by simp only [go_sem, seval, am_, aa_, as_, leV, ap_, ar_, V.inn, us, T9_, Ta_]) (by simp only [go_sem, seval, am_, aa_, as_, leV, ap_, ar_, V.inn, us, T9_, Ta_]))
     ·refine .skip ?_
      refine Exists.intro (cw_ s) ⟨?_, ?_⟩
      ·rfl
      exact Can.weak (Weak.lit (by simp only [go_sem, seval, am_, aa_, as_, leV, ap_, ar_, V.inn, us, T9_, Ta_] <;> ((unfold cw_; simp_all))) (by simp only [go_sem, seval, am_, aa_, as_, leV, ap_, ar_, V.inn, us, T9_, Ta_]) (by simp only [go_sem, seval, am_, aa_, as_, leV, ap_, ar_, V.inn, us, T9_, Ta_]))
 cases q
 ·refine .seq (.rgn [cl_ (cw_ s = true) (fun h => ib_ s h hs), cl_ (cw_ s = true) (fun h => hg_ (sw' s) (by have := (l4_ h).1; omega) (by have := mf_ h; omega))] (by simp only [go_sem, seval, am_, aa_]; rfl) ?_ ?_)
  ·(first | trivial | (simp; done) | exact hJ.symm | exact ⟨hJ.symm, hJ.symm⟩)
  refine .ret ⟨.inr rfl, ?_⟩
  exact Out.plain (by simp only [Tryz.results107]; rfl) (by simp only [ay_, a6_, go_sem, seval, am_, aa_] <;> (split <;> rfl)) (by simp only [a5_, go_sem, seval, am_, aa_] <;> (rw [sok, ← hJ]; first | rfl | (rw [Bool.true_and, h7_]; rfl))) (by simp only [go_sem, seval, am_, aa_])
 ·refine .seq (.rgn [cl_ (cw_ s = true) (fun h => ib_ s h hs), cl_ (cw_ s = true) (fun h => hg_ (sw' s) (by have := (l4_ h).1; omega) (by have := mf_ h; omega))] (by simp only [go_sem, seval, am_, aa_]; rfl) ?_ ?_)
  ·(first | trivial | (simp; done) | exact hJ.symm | exact ⟨hJ.symm, hJ.symm⟩)
  refine .ret ⟨.inr rfl, ?_⟩
  exact Out.plain (by simp only [Tryz.results107]; rfl) (by simp only [ay_, a6_, go_sem, seval, am_, aa_] <;> (split <;> rfl)) (by simp only [a5_, go_sem, seval, am_, aa_] <;> (rw [sok, ← hJ]; first | rfl | (rw [Bool.true_and, h7_]; rfl))) (by simp only [go_sem, seval, am_, aa_])
end
section
set_option maxRecDepth 100000
set_option maxHeartbeats 4000000
theorem aad_ {s : Sl} (h : cw_ s = true) : wf s.expr = true ∧ wf s.thn = true := by
 unfold cw_ at h
 by_cases k0 : s.kind = 0
 ·simp [k0, dl_] at h; rw [h.1.2, h.2]; exact ⟨nn_, nn_⟩
 by_cases k1 : s.kind = 1
 ·simp [k1, dl_] at h; rw [h.2]; exact ⟨iw_ h.1.2, nn_⟩
 by_cases k2 : s.kind = 2
 ·simp [k2, dl_] at h; rw [h.2]; exact ⟨iw_ h.1.2, nn_⟩
 by_cases k3 : s.kind = 3
 ·simp [k3] at h; exact ⟨iw_ h.1.2, iw_ h.2⟩
 ·simp [k0, k1, k2, k3] at h
theorem acv_ (s : Sl) (hs : e1_ s = true) (w1 : wf s.expr = true) (w2 : wf s.thn = true) : ACall En 89 [.ag (sC s)] [] [.ag (bC (bof s))] [] := by
 obtain ⟨s1, s2, s3, s4⟩ := gj_ hs
 refine al_ (fn := Tryz.f89) [] Tryz.func89 rfl rfl (by simp) fun C => ?_
 rw [aw_]
 simp only [Tryz.ntmps89, T7_, List.length_nil, Nat.reduceAdd, Nat.reduceSub, List.replicate_succ, List.replicate_zero, List.cons_append, List.nil_append, bo_]
 refine .seq (.rgn [] (by simp only [go_sem, seval, am_, bm_]; rfl) ?_ ?_)
 ·first | trivial | simp
 refine .seq (.rgn [] (by simp only [go_sem, seval, am_, bm_]; rfl) ?_ ?_)
 ·first | trivial | simp
 refine .seq (.seq (.rgn [] (by simp only [go_sem, seval, am_, bm_]; rfl) ?_ ?_))
 ·first | trivial | simp
 refine .condB (by simp only [go_sem, seval, am_, bm_]; rfl) (by simp only [go_sem, seval, am_, bm_]) (fun h11 => ?_) (fun h11 => ?_)
 ·refine .rgn [a4_ (ud_ s.expr w1 s3)] (by simp only [go_sem, seval, am_, bm_]; rfl) ?_ ?_
  ·first | trivial | simp
  refine .seq (.seq (.rgn [] (by simp only [go_sem, seval, am_, bm_]; rfl) ?_ ?_))
  ·first | trivial | simp
  refine .condB (by simp only [go_sem, seval, am_, bm_]; rfl) (by simp only [go_sem, seval, am_, bm_]) (fun h18 => ?_) (fun h18 => ?_)
  ·refine .rgn [a4_ (ud_ s.thn w2 s4)] (by simp only [go_sem, seval, am_, bm_]; rfl) ?_ ?_
   ·first | trivial | simp
   refine .seq (.rgn [] (by simp only [go_sem, seval, am_, bm_]; rfl) ?_ ?_)
   ·first | trivial | simp
   refine .ret ⟨.inr rfl, ?_⟩
   exact Out.plainL (by simp only [Tryz.results89]; rfl) (by simp only [ay_, a6_, go_sem, seval, am_, bm_] <;> (split <;> rfl)) (by simp only [a5_, go_sem, seval, am_, bm_] <;> (simp at h11 h18; simp [bof, h11, h18, bm_, i8_, iz_, i4_, dj_, d8_, ler, a9_])) (by simp only [go_sem, seval, am_, bm_])
  ·refine .skip (.seq (.rgn [] (by simp only [go_sem, seval, am_, bm_]; rfl) ?_ ?_))
   ·first | trivial | simp
   refine .ret ⟨.inr rfl, ?_⟩
   exact Out.plainL (by simp only [Tryz.results89]; rfl) (by simp only [ay_, a6_, go_sem, seval, am_, bm_] <;> (split <;> rfl)) (by simp only [a5_, go_sem, seval, am_, bm_] <;> (simp at h11 h18; simp [bof, h11, h18, bm_, i8_, iz_, i4_, dj_, d8_, ler, a9_])) (by simp only [go_sem, seval, am_, bm_])
 ·refine .skip (.seq (.seq (.rgn [] (by simp only [go_sem, seval, am_, bm_]; rfl) ?_ ?_)))
  ·first | trivial | simp
  refine .condB (by simp only [go_sem, seval, am_, bm_]; rfl) (by simp only [go_sem, seval, am_, bm_]) (fun h18 => ?_) (fun h18 => ?_)
  ·refine .rgn [a4_ (ud_ s.thn w2 s4)] (by simp only [go_sem, seval, am_, bm_]; rfl) ?_ ?_
   ·first | trivial | simp
   refine .seq (.rgn [] (by simp only [go_sem, seval, am_, bm_]; rfl) ?_ ?_)
   ·first | trivial | simp
   refine .ret ⟨.inr rfl, ?_⟩
   exact Out.plainL (by simp only [Tryz.results89]; rfl) (by simp only [ay_, a6_, go_sem, seval, am_, bm_] <;> (split <;> rfl)) (by simp only [a5_, go_sem, seval, am_, bm_] <;> (simp at h11 h18; omega)) (by simp only [go_sem, seval, am_, bm_])
  ·refine .skip (.seq (.rgn [] (by simp only [go_sem, seval, am_, bm_]; rfl) ?_ ?_))
   ·first | trivial | simp
   refine .ret ⟨.inr rfl, ?_⟩
   exact Out.plainL (by simp only [Tryz.results89]; rfl) (by simp only [ay_, a6_, go_sem, seval, am_, bm_] <;> (split <;> rfl)) (by simp only [a5_, go_sem, seval, am_, bm_] <;> (simp at h11 h18; simp [bof, h11, h18, bm_, i8_, iz_, i4_, dj_, d8_, ler, a9_])) (by simp only [go_sem, seval, am_, bm_])
end
section
set_option maxRecDepth 100000
set_option maxHeartbeats 4000000
def jb_ (b : Str) (q k : Int) (x : Sl) : Sl × Int :=
 if k = 0 then ({ x with kind := w7_ b q [0, 4, 1, 2, 3] }, q + 1)
 else if k = 1 then ({ x with name := ofI b q [[120], [108, 101, 116], [88], []] }, q + 1)
 else if k = 2 then ({ x with type := ofI b q [[105, 110, 116], [116, 101, 120, 116], []] }, q + 1)
 else if k = 3 then ({ x with thn := (gl_ b q).1 }, (gl_ b q).2)
 else (x, q)
def dl5 (b : Str) (p : Int) : Sl × Int := jb_ b ((ce_ b p).2 + 1) (bn_ b (ce_ b p).2 40) (ce_ b p).1
theorem afe_ (b : Str) {p : Int} (hp : 0 ≤ p) (hp2 : p < 100000000) : p ≤ (dl5 b p).2 ∧ (dl5 b p).2 ≤ p + 700 ∧ e1_ (dl5 b p).1 = true := by
 obtain ⟨h1, h2, h3, _⟩ := lk_ b hp hp2
 obtain ⟨s1, s2, s3, s4⟩ := gj_ h3
 have hB := ain_ b (p := (ce_ b p).2 + 1) (by omega) (by omega)
 unfold dl5 jb_
 split
 ·exact ⟨by dsimp only; omega, by dsimp only; omega, h3⟩
 ·split
  ·have l1 := ha_ (b := b) (p := (ce_ b p).2 + 1) (l := [[120], [108, 101, 116], [88], []]) (by decide) (by omega) (by omega) 5 (by decide)
   refine ⟨by dsimp only; omega, by dsimp only; omega, ?_⟩
   simp only [e1_, s2, s3, s4, decide_true, Bool.and_true, T3_]; omega
  ·split
   ·have l1 := ha_ (b := b) (p := (ce_ b p).2 + 1) (l := [[105, 110, 116], [116, 101, 120, 116], []]) (by decide) (by omega) (by omega) 5 (by decide)
    refine ⟨by dsimp only; omega, by dsimp only; omega, ?_⟩
    simp only [e1_, s1, s3, s4, decide_true, Bool.and_true, Bool.true_and, T3_]; omega
   ·split
    ·refine ⟨by dsimp only; omega, by dsimp only; omega, ?_⟩
     simp only [e1_, s1, s2, s3, hB.2.2, decide_true, Bool.and_true]
    ·exact ⟨by dsimp only; omega, by dsimp only; omega, h3⟩
theorem uo_ (b : Str) (p : Int) (hb : b.length ≤ 2000) (hp : 0 ≤ p) (hp2 : p < 100000000) : ACall En 130 [.pt 0 2 0 0] [rdB b p] [.ag (sC (dl5 b p).1)] [rdB b (dl5 b p).2] := by
 obtain ⟨h1, h2, h3, w1, w2, _⟩ := lk_ b hp hp2
 refine al_ (fn := Tryz.f130) [0] Tryz.func130 rfl rfl (by simp) fun C => ?_
 rw [aw_]
 simp only [Tryz.ntmps130, T7_, List.length_nil, Nat.reduceAdd, Nat.reduceSub, List.replicate_succ, List.replicate_zero, List.cons_append, List.nil_append, bo_]
 refine .seq (.rgn [] (by simp only [go_sem, seval, ag_, ak_, ax_, au_, ao_, an_, am_]; rfl) ?_ ?_)
 ·first | trivial | simp
 refine .seq (.rgn [bs_ [0] [] (wy_ b p hb hp hp2)] (by simp only [go_sem, seval, ag_, ak_, ax_, au_, ao_, an_, am_]; rfl) ?_ ?_)
 ·first | trivial | simp
 refine .seq (.seq (.rgn [bs_ [0] [] (dr_ b (ce_ b p).2 40 hb (by omega) (by omega))] (by simp only [go_sem, seval, ag_, ak_, ax_, au_, ao_, an_, am_]; rfl) ?_ ?_))
 ·first | trivial | simp
 refine .block (.seq (.rgn [] (by simp only [go_sem, seval, ag_, ak_, ax_, au_, ao_, an_, am_]; rfl) ?_ ?_))
 ·first | trivial | simp
 refine .condB (by simp only [go_sem, seval, ag_, ak_, ax_, au_, ao_, an_, am_]; rfl) (by simp only [go_sem, seval, ag_, ak_, ax_, au_, ao_, an_, am_]) (fun h8 => ?_) (fun h8 => ?_)
 ·refine .rgn [bs_ [0] [] (rk_ b ((ce_ b p).2 + 1) [0, 4, 1, 2, 3] (by decide) hb (by omega) (by omega))] (by simp only [go_sem, seval, ag_, ak_, ax_, au_, ao_, an_, am_]; rfl) ?_ ?_
  ·first | trivial | simp
  refine .seq (.rgn [] (by simp only [go_sem, seval, ag_, ak_, ax_, au_, ao_, an_, am_]; rfl) ?_ ?_)
  ·first | trivial | simp
  refine .ret ⟨.inr rfl, ?_⟩
  exact Out.mem' (by simp only [Tryz.results130]; rfl) (by simp only [ay_, a6_, go_sem, seval, ag_, ak_, ax_, au_, ao_, an_, am_]) (by simp only [a5_, rns, rn, go_sem, seval, ag_, ak_, ax_, au_, ao_, an_, am_] <;> (simp at h8; simp [dl5, jb_, h8])) (by simp) rfl (by decide) (by simp only [go_sem, seval, ag_, ak_, ax_, au_, ao_, an_, am_]) (by simp only [ak_, go_sem, seval, ag_, ak_, ax_, au_, ao_, an_, am_]) (by simp only [ag_, go_sem, seval, ag_, ak_, ax_, au_, ao_, an_, am_] <;> (simp at h8; simp [dl5, jb_, h8]))
 ·refine .seq (.rgn [] (by simp only [go_sem, seval, ag_, ak_, ax_, au_, ao_, an_, am_]; rfl) ?_ ?_)
  ·first | trivial | simp
  refine .condB (by simp only [go_sem, seval, ag_, ak_, ax_, au_, ao_, an_, am_]; rfl) (by simp only [go_sem, seval, ag_, ak_, ax_, au_, ao_, an_, am_]) (fun h14 => ?_) (fun h14 => ?_)
  ·refine .rgn [bs_ [0] [] (qx_ b ((ce_ b p).2 + 1) [[120], [108, 101, 116], [88], []] (by decide) hb (by omega) (by omega))] (by simp only [go_sem, seval, ag_, ak_, ax_, au_, ao_, an_, am_]; rfl) ?_ ?_
   ·first | trivial | simp
   refine .seq (.rgn [] (by simp only [go_sem, seval, ag_, ak_, ax_, au_, ao_, an_, am_]; rfl) ?_ ?_)
   ·first | trivial | simp
   refine .ret ⟨.inr rfl, ?_⟩
   exact Out.mem' (by simp only [Tryz.results130]; rfl) (by simp only [ay_, a6_, go_sem, seval, ag_, ak_, ax_, au_, ao_, an_, am_]) (by simp only [a5_, rns, rn, go_sem, seval, ag_, ak_, ax_, au_, ao_, an_, am_] <;> (simp at h8 h14; simp [dl5, jb_, h8, h14])) (by simp) rfl (by decide) (by simp only [go_sem, seval, ag_, ak_, ax_, au_, ao_, an_, am_]) (by simp only [ak_, go_sem, seval, ag_, ak_, ax_, au_, ao_, an_, am_]) (by simp only [ag_, go_sem, seval, ag_, ak_, ax_, au_, ao_, an_, am_] <;> (simp at h8 h14; simp [dl5, jb_, h8, h14]))
  ·refine .seq (.rgn [] (by simp only [go_sem, seval, ag_, ak_, ax_, au_, ao_, an_, am_]; rfl) ?_ ?_)
   ·first | trivial | simp
   refine .condB (by simp only [go_sem, seval, ag_, ak_, ax_, au_, ao_, an_, am_]; rfl) (by simp only [go_sem, seval, ag_, ak_, ax_, au_, ao_, an_, am_]) (fun h20 => ?_) (fun h20 => ?_)
   ·refine .rgn [bs_ [0] [] (qx_ b ((ce_ b p).2 + 1) [[105, 110, 116], [116, 101, 120, 116], []] (by decide) hb (by omega) (by omega))] (by simp only [go_sem, seval, ag_, ak_, ax_, au_, ao_, an_, am_]; rfl) ?_ ?_
    ·first | trivial | simp
    refine .seq (.rgn [] (by simp only [go_sem, seval, ag_, ak_, ax_, au_, ao_, an_, am_]; rfl) ?_ ?_)
    ·first | trivial | simp
    refine .ret ⟨.inr rfl, ?_⟩
    exact Out.mem' (by simp only [Tryz.results130]; rfl) (by simp only [ay_, a6_, go_sem, seval, ag_, ak_, ax_, au_, ao_, an_, am_]) (by simp only [a5_, rns, rn, go_sem, seval, ag_, ak_, ax_, au_, ao_, an_, am_] <;> (simp at h8 h14 h20; simp [dl5, jb_, h8, h14, h20])) (by simp) rfl (by decide) (by simp only [go_sem, seval, ag_, ak_, ax_, au_, ao_, an_, am_]) (by simp only [ak_, go_sem, seval, ag_, ak_, ax_, au_, ao_, an_, am_]) (by simp only [ag_, go_sem, seval, ag_, ak_, ax_, au_, ao_, an_, am_] <;> (simp at h8 h14 h20; simp [dl5, jb_, h8, h14, h20]))
   ·refine .seq (.rgn [] (by simp only [go_sem, seval, ag_, ak_, ax_, au_, ao_, an_, am_]; rfl) ?_ ?_)
    ·first | trivial | simp
    refine .condB (by simp only [go_sem, seval, ag_, ak_, ax_, au_, ao_, an_, am_]; rfl) (by simp only [go_sem, seval, ag_, ak_, ax_, au_, ao_, an_, am_]) (fun h26 => ?_) (fun h26 => ?_)
    ·refine .rgn [bs_ [0] [] (afq_ b ((ce_ b p).2 + 1) hb (by omega) (by omega))] (by simp only [go_sem, seval, ag_, ak_, ax_, au_, ao_, an_, am_]; rfl) ?_ ?_
     ·first | trivial | simp
     refine .seq (.rgn [] (by simp only [go_sem, seval, ag_, ak_, ax_, au_, ao_, an_, am_]; rfl) ?_ ?_)
     ·first | trivial | simp
     refine .ret ⟨.inr rfl, ?_⟩
     exact Out.mem' (by simp only [Tryz.results130]; rfl) (by simp only [ay_, a6_, go_sem, seval, ag_, ak_, ax_, au_, ao_, an_, am_]) (by simp only [a5_, rns, rn, go_sem, seval, ag_, ak_, ax_, au_, ao_, an_, am_] <;> (simp at h8 h14 h20 h26; simp [dl5, jb_, h8, h14, h20, h26])) (by simp) rfl (by decide) (by simp only [go_sem, seval, ag_, ak_, ax_, au_, ao_, an_, am_]) (by simp only [ak_, go_sem, seval, ag_, ak_, ax_, au_, ao_, an_, am_]) (by simp only [ag_, go_sem, seval, ag_, ak_, ax_, au_, ao_, an_, am_] <;> (simp at h8 h14 h20 h26; simp [dl5, jb_, h8, h14, h20, h26]))
    ·refine .skip (.seq (.rgn [] (by simp only [go_sem, seval, ag_, ak_, ax_, au_, ao_, an_, am_]; rfl) ?_ ?_))
     ·first | trivial | simp
     refine .ret ⟨.inr rfl, ?_⟩
     exact Out.mem' (by simp only [Tryz.results130]; rfl) (by simp only [ay_, a6_, go_sem, seval, ag_, ak_, ax_, au_, ao_, an_, am_]) (by simp only [a5_, rns, rn, go_sem, seval, ag_, ak_, ax_, au_, ao_, an_, am_] <;> (simp at h8 h14 h20 h26; simp [dl5, jb_, h8, h14, h20, h26])) (by simp) rfl (by decide) (by simp only [go_sem, seval, ag_, ak_, ax_, au_, ao_, an_, am_]) (by simp only [ak_, go_sem, seval, ag_, ak_, ax_, au_, ao_, an_, am_]) (by simp only [ag_, go_sem, seval, ag_, ak_, ax_, au_, ao_, an_, am_] <;> (simp at h8 h14 h20 h26; simp [dl5, jb_, h8, h14, h20, h26]))
end
end Go.Proofs.YtpikbndepapbhaaGreatDoor
