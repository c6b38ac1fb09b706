/- Lines with types: words, text, ok: the program's and the reference's; without types. Conditions: none. -/
import Derived.Test.YtilppnadkfgnfaaGreatDoorKj
set_option linter.unusedVariables false
set_option linter.unusedSimpArgs false
namespace Go.Proofs.YtilppnadkfgnfaaGreatDoor
section
set_option maxRecDepth 100000
set_option maxHeartbeats 4000000
def df_ (s : Sl) : Wd :=
 if s.kind = 1 then (hs_, 100) :: (s.name, 101) :: (hf_, -1) :: (s.type, -1) :: (wEq, 102) :: src s.expr 0 0
 else if s.kind = 2 then (bs_, 103) :: src s.expr 0 0
 else if s.kind = 3 then ((dh_, 100) :: src s.expr 0 0 ++ [(bs_, 103)]) ++ src s.thn 0 (cnt s.expr)
 else []
theorem fw_ {s : Sl} (h : cn_ s = true) : (s.kind = 0 ∨ s.kind = 1 ∨ s.kind = 2 ∨ s.kind = 3) ∧ (s.kind = 1 ∨ s.kind = 2 ∨ s.kind = 3 → eok s.expr = true) ∧ (s.kind = 3 → eok s.thn = true) := by
 unfold cn_ at h
 by_cases k0 : s.kind = 0
 ·simp [k0]
 by_cases k1 : s.kind = 1
 ·simp [k1] at h; simp [k1]; exact h.1.2
 by_cases k2 : s.kind = 2
 ·simp [k2] at h; simp [k2]; exact h.1.2
 by_cases k3 : s.kind = 3
 ·simp [k3] at h; simp [k3]; exact ⟨h.1.2, h.2⟩
 ·simp [k0, k1, k2, k3] at h
theorem k8_ {s : Sl} (h : cn_ s = true) : (df_ s).map (·.1) = sw' s := by
 obtain ⟨h0, h1, h2⟩ := fw_ h
 unfold df_ sw'
 rcases h0 with k | k | k | k
 ·simp [k]
 ·simp [k, ec_, eq_ (bt_ (h1 (.inl k)))]
 ·simp [k, ec_, eq_ (bt_ (h1 (.inr (.inl k))))]
 ·simp [k, ec_, eq_ (bt_ (h1 (.inr (.inr k)))), eq_ (bt_ (h2 k))]
theorem w2_ (s : Sl) (h : cn_ s = true) (hs : ep_ s = true) : ACall En 110 [.ag (sC s)] [] [.sl false (wdR (df_ s))] [] := by
 obtain ⟨h0, h1, h2⟩ := fw_ h
 obtain ⟨s1, s1', s2, s3⟩ := gc_ hs
 have W : s.kind = 1 ∨ s.kind = 2 ∨ s.kind = 3 → _ := fun hk => li_ 5 s.expr 0 0 (bt_ (h1 hk)) s2 (hr_ (h1 hk)) (by decide) (by have := j8_ (h1 hk); omega) (by decide)
 have W3 : s.kind = 3 → _ := fun hk => li_ 5 s.thn 0 (0 + cnt s.expr) (bt_ (h2 hk)) s3 (hr_ (h2 hk)) (by have := j8_ (h1 (.inr (.inr hk))); omega) (by have := j8_ (h1 (.inr (.inr hk))); have := j8_ (h2 hk); omega) (by decide)
 refine al_ (fn := Tryz.f110) [] Tryz.func110 rfl rfl (by simp) fun C => ?_
 rw [ay_]
 simp only [Tryz.ntmps110, T7_, List.length_nil, Nat.reduceAdd, Nat.reduceSub, List.replicate_succ, List.replicate_zero, List.cons_append, List.nil_append, bp_]
 refine .seq (.rgn [] (by simp only [go_sem, seval, ag_, ae_, T2_, T1_, ak_]; rfl) ?_ ?_)
 ·(first | trivial | (simp; done) | (simp [bx_, List.forall_mem_append, bh_]; done))
 refine .seq (.rgn [] (by simp only [go_sem, seval, ag_, ae_, T2_, T1_, ak_]; rfl) ?_ ?_)
 ·(first | trivial | (simp; done) | (simp [bx_, List.forall_mem_append, bh_]; done))
 refine .seq (.seq (.rgn [] (by simp only [go_sem, seval, ag_, ae_, T2_, T1_, ak_]; rfl) ?_ ?_))
 ·(first | trivial | (simp; done) | (simp [bx_, List.forall_mem_append, bh_]; done))
 refine .block (.seq (.rgn [] (by simp only [go_sem, seval, ag_, ae_, T2_, T1_, ak_]; rfl) ?_ ?_))
 ·(first | trivial | (simp; done) | (simp [bx_, List.forall_mem_append, bh_]; done))
 refine .condB (by simp only [go_sem, seval, ag_, ae_, T2_, T1_, ak_]; rfl) (by simp only [go_sem, seval, ag_, ae_, T2_, T1_, ak_]) (fun h7 => ?_) (fun h7 => ?_)
 ·refine .seq (.rgnD [bu_ [13] [31] (W (.inl (by simpa using h7)))] enM (by simp only [go_sem, seval, ag_, ae_, T2_, T1_, ak_, aj_, ao_]; rfl) (by rfl) ?_ ?_)
  ·have q := h1 (.inl (by simpa using h7)); have q2 := (gm_ q 0 0); have q3 : src s.expr 0 0 ≠ [] := (fun e => by have := (cd_ q 0).1; rw [← it_ s.expr 0 0, e] at this; simp at this); simp [bx_, bh_, q3, e1_]; omega
  refine .frz 32 (by simp only [go_sem, seval, ag_, ae_, T2_, T1_, ak_]; rfl) (by simp only [go_sem, seval, ag_, ae_, T2_, T1_, ak_]) (by simp only [go_sem, seval, ag_, ae_, T2_, T1_, ak_]; rfl) (by simp only [go_sem, seval, ag_, ae_, T2_, T1_, ak_]; rfl) ?_
  refine .ret ⟨.inr rfl, ?_⟩
  exact Out.plain (by simp only [Tryz.results110]; rfl) (by simp only [az_, a7_, go_sem, seval, ag_, ae_, T2_, T1_, ak_] <;> (split <;> rfl)) (by simp only [a5_, go_sem, seval, ag_, ae_, T2_, T1_, ak_] <;> (have k : s.kind = 1 := (by simpa using h7); rw [if_pos (by omega), T1_ (by simp [ag_]; omega)]; simp [df_, k, wdR, peel, wEq, hs_, hf_])) (by simp only [go_sem, seval, ag_, ae_, T2_, T1_, ak_])
 ·refine .seq (.rgn [] (by simp only [go_sem, seval, ag_, ae_, T2_, T1_, ak_]; rfl) ?_ ?_)
  ·(first | trivial | (simp; done) | (simp [bx_, List.forall_mem_append, bh_]; done))
  refine .condB (by simp only [go_sem, seval, ag_, ae_, T2_, T1_, ak_]; rfl) (by simp only [go_sem, seval, ag_, ae_, T2_, T1_, ak_]) (fun h23 => ?_) (fun h23 => ?_)
  ·refine .seq (.rgn [bu_ [13] [39] (W (.inr (.inl (by simpa using h23))))] (by simp only [go_sem, seval, ag_, ae_, T2_, T1_, ak_, aj_, ao_]; rfl) ?_ ?_)
   ·have q := h1 (.inr (.inl (by simpa using h23))); have q2 := (gm_ q 0 0); have q3 : src s.expr 0 0 ≠ [] := (fun e => by have := (cd_ q 0).1; rw [← it_ s.expr 0 0, e] at this; simp at this); simp [bx_, bh_, q3, e1_]; omega
   refine .frz 40 (by simp only [go_sem, seval, ag_, ae_, T2_, T1_, ak_]; rfl) (by simp only [go_sem, seval, ag_, ae_, T2_, T1_, ak_]) (by simp only [go_sem, seval, ag_, ae_, T2_, T1_, ak_]; rfl) (by simp only [go_sem, seval, ag_, ae_, T2_, T1_, ak_]; rfl) ?_
   refine .ret ⟨.inr rfl, ?_⟩
   exact Out.plain (by simp only [Tryz.results110]; rfl) (by simp only [az_, a7_, go_sem, seval, ag_, ae_, T2_, T1_, ak_] <;> (split <;> rfl)) (by simp only [a5_, go_sem, seval, ag_, ae_, T2_, T1_, ak_] <;> (have k : s.kind = 2 := (by simpa using h23); rw [if_pos (by omega), T1_ (by simp [ag_]; omega)]; simp [df_, k, wdR, peel, bs_])) (by simp only [go_sem, seval, ag_, ae_, T2_, T1_, ak_])
  ·refine .seq (.rgn [] (by simp only [go_sem, seval, ag_, ae_, T2_, T1_, ak_]; rfl) ?_ ?_)
   ·(first | trivial | (simp; done) | (simp [bx_, List.forall_mem_append, bh_]; done))
   refine .condB (by simp only [go_sem, seval, ag_, ae_, T2_, T1_, ak_]; rfl) (by simp only [go_sem, seval, ag_, ae_, T2_, T1_, ak_]) (fun h31 => ?_) (fun h31 => ?_)
   ·refine .seq (.rgn [bu_ [13] [47] (W (.inr (.inr (by simpa using h31))))] (by simp only [go_sem, seval, ag_, ae_, T2_, T1_, ak_, aj_, ao_]; rfl) ?_ ?_)
    ·have q := h1 (.inr (.inr (by simpa using h31))); have q2 := (gm_ q 0 0); have q3 : src s.expr 0 0 ≠ [] := (fun e => by have := (cd_ q 0).1; rw [← it_ s.expr 0 0, e] at this; simp at this); simp [bx_, bh_, q3, e1_]; omega
    refine .seq (.rgn [] (by simp only [go_sem, seval, ag_, ae_, T2_, T1_, ak_]; rfl) ?_ ?_)
    ·have q := h1 (.inr (.inr (by simpa using h31))); have q2 := (gm_ q 0 0); simp [bx_, bh_]; omega
    refine .seq (.rgn [bu_ [13] [56] (W3 (by simpa using h31))] (by simp only [go_sem, seval, ag_, ae_, T2_, T1_, ak_, aj_, ao_]; rfl) ?_ ?_)
    ·have q := h1 (.inr (.inr (by simpa using h31))); have q2 := (gm_ q 0 0); have q4 := gm_ (h2 (by simpa using h31)) 0 (0 + cnt s.expr); simp at q4; simp [bx_, bh_]; omega
    refine .frz 57 (by simp only [go_sem, seval, ag_, ae_, T2_, T1_, ak_]; rfl) (by simp only [go_sem, seval, ag_, ae_, T2_, T1_, ak_]) (by simp only [go_sem, seval, ag_, ae_, T2_, T1_, ak_]; rfl) (by simp only [go_sem, seval, ag_, ae_, T2_, T1_, ak_]; rfl) ?_
    refine .ret ⟨.inr rfl, ?_⟩
    exact Out.plain (by simp only [Tryz.results110]; rfl) (by simp only [az_, a7_, go_sem, seval, ag_, ae_, T2_, T1_, ak_] <;> (split <;> rfl)) (by simp only [a5_, go_sem, seval, ag_, ae_, T2_, T1_, ak_] <;> (have k : s.kind = 3 := (by simpa using h31); rw [if_pos (by omega), T1_ (by simp [ag_]; omega)]; simp [df_, k, wdR, peel, bs_, dh_])) (by simp only [go_sem, seval, ag_, ae_, T2_, T1_, ak_])
   ·refine .skip (.seq (.rgn [] (by simp only [go_sem, seval, ag_, ae_, T2_, T1_, ak_]; rfl) ?_ ?_))
    ·(first | trivial | (simp; done) | (simp [bx_, List.forall_mem_append, bh_]; done))
    refine .can (Can.slotLe 2 (.sl false []) (by simp only [go_sem, seval, ag_, ae_, T2_, T1_, ak_] <;> trivial) (by simp only [go_sem, seval, ag_, ae_, T2_, T1_, ak_] <;> rfl)) ?_
    refine .ret ⟨.inr rfl, ?_⟩
    exact Out.plain (by simp only [Tryz.results110]; rfl) (by simp only [az_, a7_, go_sem, seval, ag_, ae_, T2_, T1_, ak_] <;> (split <;> rfl)) (by simp only [a5_, go_sem, seval, ag_, ae_, T2_, T1_, ak_] <;> (have k : s.kind = 0 := (by simp_all); simp [df_, k, wdR])) (by simp only [go_sem, seval, ag_, ae_, T2_, T1_, ak_])
theorem lb_ {s : Sl} (h : cn_ s = true) : (bw_ (sw' s)).length ≤ 1000 := by
 have := k3_ h
 have h2 := pp_ (fun s hs => (this.2 s hs).2)
 omega
theorem tn_ (s : Sl) (h : cn_ s = true) (hs : ep_ s = true) : ACall En 106 [.ag (sC s)] [] [.s (bw_ (sw' s))] [] := by
 have h1 := lb_ h
 have h2 := (k3_ h).1
 have h3 := k8_ h
 have h4 : (df_ s).length = (sw' s).length := by rw [← h3, List.length_map]
 refine al_ (fn := Tryz.f106) [] Tryz.func106 rfl rfl (by simp) fun C => ?_
 rw [ay_]
 simp only [Tryz.ntmps106, T7_, List.length_nil, Nat.reduceAdd, Nat.reduceSub, List.replicate_succ, List.replicate_zero, List.cons_append, List.nil_append, bp_]
 refine .seq (.rgn [] (by simp only [go_sem, seval, ak_, ae_, h3]; rfl) ?_ ?_)
 ·simp
 refine .seq (.rgn [a4_ (w2_ s h hs), a4_ (jh_ (df_ s) (by omega)), a4_ (l8_ (sw' s) (by omega) (by omega))] (by simp only [go_sem, seval, ak_, ae_, h3]; rfl) ?_ ?_)
 ·simp
 refine .ret ⟨.inr rfl, ?_⟩
 exact Out.plain (by simp only [Tryz.results106]; rfl) (by simp only [az_, a7_, go_sem, seval, ak_, ae_, h3] <;> (split <;> rfl)) (by simp only [a5_, go_sem, seval, ak_, ae_, h3] <;> (rfl)) (by simp only [go_sem, seval, ak_, ae_, h3])
theorem r3_ (s : Sl) (hs : ep_ s = true) : ACall En 73 [.ag (sC s)] [] [.b (sok s)] [] := by
 obtain ⟨s1, s1', s2, s3⟩ := gc_ hs
 refine al_ (fn := Tryz.f73) [] Tryz.func73 rfl rfl (by simp) fun C => ?_
 rw [ay_]
 simp only [Tryz.ntmps73, T7_, List.length_nil, Nat.reduceAdd, Nat.reduceSub, List.replicate_succ, List.replicate_zero, List.cons_append, List.nil_append, bp_]
 refine .seq (.rgn [] (by simp only [go_sem, seval, ak_]; rfl) ?_ ?_)
 ·(first | trivial | (simp; done) | exact hJ.symm)
 refine .seq (.rgn [] (by simp only [go_sem, seval, ak_]; rfl) ?_ ?_)
 ·(first | trivial | (simp; done) | exact hJ.symm)
 refine .seqJ (fun q : Bool => ⟨[.no, .pt 11 11 0 0, .no, .b q, .no, .no, .no, .no, .no, .no, .no, .no, .no, .no, .no, .no, .no, .no, .no, .no, .no, .no, .no, .no, .no, .no, .no, .no, .no, .no, .no, .no, .no, .no, .no, .no, .no, .no, .no, .no, .no, .no, .no, .no, .no, .no, .no, .no, .no, .no, .no, .no, .no, .no, .no, .no, .no, .no, .no, .no, .no, .no, .no, .no, .no, .no, .no, .no, .no, .no, .no, .no, .no, .no, .no, .no, .no, .no, .no, .no, .no, .no, .no, .no, .no, .no, .no, .no, .no, .no, .no, .no, .no], bc_ [(11, ⟨43, 11, [sC s]⟩)], us [11]⟩) (fun q : Bool => q = cn_ s) ?_ (fun q hJ => ?_)
 ·refine .seq (.rgn [] (by simp only [go_sem, seval, ak_]; rfl) ?_ ?_)
  ·(first | trivial | (simp; done) | exact hJ.symm)
  refine .block (.seq (.rgn [] (by simp only [go_sem, seval, ak_]; rfl) ?_ ?_))
  ·(first | trivial | (simp; done) | exact hJ.symm)
  refine .condB (by simp only [go_sem, seval, ak_]; rfl) (by simp only [go_sem, seval, ak_]) (fun h6 => ?_) (fun h6 => ?_)
  ·refine .rgn [a4_ (jr_ s.expr s2), a4_ (jr_ s.thn s3)] (by simp only [go_sem, seval, ak_]; rfl) ?_ ?_
   ·(first | trivial | (simp; done) | exact hJ.symm)
   refine Exists.intro (cn_ s) ⟨?_, ?_⟩
   ·rfl
   exact Can.weak (Weak.lit (by simp only [go_sem, seval, ak_, as_, leV, aq_, ar_, V.inn, us, T9_, Ta_] <;> ((unfold cn_; simp_all))) (by simp only [go_sem, seval, ak_, as_, leV, aq_, ar_, V.inn, us, T9_, Ta_]) (by simp only [go_sem, seval, ak_, as_, leV, aq_, ar_, V.inn, us, T9_, Ta_]))
  ·refine .seq (.rgn [] (by simp only [go_sem, seval, ak_]; rfl) ?_ ?_)
   ·(first | trivial | (simp; done) | exact hJ.symm)
   refine .condB (by simp only [go_sem, seval, ak_]; rfl) (by simp only [go_sem, seval, ak_]) (fun h26 => ?_) (fun h26 => ?_)
   ·refine .rgn [a4_ (pr_ s.name s1), a4_ (vb_ s.type), a4_ (gz_ s.expr s2), a4_ (jr_ s.thn s3)] (by simp only [go_sem, seval, ak_]; rfl) ?_ ?_
    ·(first | trivial | (simp; done) | exact hJ.symm)
    refine Exists.intro (cn_ s) ⟨?_, ?_⟩
    ·rfl
    exact Can.weak (Weak.lit (by simp only [go_sem, seval, ak_, as_, leV, aq_, ar_, V.inn, us, T9_, Ta_] <;> ((unfold cn_; simp_all))) (by simp only [go_sem, seval, ak_, as_, leV, aq_, ar_, V.inn, us, T9_, Ta_]) (by simp only [go_sem, seval, ak_, as_, leV, aq_, ar_, V.inn, us, T9_, Ta_]))
   ·refine .seq (.rgn [] (by simp only [go_sem, seval, ak_]; rfl) ?_ ?_)
    ·(first | trivial | (simp; done) | exact hJ.symm)
    refine .condB (by simp only [go_sem, seval, ak_]; rfl) (by simp only [go_sem, seval, ak_]) (fun h46 => ?_) (fun h46 => ?_)
    ·refine .rgn [a4_ (gz_ s.expr s2), a4_ (jr_ s.thn s3)] (by simp only [go_sem, seval, ak_]; rfl) ?_ ?_
     ·(first | trivial | (simp; done) | exact hJ.symm)
     refine Exists.intro (cn_ s) ⟨?_, ?_⟩
     ·rfl
     exact Can.weak (Weak.lit (by simp only [go_sem, seval, ak_, as_, leV, aq_, ar_, V.inn, us, T9_, Ta_] <;> ((unfold cn_; simp_all))) (by simp only [go_sem, seval, ak_, as_, leV, aq_, ar_, V.inn, us, T9_, Ta_]) (by simp only [go_sem, seval, ak_, as_, leV, aq_, ar_, V.inn, us, T9_, Ta_]))
    ·refine .seq (.rgn [] (by simp only [go_sem, seval, ak_]; rfl) ?_ ?_)
     ·(first | trivial | (simp; done) | exact hJ.symm)
     refine .condB (by simp only [go_sem, seval, ak_]; rfl) (by simp only [go_sem, seval, ak_]) (fun h66 => ?_) (fun h66 => ?_)
     ·refine .rgn [a4_ (gz_ s.expr s2), a4_ (gz_ s.thn s3)] (by simp only [go_sem, seval, ak_]; rfl) ?_ ?_
      ·(first | trivial | (simp; done) | exact hJ.symm)
      refine Exists.intro (cn_ s) ⟨?_, ?_⟩
      ·rfl
      exact Can.weak (Weak.lit (by simp only [go_sem, seval, ak_, as_, leV, aq_, ar_, V.inn, us, T9_, Ta_] <;> ((unfold cn_; simp_all))) (by simp only [go_sem, seval, ak_, as_, leV, aq_, ar_, V.inn, us, T9_, Ta_]) (by simp only [go_sem, seval, ak_, as_, leV, aq_, ar_, V.inn, us, T9_, Ta_]))
     ·refine .skip ?_
      refine Exists.intro (cn_ s) ⟨?_, ?_⟩
      ·rfl
      exact Can.weak (Weak.lit (by simp only [go_sem, seval, ak_, as_, leV, aq_, ar_, V.inn, us, T9_, Ta_] <;> ((unfold cn_; simp_all))) (by simp only [go_sem, seval, ak_, as_, leV, aq_, ar_, V.inn, us, T9_, Ta_]) (by simp only [go_sem, seval, ak_, as_, leV, aq_, ar_, V.inn, us, T9_, Ta_]))
 cases q
 ·refine .seq (.rgn [cg_ (cn_ s = true) (fun h => tn_ s h hs)] (by simp only [go_sem, seval, ak_]; rfl) ?_ ?_)
  ·(first | trivial | (simp; done) | exact hJ.symm)
  refine .ret ⟨.inr rfl, ?_⟩
  exact Out.plain (by simp only [Tryz.results73]; rfl) (by simp only [az_, a7_, go_sem, seval, ak_] <;> (split <;> rfl)) (by simp only [a5_, go_sem, seval, ak_] <;> (rw [sok, ← hJ]; first | rfl | (rw [Bool.true_and, hu_]; rfl))) (by simp only [go_sem, seval, ak_])
 ·refine .seq (.rgn [cg_ (cn_ s = true) (fun h => tn_ s h hs)] (by simp only [go_sem, seval, ak_]; rfl) ?_ ?_)
  ·(first | trivial | (simp; done) | exact hJ.symm)
  refine .ret ⟨.inr rfl, ?_⟩
  exact Out.plain (by simp only [Tryz.results73]; rfl) (by simp only [az_, a7_, go_sem, seval, ak_] <;> (split <;> rfl)) (by simp only [a5_, go_sem, seval, ak_] <;> (rw [sok, ← hJ]; first | rfl | (rw [Bool.true_and, hu_]; rfl))) (by simp only [go_sem, seval, ak_])
theorem c9_ {s : Sl} (h : sok s = true) : cn_ s = true := by simp only [sok, T5_] at h; exact h.1
def d7_ (s : Sl) : Str := if sok s then bw_ (sw' s) else []
theorem wd_ (s : Sl) (hs : ep_ s = true) : ACall En 74 [.ag (sC s)] [] [.s (d7_ s)] [] := by
 refine al_ (fn := Tryz.f74) [] Tryz.func74 rfl rfl (by simp) fun C => ?_
 rw [ay_]
 simp only [Tryz.ntmps74, T7_, List.length_nil, Nat.reduceAdd, Nat.reduceSub, List.replicate_succ, List.replicate_zero, List.cons_append, List.nil_append, bp_]
 refine .seq (.rgn [] (by simp only [go_sem, seval, ak_]; rfl) ?_ ?_)
 ·first | trivial | simp
 refine .seq (.seq (.rgn [a4_ (r3_ s hs)] (by simp only [go_sem, seval, ak_]; rfl) ?_ ?_))
 ·simp
 refine .condB (by simp only [go_sem, seval, ak_]; rfl) (by simp only [go_sem, seval, ak_]) (fun h5 => ?_) (fun h5 => ?_)
 ·refine .seq (.rgn [] (by simp only [go_sem, seval, ak_]; rfl) ?_ ?_)
  ·first | trivial | simp
  refine .ret ⟨.inr rfl, ?_⟩
  exact Out.plain (by simp only [Tryz.results74]; rfl) (by simp only [az_, a7_, go_sem, seval, ak_] <;> (split <;> rfl)) (by simp only [a5_, go_sem, seval, ak_] <;> (simp at h5; simp [d7_, h5])) (by simp only [go_sem, seval, ak_])
 ·refine .skip (.seq (.rgn [cg_ (sok s = true) (fun h => tn_ s (c9_ h) hs)] (by simp only [go_sem, seval, ak_]; rfl) ?_ ?_))
  ·simpa using h5
  refine .ret ⟨.inr rfl, ?_⟩
  exact Out.plain (by simp only [Tryz.results74]; rfl) (by simp only [az_, a7_, go_sem, seval, ak_] <;> (split <;> rfl)) (by simp only [a5_, go_sem, seval, ak_] <;> (simp at h5; simp [d7_, h5])) (by simp only [go_sem, seval, ak_])
theorem hv_ (s : Sl) (h : cn_ s = true) (hs : ep_ s = true) : ACall En 136 [.ag (sC s)] [] [.sl false (bn_ (sw' s))] [] := by
 obtain ⟨h0, h1, h2⟩ := fw_ h
 obtain ⟨s1, s1', s2, s3⟩ := gc_ hs
 have W : s.kind = 1 ∨ s.kind = 2 ∨ s.kind = 3 → _ := fun hk => ig_ 5 s.expr 1 (bt_ (h1 hk)) s2 (hr_ (h1 hk)) (by decide) (by decide)
 have W3 : s.kind = 3 → _ := fun hk => ig_ 5 s.thn 1 (bt_ (h2 hk)) s3 (hr_ (h2 hk)) (by decide) (by decide)
 refine al_ (fn := Tryz.f136) [] Tryz.func136 rfl rfl (by simp) fun C => ?_
 rw [ay_]
 simp only [Tryz.ntmps136, T7_, List.length_nil, Nat.reduceAdd, Nat.reduceSub, List.replicate_succ, List.replicate_zero, List.cons_append, List.nil_append, bp_]
 refine .seq (.rgn [] (by simp only [go_sem, seval, ab_, aa_, T2_, T1_, ak_]; rfl) ?_ ?_)
 ·(first | trivial | (simp; done) | (simp [be_]; done))
 refine .seq (.seq (.rgn [] (by simp only [go_sem, seval, ab_, aa_, T2_, T1_, ak_]; rfl) ?_ ?_))
 ·(first | trivial | (simp; done) | (simp [be_]; done))
 refine .block (.seq (.rgn [] (by simp only [go_sem, seval, ab_, aa_, T2_, T1_, ak_]; rfl) ?_ ?_))
 ·(first | trivial | (simp; done) | (simp [be_]; done))
 refine .condB (by simp only [go_sem, seval, ab_, aa_, T2_, T1_, ak_]; rfl) (by simp only [go_sem, seval, ab_, aa_, T2_, T1_, ak_]) (fun h6 => ?_) (fun h6 => ?_)
 ·refine .seq (.rgnD [a4_ (W (.inl (by simpa using h6)))] enM (by simp only [go_sem, seval, ab_, aa_, T2_, T1_, ak_]; rfl) (by rfl) ?_ ?_)
  ·have q := h1 (.inl (by simpa using h6)); have q2 := (cd_ q 1); have q3 := x0_ q 1; simp [bx_, be_, q3, j1_]; omega
  refine .frz 26 (by simp only [go_sem, seval, ab_, aa_, T2_, T1_, ak_]; rfl) (by simp only [go_sem, seval, ab_, aa_, T2_, T1_, ak_]) (by simp only [go_sem, seval, ab_, aa_, T2_, T1_, ak_]; rfl) (by simp only [go_sem, seval, ab_, aa_, T2_, T1_, ak_]; rfl) ?_
  refine .ret ⟨.inr rfl, ?_⟩
  exact Out.plain (by simp only [Tryz.results136]; rfl) (by simp only [az_, a7_, go_sem, seval, ab_, aa_, T2_, T1_, ak_] <;> (split <;> rfl)) (by simp only [a5_, go_sem, seval, ab_, aa_, T2_, T1_, ak_] <;> (have k : s.kind = 1 := (by simpa using h6); rw [if_pos (by omega), T1_ (by simp [ab_]; omega)]; simp [sw', k, bn_, peel, wEq, hs_, hf_])) (by simp only [go_sem, seval, ab_, aa_, T2_, T1_, ak_])
 ·refine .seq (.rgn [] (by simp only [go_sem, seval, ab_, aa_, T2_, T1_, ak_]; rfl) ?_ ?_)
  ·(first | trivial | (simp; done) | (simp [be_]; done))
  refine .condB (by simp only [go_sem, seval, ab_, aa_, T2_, T1_, ak_]; rfl) (by simp only [go_sem, seval, ab_, aa_, T2_, T1_, ak_]) (fun h17 => ?_) (fun h17 => ?_)
  ·refine .seq (.rgn [a4_ (W (.inr (.inl (by simpa using h17))))] (by simp only [go_sem, seval, ab_, aa_, T2_, T1_, ak_]; rfl) ?_ ?_)
   ·have q := h1 (.inr (.inl (by simpa using h17))); have q2 := (cd_ q 1); have q3 := x0_ q 1; simp [bx_, be_, q3, j1_]; omega
   refine .frz 33 (by simp only [go_sem, seval, ab_, aa_, T2_, T1_, ak_]; rfl) (by simp only [go_sem, seval, ab_, aa_, T2_, T1_, ak_]) (by simp only [go_sem, seval, ab_, aa_, T2_, T1_, ak_]; rfl) (by simp only [go_sem, seval, ab_, aa_, T2_, T1_, ak_]; rfl) ?_
   refine .ret ⟨.inr rfl, ?_⟩
   exact Out.plain (by simp only [Tryz.results136]; rfl) (by simp only [az_, a7_, go_sem, seval, ab_, aa_, T2_, T1_, ak_] <;> (split <;> rfl)) (by simp only [a5_, go_sem, seval, ab_, aa_, T2_, T1_, ak_] <;> (have k : s.kind = 2 := (by simpa using h17); rw [if_pos (by omega), T1_ (by simp [ab_]; omega)]; simp [sw', k, bn_, peel, bs_])) (by simp only [go_sem, seval, ab_, aa_, T2_, T1_, ak_])
  ·refine .seq (.rgn [] (by simp only [go_sem, seval, ab_, aa_, T2_, T1_, ak_]; rfl) ?_ ?_)
   ·(first | trivial | (simp; done) | (simp [be_]; done))
   refine .condB (by simp only [go_sem, seval, ab_, aa_, T2_, T1_, ak_]; rfl) (by simp only [go_sem, seval, ab_, aa_, T2_, T1_, ak_]) (fun h24 => ?_) (fun h24 => ?_)
   ·refine .seq (.rgn [a4_ (W (.inr (.inr (by simpa using h24))))] (by simp only [go_sem, seval, ab_, aa_, T2_, T1_, ak_]; rfl) ?_ ?_)
    ·have q := h1 (.inr (.inr (by simpa using h24))); have q2 := (cd_ q 1); have q3 := x0_ q 1; simp [bx_, be_, q3, j1_]; omega
    refine .seq (.rgnD [a4_ (W3 (by simpa using h24))] enM (by simp only [go_sem, seval, ab_, aa_, T2_, T1_, ak_]; rfl) (by rfl) ?_ ?_)
    ·have q := h1 (.inr (.inr (by simpa using h24))); have q2 := (cd_ q 1); have q4 := cd_ (h2 (by simpa using h24)) 1; simp [bx_, be_]; omega
    refine .frz 47 (by simp only [go_sem, seval, ab_, aa_, T2_, T1_, ak_]; rfl) (by simp only [go_sem, seval, ab_, aa_, T2_, T1_, ak_]) (by simp only [go_sem, seval, ab_, aa_, T2_, T1_, ak_]; rfl) (by simp only [go_sem, seval, ab_, aa_, T2_, T1_, ak_]; rfl) ?_
    refine .ret ⟨.inr rfl, ?_⟩
    exact Out.plain (by simp only [Tryz.results136]; rfl) (by simp only [az_, a7_, go_sem, seval, ab_, aa_, T2_, T1_, ak_] <;> (split <;> rfl)) (by simp only [a5_, go_sem, seval, ab_, aa_, T2_, T1_, ak_] <;> (have k : s.kind = 3 := (by simpa using h24); rw [if_pos (by omega), T1_ (by simp [ab_]; omega)]; simp [sw', k, bn_, peel, bs_, dh_])) (by simp only [go_sem, seval, ab_, aa_, T2_, T1_, ak_])
   ·refine .skip (.seq (.rgn [] (by simp only [go_sem, seval, ab_, aa_, T2_, T1_, ak_]; rfl) ?_ ?_))
    ·(first | trivial | (simp; done) | (simp [be_]; done))
    refine .can (Can.slotLe 2 (.sl false []) (by simp only [go_sem, seval, ab_, aa_, T2_, T1_, ak_] <;> trivial) (by simp only [go_sem, seval, ab_, aa_, T2_, T1_, ak_] <;> rfl)) ?_
    refine .ret ⟨.inr rfl, ?_⟩
    exact Out.plain (by simp only [Tryz.results136]; rfl) (by simp only [az_, a7_, go_sem, seval, ab_, aa_, T2_, T1_, ak_] <;> (split <;> rfl)) (by simp only [a5_, go_sem, seval, ab_, aa_, T2_, T1_, ak_] <;> (have k : s.kind = 0 := (by simp_all); simp [sw', k, bn_])) (by simp only [go_sem, seval, ab_, aa_, T2_, T1_, ak_])
theorem m4_ (s : Sl) (hs : ep_ s = true) : ACall En 134 [.ag (sC s)] [] [.b (sok s)] [] := by
 obtain ⟨s1, s1', s2, s3⟩ := gc_ hs
 refine al_ (fn := Tryz.f134) [] Tryz.func134 rfl rfl (by simp) fun C => ?_
 rw [ay_]
 simp only [Tryz.ntmps134, T7_, List.length_nil, Nat.reduceAdd, Nat.reduceSub, List.replicate_succ, List.replicate_zero, List.cons_append, List.nil_append, bp_]
 refine .seq (.rgn [] (by simp only [go_sem, seval, ak_, aa_]; rfl) ?_ ?_)
 ·(first | trivial | (simp; done) | exact hJ.symm | exact ⟨hJ.symm, hJ.symm⟩)
 refine .seq (.rgn [] (by simp only [go_sem, seval, ak_, aa_]; rfl) ?_ ?_)
 ·(first | trivial | (simp; done) | exact hJ.symm | exact ⟨hJ.symm, hJ.symm⟩)
 refine .seqJ (fun q : Bool => ⟨[.no, .pt 11 11 0 0, .no, .b q, .no, .no, .no, .no, .no, .no, .no, .no, .no, .no, .no, .no, .no, .no, .no, .no, .no, .no, .no, .no, .no, .no, .no, .no, .no, .no, .no, .no, .no, .no, .no, .no, .no, .no, .no, .no, .no, .no, .no, .no, .no, .no, .no, .no, .no, .no, .no, .no, .no, .no, .no, .no, .no, .no, .no, .no, .no, .no, .no, .no, .no, .no, .no, .no, .no, .no, .no, .no, .no, .no, .no, .no, .no, .no, .no, .no, .no, .no, .no, .no, .no, .no, .no, .no, .no, .no, .no, .no, .no, .no], bc_ [(11, ⟨43, 11, [sC s]⟩)], us [11]⟩) (fun q : Bool => q = cn_ s) ?_ (fun q hJ => ?_)
 ·refine .seq (.rgn [] (by simp only [go_sem, seval, ak_, aa_]; rfl) ?_ ?_)
  ·(first | trivial | (simp; done) | exact hJ.symm | exact ⟨hJ.symm, hJ.symm⟩)
  refine .block (.seq (.rgn [] (by simp only [go_sem, seval, ak_, aa_]; rfl) ?_ ?_))
  ·(first | trivial | (simp; done) | exact hJ.symm | exact ⟨hJ.symm, hJ.symm⟩)
  refine .condB (by simp only [go_sem, seval, ak_, aa_]; rfl) (by simp only [go_sem, seval, ak_, aa_]) (fun h6 => ?_) (fun h6 => ?_)
  ·refine .rgn [a4_ (k1_ s.expr s2), a4_ (k1_ s.thn s3)] (by simp only [go_sem, seval, ak_, aa_]; rfl) ?_ ?_
   ·(first | trivial | (simp; done) | exact hJ.symm | exact ⟨hJ.symm, hJ.symm⟩)
   refine Exists.intro (cn_ s) ⟨?_, ?_⟩
   ·rfl
   exact Can.weak (Weak.lit (by simp only [go_sem, seval, ak_, aa_, as_, leV, aq_, ar_, V.inn, us, T9_, Ta_] <;> ((unfold cn_; simp_all))) (by simp only [go_sem, seval, ak_, aa_, as_, leV, aq_, ar_, V.inn, us, T9_, Ta_]) (by simp only [go_sem, seval, ak_, aa_, as_, leV, aq_, ar_, V.inn, us, T9_, Ta_]))
  ·refine .seq (.rgn [] (by simp only [go_sem, seval, ak_, aa_]; rfl) ?_ ?_)
   ·(first | trivial | (simp; done) | exact hJ.symm | exact ⟨hJ.symm, hJ.symm⟩)
   refine .condB (by simp only [go_sem, seval, ak_, aa_]; rfl) (by simp only [go_sem, seval, ak_, aa_]) (fun h26 => ?_) (fun h26 => ?_)
   ·refine .rgn [a4_ (px_ s.name s1), a4_ (ks_ s.type), a4_ (g2_ s.expr s2), a4_ (k1_ s.thn s3)] (by simp only [go_sem, seval, ak_, aa_]; rfl) ?_ ?_
    ·(first | trivial | (simp; done) | exact hJ.symm | exact ⟨hJ.symm, hJ.symm⟩)
    refine Exists.intro (cn_ s) ⟨?_, ?_⟩
    ·rfl
    exact Can.weak (Weak.lit (by simp only [go_sem, seval, ak_, aa_, as_, leV, aq_, ar_, V.inn, us, T9_, Ta_] <;> ((unfold cn_; simp_all))) (by simp only [go_sem, seval, ak_, aa_, as_, leV, aq_, ar_, V.inn, us, T9_, Ta_]) (by simp only [go_sem, seval, ak_, aa_, as_, leV, aq_, ar_, V.inn, us, T9_, Ta_]))
   ·refine .seq (.rgn [] (by simp only [go_sem, seval, ak_, aa_]; rfl) ?_ ?_)
    ·(first | trivial | (simp; done) | exact hJ.symm | exact ⟨hJ.symm, hJ.symm⟩)
    refine .condB (by simp only [go_sem, seval, ak_, aa_]; rfl) (by simp only [go_sem, seval, ak_, aa_]) (fun h46 => ?_) (fun h46 => ?_)
    ·refine .rgn [a4_ (g2_ s.expr s2), a4_ (k1_ s.thn s3)] (by simp only [go_sem, seval, ak_, aa_]; rfl) ?_ ?_
     ·(first | trivial | (simp; done) | exact hJ.symm | exact ⟨hJ.symm, hJ.symm⟩)
     refine Exists.intro (cn_ s) ⟨?_, ?_⟩
     ·rfl
     exact Can.weak (Weak.lit (by simp only [go_sem, seval, ak_, aa_, as_, leV, aq_, ar_, V.inn, us, T9_, Ta_] <;> ((unfold cn_; simp_all))) (by simp only [go_sem, seval, ak_, aa_, as_, leV, aq_, ar_, V.inn, us, T9_, Ta_]) (by simp only [go_sem, seval, ak_, aa_, as_, leV, aq_, ar_, V.inn, us, T9_, Ta_]))
    ·refine .seq (.rgn [] (by simp only [go_sem, seval, ak_, aa_]; rfl) ?_ ?_)
     ·(first | trivial | (simp; done) | exact hJ.symm | exact ⟨hJ.symm, hJ.symm⟩)
     refine .condB (by simp only [go_sem, seval, ak_, aa_]; rfl) (by simp only [go_sem, seval, ak_, aa_]) (fun h66 => ?_) (fun h66 => ?_)
     ·refine .rgn [a4_ (g2_ s.expr s2), a4_ (g2_ s.thn s3)] (by simp only [go_sem, seval, ak_, aa_]; rfl) ?_ ?_
      ·(first | trivial | (simp; done) | exact hJ.symm | exact ⟨hJ.symm, hJ.symm⟩)
      refine Exists.intro (cn_ s) ⟨?_, ?_⟩
      ·rfl
      exact Can.weak (Weak.lit (by simp only [go_sem, seval, ak_, aa_, as_, leV, aq_, ar_, V.inn, us, T9_, Ta_] <;> ((unfold cn_; simp_all))) (by simp only [go_sem, seval, ak_, aa_, as_, leV, aq_, ar_, V.inn, us, T9_, Ta_]) (by simp only [go_sem, seval, ak_, aa_, as_, leV, aq_, ar_, V.inn, us, T9_, Ta_]))
     ·refine .skip ?_
      refine Exists.intro (cn_ s) ⟨?_, ?_⟩
      ·rfl
      exact Can.weak (Weak.lit (by simp only [go_sem, seval, ak_, aa_, as_, leV, aq_, ar_, V.inn, us, T9_, Ta_] <;> ((unfold cn_; simp_all))) (by simp only [go_sem, seval, ak_, aa_, as_, leV, aq_, ar_, V.inn, us, T9_, Ta_]) (by simp only [go_sem, seval, ak_, aa_, as_, leV, aq_, ar_, V.inn, us, T9_, Ta_]))
 cases q
 ·refine .seq (.rgn [cg_ (cn_ s = true) (fun h => hv_ s h hs), cg_ (cn_ s = true) (fun h => g5_ (sw' s) (by have := (k3_ h).1; omega) (by have := lb_ h; omega))] (by simp only [go_sem, seval, ak_, aa_]; rfl) ?_ ?_)
  ·(first | trivial | (simp; done) | exact hJ.symm | exact ⟨hJ.symm, hJ.symm⟩)
  refine .ret ⟨.inr rfl, ?_⟩
  exact Out.plain (by simp only [Tryz.results134]; rfl) (by simp only [az_, a7_, go_sem, seval, ak_, aa_] <;> (split <;> rfl)) (by simp only [a5_, go_sem, seval, ak_, aa_] <;> (rw [sok, ← hJ]; first | rfl | (rw [Bool.true_and, hu_]; rfl))) (by simp only [go_sem, seval, ak_, aa_])
 ·refine .seq (.rgn [cg_ (cn_ s = true) (fun h => hv_ s h hs), cg_ (cn_ s = true) (fun h => g5_ (sw' s) (by have := (k3_ h).1; omega) (by have := lb_ h; omega))] (by simp only [go_sem, seval, ak_, aa_]; rfl) ?_ ?_)
  ·(first | trivial | (simp; done) | exact hJ.symm | exact ⟨hJ.symm, hJ.symm⟩)
  refine .ret ⟨.inr rfl, ?_⟩
  exact Out.plain (by simp only [Tryz.results134]; rfl) (by simp only [az_, a7_, go_sem, seval, ak_, aa_] <;> (split <;> rfl)) (by simp only [a5_, go_sem, seval, ak_, aa_] <;> (rw [sok, ← hJ]; first | rfl | (rw [Bool.true_and, hu_]; rfl))) (by simp only [go_sem, seval, ak_, aa_])
end
section
set_option maxRecDepth 100000
set_option maxHeartbeats 4000000
theorem zm_ {s : Sl} (h : cn_ s = true) : wf s.expr = true ∧ wf s.thn = true := by
 unfold cn_ at h
 by_cases k0 : s.kind = 0
 ·simp [k0, de_] at h; rw [h.1.2, h.2]; exact ⟨ne_, ne_⟩
 by_cases k1 : s.kind = 1
 ·simp [k1, de_] at h; rw [h.2]; exact ⟨ii_ h.1.2, ne_⟩
 by_cases k2 : s.kind = 2
 ·simp [k2, de_] at h; rw [h.2]; exact ⟨ii_ h.1.2, ne_⟩
 by_cases k3 : s.kind = 3
 ·simp [k3] at h; exact ⟨ii_ h.1.2, ii_ h.2⟩
 ·simp [k0, k1, k2, k3] at h
theorem acs_ (s : Sl) (hs : ep_ s = true) (w1 : wf s.expr = true) (w2 : wf s.thn = true) : ACall En 112 [.ag (sC s)] [] [.ag (bC (bof s))] [] := by
 obtain ⟨s1, s2, s3, s4⟩ := gc_ hs
 refine al_ (fn := Tryz.f112) [] Tryz.func112 rfl rfl (by simp) fun C => ?_
 rw [ay_]
 simp only [Tryz.ntmps112, T7_, List.length_nil, Nat.reduceAdd, Nat.reduceSub, List.replicate_succ, List.replicate_zero, List.cons_append, List.nil_append, bp_]
 refine .seq (.rgn [] (by simp only [go_sem, seval, ak_, bm_]; rfl) ?_ ?_)
 ·first | trivial | simp
 refine .seq (.rgn [] (by simp only [go_sem, seval, ak_, bm_]; rfl) ?_ ?_)
 ·first | trivial | simp
 refine .seq (.seq (.rgn [] (by simp only [go_sem, seval, ak_, bm_]; rfl) ?_ ?_))
 ·first | trivial | simp
 refine .condB (by simp only [go_sem, seval, ak_, bm_]; rfl) (by simp only [go_sem, seval, ak_, bm_]) (fun h11 => ?_) (fun h11 => ?_)
 ·refine .rgn [a4_ (st_ s.expr w1 s3)] (by simp only [go_sem, seval, ak_, bm_]; rfl) ?_ ?_
  ·first | trivial | simp
  refine .seq (.seq (.rgn [] (by simp only [go_sem, seval, ak_, bm_]; rfl) ?_ ?_))
  ·first | trivial | simp
  refine .condB (by simp only [go_sem, seval, ak_, bm_]; rfl) (by simp only [go_sem, seval, ak_, bm_]) (fun h18 => ?_) (fun h18 => ?_)
  ·refine .rgn [a4_ (st_ s.thn w2 s4)] (by simp only [go_sem, seval, ak_, bm_]; rfl) ?_ ?_
   ·first | trivial | simp
   refine .seq (.rgn [] (by simp only [go_sem, seval, ak_, bm_]; rfl) ?_ ?_)
   ·first | trivial | simp
   refine .ret ⟨.inr rfl, ?_⟩
   exact Out.plainL (by simp only [Tryz.results112]; rfl) (by simp only [az_, a7_, go_sem, seval, ak_, bm_] <;> (split <;> rfl)) (by simp only [a5_, go_sem, seval, ak_, bm_] <;> (simp at h11 h18; simp [bof, h11, h18, bm_, in_, ik_, ix_, db_, dx_, ler, bd_])) (by simp only [go_sem, seval, ak_, bm_])
  ·refine .skip (.seq (.rgn [] (by simp only [go_sem, seval, ak_, bm_]; rfl) ?_ ?_))
   ·first | trivial | simp
   refine .ret ⟨.inr rfl, ?_⟩
   exact Out.plainL (by simp only [Tryz.results112]; rfl) (by simp only [az_, a7_, go_sem, seval, ak_, bm_] <;> (split <;> rfl)) (by simp only [a5_, go_sem, seval, ak_, bm_] <;> (simp at h11 h18; simp [bof, h11, h18, bm_, in_, ik_, ix_, db_, dx_, ler, bd_])) (by simp only [go_sem, seval, ak_, bm_])
 ·refine .skip (.seq (.seq (.rgn [] (by simp only [go_sem, seval, ak_, bm_]; rfl) ?_ ?_)))
  ·first | trivial | simp
  refine .condB (by simp only [go_sem, seval, ak_, bm_]; rfl) (by simp only [go_sem, seval, ak_, bm_]) (fun h18 => ?_) (fun h18 => ?_)
  ·refine .rgn [a4_ (st_ s.thn w2 s4)] (by simp only [go_sem, seval, ak_, bm_]; rfl) ?_ ?_
   ·first | trivial | simp
   refine .seq (.rgn [] (by simp only [go_sem, seval, ak_, bm_]; rfl) ?_ ?_)
   ·first | trivial | simp
   refine .ret ⟨.inr rfl, ?_⟩
   exact Out.plainL (by simp only [Tryz.results112]; rfl) (by simp only [az_, a7_, go_sem, seval, ak_, bm_] <;> (split <;> rfl)) (by simp only [a5_, go_sem, seval, ak_, bm_] <;> (simp at h11 h18; omega)) (by simp only [go_sem, seval, ak_, bm_])
  ·refine .skip (.seq (.rgn [] (by simp only [go_sem, seval, ak_, bm_]; rfl) ?_ ?_))
   ·first | trivial | simp
   refine .ret ⟨.inr rfl, ?_⟩
   exact Out.plainL (by simp only [Tryz.results112]; rfl) (by simp only [az_, a7_, go_sem, seval, ak_, bm_] <;> (split <;> rfl)) (by simp only [a5_, go_sem, seval, ak_, bm_] <;> (simp at h11 h18; simp [bof, h11, h18, bm_, in_, ik_, ix_, db_, dx_, ler, bd_])) (by simp only [go_sem, seval, ak_, bm_])
end
section
set_option maxRecDepth 100000
set_option maxHeartbeats 4000000
def iz_ (b : Str) (q k : Int) (x : Sl) : Sl × Int :=
 if k = 0 then ({ x with kind := uj_ b q [0, 4, 1, 2, 3] }, q + 1)
 else if k = 1 then ({ x with name := ofI b q [[120], [108, 101, 116], [88], []] }, q + 1)
 else if k = 2 then ({ x with type := ofI b q [[105, 110, 116], [116, 101, 120, 116], []] }, q + 1)
 else if k = 3 then ({ x with thn := (ge_ b q).1 }, (ge_ b q).2)
 else (x, q)
def dl5 (b : Str) (p : Int) : Sl × Int := iz_ b ((b9_ b p).2 + 1) (bo_ b (b9_ b p).2 40) (b9_ b p).1
theorem acu_ (b : Str) {p : Int} (hp : 0 ≤ p) (hp2 : p < 100000000) : p ≤ (dl5 b p).2 ∧ (dl5 b p).2 ≤ p + 700 ∧ ep_ (dl5 b p).1 = true := by
 obtain ⟨h1, h2, h3, _⟩ := ld_ b hp hp2
 obtain ⟨s1, s2, s3, s4⟩ := gc_ h3
 have hB := agq_ b (p := (b9_ b p).2 + 1) (by omega) (by omega)
 unfold dl5 iz_
 split
 ·exact ⟨by dsimp only; omega, by dsimp only; omega, h3⟩
 ·split
  ·have l1 := ha_ (b := b) (p := (b9_ b p).2 + 1) (l := [[120], [108, 101, 116], [88], []]) (by decide) (by omega) (by omega) 5 (by decide)
   refine ⟨by dsimp only; omega, by dsimp only; omega, ?_⟩
   simp only [ep_, s2, s3, s4, decide_true, Bool.and_true, T3_]; omega
  ·split
   ·have l1 := ha_ (b := b) (p := (b9_ b p).2 + 1) (l := [[105, 110, 116], [116, 101, 120, 116], []]) (by decide) (by omega) (by omega) 5 (by decide)
    refine ⟨by dsimp only; omega, by dsimp only; omega, ?_⟩
    simp only [ep_, s1, s3, s4, decide_true, Bool.and_true, Bool.true_and, T3_]; omega
   ·split
    ·refine ⟨by dsimp only; omega, by dsimp only; omega, ?_⟩
     simp only [ep_, s1, s2, s3, hB.2.2, decide_true, Bool.and_true]
    ·exact ⟨by dsimp only; omega, by dsimp only; omega, h3⟩
theorem we_ (b : Str) (p : Int) (hb : b.length ≤ 2000) (hp : 0 ≤ p) (hp2 : p < 100000000) : ACall En 155 [.pt 0 2 0 0] [rdB b p] [.ag (sC (dl5 b p).1)] [rdB b (dl5 b p).2] := by
 obtain ⟨h1, h2, h3, w1, w2, _⟩ := ld_ b hp hp2
 refine al_ (fn := Tryz.f155) [0] Tryz.func155 rfl rfl (by simp) fun C => ?_
 rw [ay_]
 simp only [Tryz.ntmps155, T7_, List.length_nil, Nat.reduceAdd, Nat.reduceSub, List.replicate_succ, List.replicate_zero, List.cons_append, List.nil_append, bp_]
 refine .seq (.rgn [] (by simp only [go_sem, seval, aj_, ao_, ax_, av_, ap_, am_, ak_]; rfl) ?_ ?_)
 ·first | trivial | simp
 refine .seq (.rgn [bu_ [0] [] (uv_ b p hb hp hp2)] (by simp only [go_sem, seval, aj_, ao_, ax_, av_, ap_, am_, ak_]; rfl) ?_ ?_)
 ·first | trivial | simp
 refine .seq (.seq (.rgn [bu_ [0] [] (dr_ b (b9_ b p).2 40 hb (by omega) (by omega))] (by simp only [go_sem, seval, aj_, ao_, ax_, av_, ap_, am_, ak_]; rfl) ?_ ?_))
 ·first | trivial | simp
 refine .block (.seq (.rgn [] (by simp only [go_sem, seval, aj_, ao_, ax_, av_, ap_, am_, ak_]; rfl) ?_ ?_))
 ·first | trivial | simp
 refine .condB (by simp only [go_sem, seval, aj_, ao_, ax_, av_, ap_, am_, ak_]; rfl) (by simp only [go_sem, seval, aj_, ao_, ax_, av_, ap_, am_, ak_]) (fun h8 => ?_) (fun h8 => ?_)
 ·refine .rgn [bu_ [0] [] (r1_ b ((b9_ b p).2 + 1) [0, 4, 1, 2, 3] (by decide) hb (by omega) (by omega))] (by simp only [go_sem, seval, aj_, ao_, ax_, av_, ap_, am_, ak_]; rfl) ?_ ?_
  ·first | trivial | simp
  refine .seq (.rgn [] (by simp only [go_sem, seval, aj_, ao_, ax_, av_, ap_, am_, ak_]; rfl) ?_ ?_)
  ·first | trivial | simp
  refine .ret ⟨.inr rfl, ?_⟩
  exact Out.mem' (by simp only [Tryz.results155]; rfl) (by simp only [az_, a7_, go_sem, seval, aj_, ao_, ax_, av_, ap_, am_, ak_]) (by simp only [a5_, rns, rn, go_sem, seval, aj_, ao_, ax_, av_, ap_, am_, ak_] <;> (simp at h8; simp [dl5, iz_, h8])) (by simp) rfl (by decide) (by simp only [go_sem, seval, aj_, ao_, ax_, av_, ap_, am_, ak_]) (by simp only [ao_, go_sem, seval, aj_, ao_, ax_, av_, ap_, am_, ak_]) (by simp only [aj_, go_sem, seval, aj_, ao_, ax_, av_, ap_, am_, ak_] <;> (simp at h8; simp [dl5, iz_, h8]))
 ·refine .seq (.rgn [] (by simp only [go_sem, seval, aj_, ao_, ax_, av_, ap_, am_, ak_]; rfl) ?_ ?_)
  ·first | trivial | simp
  refine .condB (by simp only [go_sem, seval, aj_, ao_, ax_, av_, ap_, am_, ak_]; rfl) (by simp only [go_sem, seval, aj_, ao_, ax_, av_, ap_, am_, ak_]) (fun h14 => ?_) (fun h14 => ?_)
  ·refine .rgn [bu_ [0] [] (qw_ b ((b9_ b p).2 + 1) [[120], [108, 101, 116], [88], []] (by decide) hb (by omega) (by omega))] (by simp only [go_sem, seval, aj_, ao_, ax_, av_, ap_, am_, ak_]; rfl) ?_ ?_
   ·first | trivial | simp
   refine .seq (.rgn [] (by simp only [go_sem, seval, aj_, ao_, ax_, av_, ap_, am_, ak_]; rfl) ?_ ?_)
   ·first | trivial | simp
   refine .ret ⟨.inr rfl, ?_⟩
   exact Out.mem' (by simp only [Tryz.results155]; rfl) (by simp only [az_, a7_, go_sem, seval, aj_, ao_, ax_, av_, ap_, am_, ak_]) (by simp only [a5_, rns, rn, go_sem, seval, aj_, ao_, ax_, av_, ap_, am_, ak_] <;> (simp at h8 h14; simp [dl5, iz_, h8, h14])) (by simp) rfl (by decide) (by simp only [go_sem, seval, aj_, ao_, ax_, av_, ap_, am_, ak_]) (by simp only [ao_, go_sem, seval, aj_, ao_, ax_, av_, ap_, am_, ak_]) (by simp only [aj_, go_sem, seval, aj_, ao_, ax_, av_, ap_, am_, ak_] <;> (simp at h8 h14; simp [dl5, iz_, h8, h14]))
  ·refine .seq (.rgn [] (by simp only [go_sem, seval, aj_, ao_, ax_, av_, ap_, am_, ak_]; rfl) ?_ ?_)
   ·first | trivial | simp
   refine .condB (by simp only [go_sem, seval, aj_, ao_, ax_, av_, ap_, am_, ak_]; rfl) (by simp only [go_sem, seval, aj_, ao_, ax_, av_, ap_, am_, ak_]) (fun h20 => ?_) (fun h20 => ?_)
   ·refine .rgn [bu_ [0] [] (qw_ b ((b9_ b p).2 + 1) [[105, 110, 116], [116, 101, 120, 116], []] (by decide) hb (by omega) (by omega))] (by simp only [go_sem, seval, aj_, ao_, ax_, av_, ap_, am_, ak_]; rfl) ?_ ?_
    ·first | trivial | simp
    refine .seq (.rgn [] (by simp only [go_sem, seval, aj_, ao_, ax_, av_, ap_, am_, ak_]; rfl) ?_ ?_)
    ·first | trivial | simp
    refine .ret ⟨.inr rfl, ?_⟩
    exact Out.mem' (by simp only [Tryz.results155]; rfl) (by simp only [az_, a7_, go_sem, seval, aj_, ao_, ax_, av_, ap_, am_, ak_]) (by simp only [a5_, rns, rn, go_sem, seval, aj_, ao_, ax_, av_, ap_, am_, ak_] <;> (simp at h8 h14 h20; simp [dl5, iz_, h8, h14, h20])) (by simp) rfl (by decide) (by simp only [go_sem, seval, aj_, ao_, ax_, av_, ap_, am_, ak_]) (by simp only [ao_, go_sem, seval, aj_, ao_, ax_, av_, ap_, am_, ak_]) (by simp only [aj_, go_sem, seval, aj_, ao_, ax_, av_, ap_, am_, ak_] <;> (simp at h8 h14 h20; simp [dl5, iz_, h8, h14, h20]))
   ·refine .seq (.rgn [] (by simp only [go_sem, seval, aj_, ao_, ax_, av_, ap_, am_, ak_]; rfl) ?_ ?_)
    ·first | trivial | simp
    refine .condB (by simp only [go_sem, seval, aj_, ao_, ax_, av_, ap_, am_, ak_]; rfl) (by simp only [go_sem, seval, aj_, ao_, ax_, av_, ap_, am_, ak_]) (fun h26 => ?_) (fun h26 => ?_)
    ·refine .rgn [bu_ [0] [] (adf_ b ((b9_ b p).2 + 1) hb (by omega) (by omega))] (by simp only [go_sem, seval, aj_, ao_, ax_, av_, ap_, am_, ak_]; rfl) ?_ ?_
     ·first | trivial | simp
     refine .seq (.rgn [] (by simp only [go_sem, seval, aj_, ao_, ax_, av_, ap_, am_, ak_]; rfl) ?_ ?_)
     ·first | trivial | simp
     refine .ret ⟨.inr rfl, ?_⟩
     exact Out.mem' (by simp only [Tryz.results155]; rfl) (by simp only [az_, a7_, go_sem, seval, aj_, ao_, ax_, av_, ap_, am_, ak_]) (by simp only [a5_, rns, rn, go_sem, seval, aj_, ao_, ax_, av_, ap_, am_, ak_] <;> (simp at h8 h14 h20 h26; simp [dl5, iz_, h8, h14, h20, h26])) (by simp) rfl (by decide) (by simp only [go_sem, seval, aj_, ao_, ax_, av_, ap_, am_, ak_]) (by simp only [ao_, go_sem, seval, aj_, ao_, ax_, av_, ap_, am_, ak_]) (by simp only [aj_, go_sem, seval, aj_, ao_, ax_, av_, ap_, am_, ak_] <;> (simp at h8 h14 h20 h26; simp [dl5, iz_, h8, h14, h20, h26]))
    ·refine .skip (.seq (.rgn [] (by simp only [go_sem, seval, aj_, ao_, ax_, av_, ap_, am_, ak_]; rfl) ?_ ?_))
     ·first | trivial | simp
     refine .ret ⟨.inr rfl, ?_⟩
     exact Out.mem' (by simp only [Tryz.results155]; rfl) (by simp only [az_, a7_, go_sem, seval, aj_, ao_, ax_, av_, ap_, am_, ak_]) (by simp only [a5_, rns, rn, go_sem, seval, aj_, ao_, ax_, av_, ap_, am_, ak_] <;> (simp at h8 h14 h20 h26; simp [dl5, iz_, h8, h14, h20, h26])) (by simp) rfl (by decide) (by simp only [go_sem, seval, aj_, ao_, ax_, av_, ap_, am_, ak_]) (by simp only [ao_, go_sem, seval, aj_, ao_, ax_, av_, ap_, am_, ak_]) (by simp only [aj_, go_sem, seval, aj_, ao_, ax_, av_, ap_, am_, ak_] <;> (simp at h8 h14 h20 h26; simp [dl5, iz_, h8, h14, h20, h26]))
end
end Go.Proofs.YtilppnadkfgnfaaGreatDoor
