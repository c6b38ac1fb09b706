/- Lines with types: words, text, ok: the program's and the reference's; without types. Conditions: none. -/
import Derived.Test.YtpikbndepapbhabGreatDoorKj
set_option linter.unusedVariables false
set_option linter.unusedSimpArgs false
namespace Go.Proofs.YtpikbndepapbhabGreatDoor
section
set_option maxRecDepth 100000
set_option maxHeartbeats 4000000
def df_ (s : Sl) : Wd :=
 if s.kind = 1 then (hh_, 100) :: (s.name, 101) :: (g5_, -1) :: (s.type, -1) :: (wEq, 102) :: src s.expr 0 0
 else if s.kind = 2 then (bm_, 103) :: src s.expr 0 0
 else if s.kind = 3 then ((dd_, 100) :: src s.expr 0 0 ++ [(bm_, 103)]) ++ src s.thn 0 (cnt s.expr)
 else []
theorem fs_ {s : Sl} (h : cl_ s = true) : (s.kind = 0 ∨ s.kind = 1 ∨ s.kind = 2 ∨ s.kind = 3) ∧ (s.kind = 1 ∨ s.kind = 2 ∨ s.kind = 3 → eok s.expr = true) ∧ (s.kind = 3 → eok s.thn = true) := by
 unfold cl_ at h
 by_cases k0 : s.kind = 0
 ·simp [k0]
 by_cases k1 : s.kind = 1
 ·simp [k1] at h; simp [k1]; exact h.1.2
 by_cases k2 : s.kind = 2
 ·simp [k2] at h; simp [k2]; exact h.1.2
 by_cases k3 : s.kind = 3
 ·simp [k3] at h; simp [k3]; exact ⟨h.1.2, h.2⟩
 ·simp [k0, k1, k2, k3] at h
theorem n7_ {s : Sl} (h : cl_ s = true) : (df_ s).map (·.1) = sw' s := by
 obtain ⟨h0, h1, h2⟩ := fs_ h
 unfold df_ sw'
 rcases h0 with k | k | k | k
 ·simp [k]
 ·simp [k, d4_, ef_ (bp_ (h1 (.inl k)))]
 ·simp [k, d4_, ef_ (bp_ (h1 (.inr (.inl k))))]
 ·simp [k, d4_, ef_ (bp_ (h1 (.inr (.inr k)))), ef_ (bp_ (h2 k))]
theorem tr_ (s : Sl) (h : cl_ s = true) (hs : d0_ s = true) : ACall En 141 [.ag (sC s)] [] [.sl false (wdR (df_ s))] [] := by
 obtain ⟨h0, h1, h2⟩ := fs_ h
 obtain ⟨s1, s1', s2, s3⟩ := f3_ hs
 have W : s.kind = 1 ∨ s.kind = 2 ∨ s.kind = 3 → _ := fun hk => k8_ 5 s.expr 0 0 (bp_ (h1 hk)) s2 (hf_ (h1 hk)) (by decide) (by have := jv_ (h1 hk); omega) (by decide)
 have W3 : s.kind = 3 → _ := fun hk => k8_ 5 s.thn 0 (0 + cnt s.expr) (bp_ (h2 hk)) s3 (hf_ (h2 hk)) (by have := jv_ (h1 (.inr (.inr hk))); omega) (by have := jv_ (h1 (.inr (.inr hk))); have := jv_ (h2 hk); omega) (by decide)
 refine ak_ (fn := Tryz.f141) [] Tryz.func141 rfl rfl (by simp) fun C => ?_
 rw [aw_]
 simp only [Tryz.ntmps141, T7_, List.length_nil, Nat.reduceAdd, Nat.reduceSub, List.replicate_succ, List.replicate_zero, List.cons_append, List.nil_append, bk_]
 refine .seq (.rgn [] (by simp only [go_sem, seval, af_, ae_, T2_, T1_, ai_]; rfl) ?_ ?_)
 ·(first | trivial | (simp; done) | (simp [b0_, List.forall_mem_append, bh_]; done))
 refine .seq (.rgn [] (by simp only [go_sem, seval, af_, ae_, T2_, T1_, ai_]; rfl) ?_ ?_)
 ·(first | trivial | (simp; done) | (simp [b0_, List.forall_mem_append, bh_]; done))
 refine .seq (.seq (.rgn [] (by simp only [go_sem, seval, af_, ae_, T2_, T1_, ai_]; rfl) ?_ ?_))
 ·(first | trivial | (simp; done) | (simp [b0_, List.forall_mem_append, bh_]; done))
 refine .block (.seq (.rgn [] (by simp only [go_sem, seval, af_, ae_, T2_, T1_, ai_]; rfl) ?_ ?_))
 ·(first | trivial | (simp; done) | (simp [b0_, List.forall_mem_append, bh_]; done))
 refine .condB (by simp only [go_sem, seval, af_, ae_, T2_, T1_, ai_]; rfl) (by simp only [go_sem, seval, af_, ae_, T2_, T1_, ai_]) (fun h7 => ?_) (fun h7 => ?_)
 ·refine .seq (.rgnD [br_ [13] [31] (W (.inl (by simpa using h7)))] enM (by simp only [go_sem, seval, af_, ae_, T2_, T1_, ai_, aj_, ao_]; rfl) (by rfl) ?_ ?_)
  ·have q := h1 (.inl (by simpa using h7)); have q2 := (f9_ q 0 0); have q3 : src s.expr 0 0 ≠ [] := (fun e => by have := (b9_ q 0).1; rw [← ib_ s.expr 0 0, e] at this; simp at this); simp [b0_, bh_, q3, en_]; omega
  refine .frz 32 (by simp only [go_sem, seval, af_, ae_, T2_, T1_, ai_]; rfl) (by simp only [go_sem, seval, af_, ae_, T2_, T1_, ai_]) (by simp only [go_sem, seval, af_, ae_, T2_, T1_, ai_]; rfl) (by simp only [go_sem, seval, af_, ae_, T2_, T1_, ai_]; rfl) ?_
  refine .ret ⟨.inr rfl, ?_⟩
  exact Out.plain (by simp only [Tryz.results141]; rfl) (by simp only [av_, a5_, go_sem, seval, af_, ae_, T2_, T1_, ai_] <;> (split <;> rfl)) (by simp only [a2_, go_sem, seval, af_, ae_, T2_, T1_, ai_] <;> (have k : s.kind = 1 := (by simpa using h7); rw [if_pos (by omega), T1_ (by simp [af_]; omega)]; simp [df_, k, wdR, peel, wEq, hh_, g5_])) (by simp only [go_sem, seval, af_, ae_, T2_, T1_, ai_])
 ·refine .seq (.rgn [] (by simp only [go_sem, seval, af_, ae_, T2_, T1_, ai_]; rfl) ?_ ?_)
  ·(first | trivial | (simp; done) | (simp [b0_, List.forall_mem_append, bh_]; done))
  refine .condB (by simp only [go_sem, seval, af_, ae_, T2_, T1_, ai_]; rfl) (by simp only [go_sem, seval, af_, ae_, T2_, T1_, ai_]) (fun h23 => ?_) (fun h23 => ?_)
  ·refine .seq (.rgn [br_ [13] [39] (W (.inr (.inl (by simpa using h23))))] (by simp only [go_sem, seval, af_, ae_, T2_, T1_, ai_, aj_, ao_]; rfl) ?_ ?_)
   ·have q := h1 (.inr (.inl (by simpa using h23))); have q2 := (f9_ q 0 0); have q3 : src s.expr 0 0 ≠ [] := (fun e => by have := (b9_ q 0).1; rw [← ib_ s.expr 0 0, e] at this; simp at this); simp [b0_, bh_, q3, en_]; omega
   refine .frz 40 (by simp only [go_sem, seval, af_, ae_, T2_, T1_, ai_]; rfl) (by simp only [go_sem, seval, af_, ae_, T2_, T1_, ai_]) (by simp only [go_sem, seval, af_, ae_, T2_, T1_, ai_]; rfl) (by simp only [go_sem, seval, af_, ae_, T2_, T1_, ai_]; rfl) ?_
   refine .ret ⟨.inr rfl, ?_⟩
   exact Out.plain (by simp only [Tryz.results141]; rfl) (by simp only [av_, a5_, go_sem, seval, af_, ae_, T2_, T1_, ai_] <;> (split <;> rfl)) (by simp only [a2_, go_sem, seval, af_, ae_, T2_, T1_, ai_] <;> (have k : s.kind = 2 := (by simpa using h23); rw [if_pos (by omega), T1_ (by simp [af_]; omega)]; simp [df_, k, wdR, peel, bm_])) (by simp only [go_sem, seval, af_, ae_, T2_, T1_, ai_])
  ·refine .seq (.rgn [] (by simp only [go_sem, seval, af_, ae_, T2_, T1_, ai_]; rfl) ?_ ?_)
   ·(first | trivial | (simp; done) | (simp [b0_, List.forall_mem_append, bh_]; done))
   refine .condB (by simp only [go_sem, seval, af_, ae_, T2_, T1_, ai_]; rfl) (by simp only [go_sem, seval, af_, ae_, T2_, T1_, ai_]) (fun h31 => ?_) (fun h31 => ?_)
   ·refine .seq (.rgn [br_ [13] [47] (W (.inr (.inr (by simpa using h31))))] (by simp only [go_sem, seval, af_, ae_, T2_, T1_, ai_, aj_, ao_]; rfl) ?_ ?_)
    ·have q := h1 (.inr (.inr (by simpa using h31))); have q2 := (f9_ q 0 0); have q3 : src s.expr 0 0 ≠ [] := (fun e => by have := (b9_ q 0).1; rw [← ib_ s.expr 0 0, e] at this; simp at this); simp [b0_, bh_, q3, en_]; omega
    refine .seq (.rgn [] (by simp only [go_sem, seval, af_, ae_, T2_, T1_, ai_]; rfl) ?_ ?_)
    ·have q := h1 (.inr (.inr (by simpa using h31))); have q2 := (f9_ q 0 0); simp [b0_, bh_]; omega
    refine .seq (.rgn [br_ [13] [56] (W3 (by simpa using h31))] (by simp only [go_sem, seval, af_, ae_, T2_, T1_, ai_, aj_, ao_]; rfl) ?_ ?_)
    ·have q := h1 (.inr (.inr (by simpa using h31))); have q2 := (f9_ q 0 0); have q4 := f9_ (h2 (by simpa using h31)) 0 (0 + cnt s.expr); simp at q4; simp [b0_, bh_]; omega
    refine .frz 57 (by simp only [go_sem, seval, af_, ae_, T2_, T1_, ai_]; rfl) (by simp only [go_sem, seval, af_, ae_, T2_, T1_, ai_]) (by simp only [go_sem, seval, af_, ae_, T2_, T1_, ai_]; rfl) (by simp only [go_sem, seval, af_, ae_, T2_, T1_, ai_]; rfl) ?_
    refine .ret ⟨.inr rfl, ?_⟩
    exact Out.plain (by simp only [Tryz.results141]; rfl) (by simp only [av_, a5_, go_sem, seval, af_, ae_, T2_, T1_, ai_] <;> (split <;> rfl)) (by simp only [a2_, go_sem, seval, af_, ae_, T2_, T1_, ai_] <;> (have k : s.kind = 3 := (by simpa using h31); rw [if_pos (by omega), T1_ (by simp [af_]; omega)]; simp [df_, k, wdR, peel, bm_, dd_])) (by simp only [go_sem, seval, af_, ae_, T2_, T1_, ai_])
   ·refine .skip (.seq (.rgn [] (by simp only [go_sem, seval, af_, ae_, T2_, T1_, ai_]; rfl) ?_ ?_))
    ·(first | trivial | (simp; done) | (simp [b0_, List.forall_mem_append, bh_]; done))
    refine .can (Can.slotLe 2 (.sl false []) (by simp only [go_sem, seval, af_, ae_, T2_, T1_, ai_] <;> trivial) (by simp only [go_sem, seval, af_, ae_, T2_, T1_, ai_] <;> rfl)) ?_
    refine .ret ⟨.inr rfl, ?_⟩
    exact Out.plain (by simp only [Tryz.results141]; rfl) (by simp only [av_, a5_, go_sem, seval, af_, ae_, T2_, T1_, ai_] <;> (split <;> rfl)) (by simp only [a2_, go_sem, seval, af_, ae_, T2_, T1_, ai_] <;> (have k : s.kind = 0 := (by simp_all); simp [df_, k, wdR])) (by simp only [go_sem, seval, af_, ae_, T2_, T1_, ai_])
theorem lk_ {s : Sl} (h : cl_ s = true) : (bs_ (sw' s)).length ≤ 1000 := by
 have := lq_ h
 have h2 := py_ (fun s hs => (this.2 s hs).2)
 omega
theorem rx_ (s : Sl) (h : cl_ s = true) (hs : d0_ s = true) : ACall En 147 [.ag (sC s)] [] [.s (bs_ (sw' s))] [] := by
 have h1 := lk_ h
 have h2 := (lq_ h).1
 have h3 := n7_ h
 have h4 : (df_ s).length = (sw' s).length := by rw [← h3, List.length_map]
 refine ak_ (fn := Tryz.f147) [] Tryz.func147 rfl rfl (by simp) fun C => ?_
 rw [aw_]
 simp only [Tryz.ntmps147, T7_, List.length_nil, Nat.reduceAdd, Nat.reduceSub, List.replicate_succ, List.replicate_zero, List.cons_append, List.nil_append, bk_]
 refine .seq (.rgn [] (by simp only [go_sem, seval, ai_, ae_, h3]; rfl) ?_ ?_)
 ·simp
 refine .seq (.rgn [a3_ (tr_ s h hs), a3_ (i9_ (df_ s) (by omega)), a3_ (lm_ (sw' s) (by omega) (by omega))] (by simp only [go_sem, seval, ai_, ae_, h3]; rfl) ?_ ?_)
 ·simp
 refine .ret ⟨.inr rfl, ?_⟩
 exact Out.plain (by simp only [Tryz.results147]; rfl) (by simp only [av_, a5_, go_sem, seval, ai_, ae_, h3] <;> (split <;> rfl)) (by simp only [a2_, go_sem, seval, ai_, ae_, h3] <;> (rfl)) (by simp only [go_sem, seval, ai_, ae_, h3])
theorem ji_ (s : Sl) (hs : d0_ s = true) : ACall En 92 [.ag (sC s)] [] [.b (sok s)] [] := by
 obtain ⟨s1, s1', s2, s3⟩ := f3_ hs
 refine ak_ (fn := Tryz.f92) [] Tryz.func92 rfl rfl (by simp) fun C => ?_
 rw [aw_]
 simp only [Tryz.ntmps92, T7_, List.length_nil, Nat.reduceAdd, Nat.reduceSub, List.replicate_succ, List.replicate_zero, List.cons_append, List.nil_append, bk_]
 refine .seq (.rgn [] (by simp only [go_sem, seval, ai_]; rfl) ?_ ?_)
 ·(first | trivial | (simp; done) | exact hJ.symm)
 refine .seq (.rgn [] (by simp only [go_sem, seval, ai_]; rfl) ?_ ?_)
 ·(first | trivial | (simp; done) | exact hJ.symm)
 refine .seqJ (fun q : Bool => ⟨[.no, .pt 11 11 0 0, .no, .b q, .no, .no, .no, .no, .no, .no, .no, .no, .no, .no, .no, .no, .no, .no, .no, .no, .no, .no, .no, .no, .no, .no, .no, .no, .no, .no, .no, .no, .no, .no, .no, .no, .no, .no, .no, .no, .no, .no, .no, .no, .no, .no, .no, .no, .no, .no, .no, .no, .no, .no, .no, .no, .no, .no, .no, .no, .no, .no, .no, .no, .no, .no, .no, .no, .no, .no, .no, .no, .no, .no, .no, .no, .no, .no, .no, .no, .no, .no, .no, .no, .no, .no, .no, .no, .no, .no, .no, .no, .no], be_ [(11, ⟨55, 11, [sC s]⟩)], us [11]⟩) (fun q : Bool => q = cl_ s) ?_ (fun q hJ => ?_)
 ·refine .seq (.rgn [] (by simp only [go_sem, seval, ai_]; rfl) ?_ ?_)
  ·(first | trivial | (simp; done) | exact hJ.symm)
  refine .block (.seq (.rgn [] (by simp only [go_sem, seval, ai_]; rfl) ?_ ?_))
  ·(first | trivial | (simp; done) | exact hJ.symm)
  refine .condB (by simp only [go_sem, seval, ai_]; rfl) (by simp only [go_sem, seval, ai_]) (fun h6 => ?_) (fun h6 => ?_)
  ·refine .rgn [a3_ (e2_ s.expr s2), a3_ (e2_ s.thn s3)] (by simp only [go_sem, seval, ai_]; rfl) ?_ ?_
   ·(first | trivial | (simp; done) | exact hJ.symm)
   refine Exists.intro (cl_ s) ⟨?_, ?_⟩
   ·rfl
   exact Can.weak (Weak.lit (by simp only [go_sem, seval, ai_, as_, leV, aq_, ar_, V.inn, us, T9_, Ta_] <;> ((unfold cl_; simp_all))) (by simp only [go_sem, seval, ai_, as_, leV, aq_, ar_, V.inn, us, T9_, Ta_]) (by simp only [go_sem, seval, ai_, as_, leV, aq_, ar_, V.inn, us, T9_, Ta_]))
  ·refine .seq (.rgn [] (by simp only [go_sem, seval, ai_]; rfl) ?_ ?_)
   ·(first | trivial | (simp; done) | exact hJ.symm)
   refine .condB (by simp only [go_sem, seval, ai_]; rfl) (by simp only [go_sem, seval, ai_]) (fun h26 => ?_) (fun h26 => ?_)
   ·refine .rgn [a3_ (la_ s.name s1), a3_ (vp_ s.type), a3_ (fq_ s.expr s2), a3_ (e2_ s.thn s3)] (by simp only [go_sem, seval, ai_]; rfl) ?_ ?_
    ·(first | trivial | (simp; done) | exact hJ.symm)
    refine Exists.intro (cl_ s) ⟨?_, ?_⟩
    ·rfl
    exact Can.weak (Weak.lit (by simp only [go_sem, seval, ai_, as_, leV, aq_, ar_, V.inn, us, T9_, Ta_] <;> ((unfold cl_; simp_all))) (by simp only [go_sem, seval, ai_, as_, leV, aq_, ar_, V.inn, us, T9_, Ta_]) (by simp only [go_sem, seval, ai_, as_, leV, aq_, ar_, V.inn, us, T9_, Ta_]))
   ·refine .seq (.rgn [] (by simp only [go_sem, seval, ai_]; rfl) ?_ ?_)
    ·(first | trivial | (simp; done) | exact hJ.symm)
    refine .condB (by simp only [go_sem, seval, ai_]; rfl) (by simp only [go_sem, seval, ai_]) (fun h46 => ?_) (fun h46 => ?_)
    ·refine .rgn [a3_ (fq_ s.expr s2), a3_ (e2_ s.thn s3)] (by simp only [go_sem, seval, ai_]; rfl) ?_ ?_
     ·(first | trivial | (simp; done) | exact hJ.symm)
     refine Exists.intro (cl_ s) ⟨?_, ?_⟩
     ·rfl
     exact Can.weak (Weak.lit (by simp only [go_sem, seval, ai_, as_, leV, aq_, ar_, V.inn, us, T9_, Ta_] <;> ((unfold cl_; simp_all))) (by simp only [go_sem, seval, ai_, as_, leV, aq_, ar_, V.inn, us, T9_, Ta_]) (by simp only [go_sem, seval, ai_, as_, leV, aq_, ar_, V.inn, us, T9_, Ta_]))
    ·refine .seq (.rgn [] (by simp only [go_sem, seval, ai_]; rfl) ?_ ?_)
     ·(first | trivial | (simp; done) | exact hJ.symm)
     refine .condB (by simp only [go_sem, seval, ai_]; rfl) (by simp only [go_sem, seval, ai_]) (fun h66 => ?_) (fun h66 => ?_)
     ·refine .rgn [a3_ (fq_ s.expr s2), a3_ (fq_ s.thn s3)] (by simp only [go_sem, seval, ai_]; rfl) ?_ ?_
      ·(first | trivial | (simp; done) | exact hJ.symm)
      refine Exists.intro (cl_ s) ⟨?_, ?_⟩
      ·rfl
      exact Can.weak (Weak.lit (by simp only [go_sem, seval, ai_, as_, leV, aq_, ar_, V.inn, us, T9_, Ta_] <;> ((unfold cl_; simp_all))) (by simp only [go_sem, seval, ai_, as_, leV, aq_, ar_, V.inn, us, T9_, Ta_]) (by simp only [go_sem, seval, ai_, as_, leV, aq_, ar_, V.inn, us, T9_, Ta_]))
     ·refine .skip ?_
      refine Exists.intro (cl_ s) ⟨?_, ?_⟩
      ·rfl
      exact Can.weak (Weak.lit (by simp only [go_sem, seval, ai_, as_, leV, aq_, ar_, V.inn, us, T9_, Ta_] <;> ((unfold cl_; simp_all))) (by simp only [go_sem, seval, ai_, as_, leV, aq_, ar_, V.inn, us, T9_, Ta_]) (by simp only [go_sem, seval, ai_, as_, leV, aq_, ar_, V.inn, us, T9_, Ta_]))
 cases q
 ·refine .seq (.rgn [by_ (cl_ s = true) (fun h => rx_ s h hs)] (by simp only [go_sem, seval, ai_]; rfl) ?_ ?_)
  ·(first | trivial | (simp; done) | exact hJ.symm)
  refine .ret ⟨.inr rfl, ?_⟩
  exact Out.plain (by simp only [Tryz.results92]; rfl) (by simp only [av_, a5_, go_sem, seval, ai_] <;> (split <;> rfl)) (by simp only [a2_, go_sem, seval, ai_] <;> (rw [sok, ← hJ]; first | rfl | (rw [Bool.true_and, f1_]; rfl))) (by simp only [go_sem, seval, ai_])
 ·refine .seq (.rgn [by_ (cl_ s = true) (fun h => rx_ s h hs)] (by simp only [go_sem, seval, ai_]; rfl) ?_ ?_)
  ·(first | trivial | (simp; done) | exact hJ.symm)
  refine .ret ⟨.inr rfl, ?_⟩
  exact Out.plain (by simp only [Tryz.results92]; rfl) (by simp only [av_, a5_, go_sem, seval, ai_] <;> (split <;> rfl)) (by simp only [a2_, go_sem, seval, ai_] <;> (rw [sok, ← hJ]; first | rfl | (rw [Bool.true_and, f1_]; rfl))) (by simp only [go_sem, seval, ai_])
theorem c2_ {s : Sl} (h : sok s = true) : cl_ s = true := by simp only [sok, T5_] at h; exact h.1
def d2_ (s : Sl) : Str := if sok s then bs_ (sw' s) else []
theorem th_ (s : Sl) (hs : d0_ s = true) : ACall En 93 [.ag (sC s)] [] [.s (d2_ s)] [] := by
 refine ak_ (fn := Tryz.f93) [] Tryz.func93 rfl rfl (by simp) fun C => ?_
 rw [aw_]
 simp only [Tryz.ntmps93, T7_, List.length_nil, Nat.reduceAdd, Nat.reduceSub, List.replicate_succ, List.replicate_zero, List.cons_append, List.nil_append, bk_]
 refine .seq (.rgn [] (by simp only [go_sem, seval, ai_]; rfl) ?_ ?_)
 ·first | trivial | simp
 refine .seq (.seq (.rgn [a3_ (ji_ s hs)] (by simp only [go_sem, seval, ai_]; rfl) ?_ ?_))
 ·simp
 refine .condB (by simp only [go_sem, seval, ai_]; rfl) (by simp only [go_sem, seval, ai_]) (fun h5 => ?_) (fun h5 => ?_)
 ·refine .seq (.rgn [] (by simp only [go_sem, seval, ai_]; rfl) ?_ ?_)
  ·first | trivial | simp
  refine .ret ⟨.inr rfl, ?_⟩
  exact Out.plain (by simp only [Tryz.results93]; rfl) (by simp only [av_, a5_, go_sem, seval, ai_] <;> (split <;> rfl)) (by simp only [a2_, go_sem, seval, ai_] <;> (simp at h5; simp [d2_, h5])) (by simp only [go_sem, seval, ai_])
 ·refine .skip (.seq (.rgn [by_ (sok s = true) (fun h => rx_ s (c2_ h) hs)] (by simp only [go_sem, seval, ai_]; rfl) ?_ ?_))
  ·simpa using h5
  refine .ret ⟨.inr rfl, ?_⟩
  exact Out.plain (by simp only [Tryz.results93]; rfl) (by simp only [av_, a5_, go_sem, seval, ai_] <;> (split <;> rfl)) (by simp only [a2_, go_sem, seval, ai_] <;> (simp at h5; simp [d2_, h5])) (by simp only [go_sem, seval, ai_])
theorem h4_ (s : Sl) (h : cl_ s = true) (hs : d0_ s = true) : ACall En 137 [.ag (sC s)] [] [.sl false (bl_ (sw' s))] [] := by
 obtain ⟨h0, h1, h2⟩ := fs_ h
 obtain ⟨s1, s1', s2, s3⟩ := f3_ hs
 have W : s.kind = 1 ∨ s.kind = 2 ∨ s.kind = 3 → _ := fun hk => hs_ 5 s.expr 1 (bp_ (h1 hk)) s2 (hf_ (h1 hk)) (by decide) (by decide)
 have W3 : s.kind = 3 → _ := fun hk => hs_ 5 s.thn 1 (bp_ (h2 hk)) s3 (hf_ (h2 hk)) (by decide) (by decide)
 refine ak_ (fn := Tryz.f137) [] Tryz.func137 rfl rfl (by simp) fun C => ?_
 rw [aw_]
 simp only [Tryz.ntmps137, T7_, List.length_nil, Nat.reduceAdd, Nat.reduceSub, List.replicate_succ, List.replicate_zero, List.cons_append, List.nil_append, bk_]
 refine .seq (.rgn [] (by simp only [go_sem, seval, ac_, aa_, T2_, T1_, ai_]; rfl) ?_ ?_)
 ·(first | trivial | (simp; done) | (simp [bf_]; done))
 refine .seq (.seq (.rgn [] (by simp only [go_sem, seval, ac_, aa_, T2_, T1_, ai_]; rfl) ?_ ?_))
 ·(first | trivial | (simp; done) | (simp [bf_]; done))
 refine .block (.seq (.rgn [] (by simp only [go_sem, seval, ac_, aa_, T2_, T1_, ai_]; rfl) ?_ ?_))
 ·(first | trivial | (simp; done) | (simp [bf_]; done))
 refine .condB (by simp only [go_sem, seval, ac_, aa_, T2_, T1_, ai_]; rfl) (by simp only [go_sem, seval, ac_, aa_, T2_, T1_, ai_]) (fun h6 => ?_) (fun h6 => ?_)
 ·refine .seq (.rgnD [a3_ (W (.inl (by simpa using h6)))] enM (by simp only [go_sem, seval, ac_, aa_, T2_, T1_, ai_]; rfl) (by rfl) ?_ ?_)
  ·have q := h1 (.inl (by simpa using h6)); have q2 := (b9_ q 1); have q3 := wu_ q 1; simp [b0_, bf_, q3, je_]; omega
  refine .frz 26 (by simp only [go_sem, seval, ac_, aa_, T2_, T1_, ai_]; rfl) (by simp only [go_sem, seval, ac_, aa_, T2_, T1_, ai_]) (by simp only [go_sem, seval, ac_, aa_, T2_, T1_, ai_]; rfl) (by simp only [go_sem, seval, ac_, aa_, T2_, T1_, ai_]; rfl) ?_
  refine .ret ⟨.inr rfl, ?_⟩
  exact Out.plain (by simp only [Tryz.results137]; rfl) (by simp only [av_, a5_, go_sem, seval, ac_, aa_, T2_, T1_, ai_] <;> (split <;> rfl)) (by simp only [a2_, go_sem, seval, ac_, aa_, T2_, T1_, ai_] <;> (have k : s.kind = 1 := (by simpa using h6); rw [if_pos (by omega), T1_ (by simp [ac_]; omega)]; simp [sw', k, bl_, peel, wEq, hh_, g5_])) (by simp only [go_sem, seval, ac_, aa_, T2_, T1_, ai_])
 ·refine .seq (.rgn [] (by simp only [go_sem, seval, ac_, aa_, T2_, T1_, ai_]; rfl) ?_ ?_)
  ·(first | trivial | (simp; done) | (simp [bf_]; done))
  refine .condB (by simp only [go_sem, seval, ac_, aa_, T2_, T1_, ai_]; rfl) (by simp only [go_sem, seval, ac_, aa_, T2_, T1_, ai_]) (fun h17 => ?_) (fun h17 => ?_)
  ·refine .seq (.rgn [a3_ (W (.inr (.inl (by simpa using h17))))] (by simp only [go_sem, seval, ac_, aa_, T2_, T1_, ai_]; rfl) ?_ ?_)
   ·have q := h1 (.inr (.inl (by simpa using h17))); have q2 := (b9_ q 1); have q3 := wu_ q 1; simp [b0_, bf_, q3, je_]; omega
   refine .frz 33 (by simp only [go_sem, seval, ac_, aa_, T2_, T1_, ai_]; rfl) (by simp only [go_sem, seval, ac_, aa_, T2_, T1_, ai_]) (by simp only [go_sem, seval, ac_, aa_, T2_, T1_, ai_]; rfl) (by simp only [go_sem, seval, ac_, aa_, T2_, T1_, ai_]; rfl) ?_
   refine .ret ⟨.inr rfl, ?_⟩
   exact Out.plain (by simp only [Tryz.results137]; rfl) (by simp only [av_, a5_, go_sem, seval, ac_, aa_, T2_, T1_, ai_] <;> (split <;> rfl)) (by simp only [a2_, go_sem, seval, ac_, aa_, T2_, T1_, ai_] <;> (have k : s.kind = 2 := (by simpa using h17); rw [if_pos (by omega), T1_ (by simp [ac_]; omega)]; simp [sw', k, bl_, peel, bm_])) (by simp only [go_sem, seval, ac_, aa_, T2_, T1_, ai_])
  ·refine .seq (.rgn [] (by simp only [go_sem, seval, ac_, aa_, T2_, T1_, ai_]; rfl) ?_ ?_)
   ·(first | trivial | (simp; done) | (simp [bf_]; done))
   refine .condB (by simp only [go_sem, seval, ac_, aa_, T2_, T1_, ai_]; rfl) (by simp only [go_sem, seval, ac_, aa_, T2_, T1_, ai_]) (fun h24 => ?_) (fun h24 => ?_)
   ·refine .seq (.rgn [a3_ (W (.inr (.inr (by simpa using h24))))] (by simp only [go_sem, seval, ac_, aa_, T2_, T1_, ai_]; rfl) ?_ ?_)
    ·have q := h1 (.inr (.inr (by simpa using h24))); have q2 := (b9_ q 1); have q3 := wu_ q 1; simp [b0_, bf_, q3, je_]; omega
    refine .seq (.rgnD [a3_ (W3 (by simpa using h24))] enM (by simp only [go_sem, seval, ac_, aa_, T2_, T1_, ai_]; rfl) (by rfl) ?_ ?_)
    ·have q := h1 (.inr (.inr (by simpa using h24))); have q2 := (b9_ q 1); have q4 := b9_ (h2 (by simpa using h24)) 1; simp [b0_, bf_]; omega
    refine .frz 47 (by simp only [go_sem, seval, ac_, aa_, T2_, T1_, ai_]; rfl) (by simp only [go_sem, seval, ac_, aa_, T2_, T1_, ai_]) (by simp only [go_sem, seval, ac_, aa_, T2_, T1_, ai_]; rfl) (by simp only [go_sem, seval, ac_, aa_, T2_, T1_, ai_]; rfl) ?_
    refine .ret ⟨.inr rfl, ?_⟩
    exact Out.plain (by simp only [Tryz.results137]; rfl) (by simp only [av_, a5_, go_sem, seval, ac_, aa_, T2_, T1_, ai_] <;> (split <;> rfl)) (by simp only [a2_, go_sem, seval, ac_, aa_, T2_, T1_, ai_] <;> (have k : s.kind = 3 := (by simpa using h24); rw [if_pos (by omega), T1_ (by simp [ac_]; omega)]; simp [sw', k, bl_, peel, bm_, dd_])) (by simp only [go_sem, seval, ac_, aa_, T2_, T1_, ai_])
   ·refine .skip (.seq (.rgn [] (by simp only [go_sem, seval, ac_, aa_, T2_, T1_, ai_]; rfl) ?_ ?_))
    ·(first | trivial | (simp; done) | (simp [bf_]; done))
    refine .can (Can.slotLe 2 (.sl false []) (by simp only [go_sem, seval, ac_, aa_, T2_, T1_, ai_] <;> trivial) (by simp only [go_sem, seval, ac_, aa_, T2_, T1_, ai_] <;> rfl)) ?_
    refine .ret ⟨.inr rfl, ?_⟩
    exact Out.plain (by simp only [Tryz.results137]; rfl) (by simp only [av_, a5_, go_sem, seval, ac_, aa_, T2_, T1_, ai_] <;> (split <;> rfl)) (by simp only [a2_, go_sem, seval, ac_, aa_, T2_, T1_, ai_] <;> (have k : s.kind = 0 := (by simp_all); simp [sw', k, bl_])) (by simp only [go_sem, seval, ac_, aa_, T2_, T1_, ai_])
theorem mq_ (s : Sl) (hs : d0_ s = true) : ACall En 136 [.ag (sC s)] [] [.b (sok s)] [] := by
 obtain ⟨s1, s1', s2, s3⟩ := f3_ hs
 refine ak_ (fn := Tryz.f136) [] Tryz.func136 rfl rfl (by simp) fun C => ?_
 rw [aw_]
 simp only [Tryz.ntmps136, T7_, List.length_nil, Nat.reduceAdd, Nat.reduceSub, List.replicate_succ, List.replicate_zero, List.cons_append, List.nil_append, bk_]
 refine .seq (.rgn [] (by simp only [go_sem, seval, ai_, aa_]; rfl) ?_ ?_)
 ·(first | trivial | (simp; done) | exact hJ.symm | exact ⟨hJ.symm, hJ.symm⟩)
 refine .seq (.rgn [] (by simp only [go_sem, seval, ai_, aa_]; rfl) ?_ ?_)
 ·(first | trivial | (simp; done) | exact hJ.symm | exact ⟨hJ.symm, hJ.symm⟩)
 refine .seqJ (fun q : Bool => ⟨[.no, .pt 11 11 0 0, .no, .b q, .no, .no, .no, .no, .no, .no, .no, .no, .no, .no, .no, .no, .no, .no, .no, .no, .no, .no, .no, .no, .no, .no, .no, .no, .no, .no, .no, .no, .no, .no, .no, .no, .no, .no, .no, .no, .no, .no, .no, .no, .no, .no, .no, .no, .no, .no, .no, .no, .no, .no, .no, .no, .no, .no, .no, .no, .no, .no, .no, .no, .no, .no, .no, .no, .no, .no, .no, .no, .no, .no, .no, .no, .no, .no, .no, .no, .no, .no, .no, .no, .no, .no, .no, .no, .no, .no, .no, .no, .no, .no], be_ [(11, ⟨55, 11, [sC s]⟩)], us [11]⟩) (fun q : Bool => q = cl_ s) ?_ (fun q hJ => ?_)
 ·refine .seq (.rgn [] (by simp only [go_sem, seval, ai_, aa_]; rfl) ?_ ?_)
  ·(first | trivial | (simp; done) | exact hJ.symm | exact ⟨hJ.symm, hJ.symm⟩)
  refine .block (.seq (.rgn [] (by simp only [go_sem, seval, ai_, aa_]; rfl) ?_ ?_))
  ·(first | trivial | (simp; done) | exact hJ.symm | exact ⟨hJ.symm, hJ.symm⟩)
  refine .condB (by simp only [go_sem, seval, ai_, aa_]; rfl) (by simp only [go_sem, seval, ai_, aa_]) (fun h6 => ?_) (fun h6 => ?_)
  ·refine .rgn [a3_ (k4_ s.expr s2), a3_ (k4_ s.thn s3)] (by simp only [go_sem, seval, ai_, aa_]; rfl) ?_ ?_
   ·(first | trivial | (simp; done) | exact hJ.symm | exact ⟨hJ.symm, hJ.symm⟩)
   refine Exists.intro (cl_ s) ⟨?_, ?_⟩
   ·rfl
   exact Can.weak (Weak.lit (by simp only [go_sem, seval, ai_, aa_, as_, leV, aq_, ar_, V.inn, us, T9_, Ta_] <;> ((unfold cl_; simp_all))) (by simp only [go_sem, seval, ai_, aa_, as_, leV, aq_, ar_, V.inn, us, T9_, Ta_]) (by simp only [go_sem, seval, ai_, aa_, as_, leV, aq_, ar_, V.inn, us, T9_, Ta_]))
  ·refine .seq (.rgn [] (by simp only [go_sem, seval, ai_, aa_]; rfl) ?_ ?_)
   ·(first | trivial | (simp; done) | exact hJ.symm | exact ⟨hJ.symm, hJ.symm⟩)
   refine .condB (by simp only [go_sem, seval, ai_, aa_]; rfl) (by simp only [go_sem, seval, ai_, aa_]) (fun h26 => ?_) (fun h26 => ?_)
   ·refine .rgn [a3_ (ph_ s.name s1), a3_ (km_ s.type), a3_ (go_ s.expr s2), a3_ (k4_ s.thn s3)] (by simp only [go_sem, seval, ai_, aa_]; rfl) ?_ ?_
    ·(first | trivial | (simp; done) | exact hJ.symm | exact ⟨hJ.symm, hJ.symm⟩)
    refine Exists.intro (cl_ s) ⟨?_, ?_⟩
    ·rfl
    exact Can.weak (Weak.lit (by simp only [go_sem, seval, ai_, aa_, as_, leV, aq_, ar_, V.inn, us, T9_, Ta_] <;> ((unfold cl_; simp_all))) (by simp only [go_sem, seval, ai_, aa_, as_, leV, aq_, ar_, V.inn, us, T9_, Ta_]) (by simp only [go_sem, seval, ai_, aa_, as_, leV, aq_, ar_, V.inn, us, T9_, Ta_]))
   ·refine .seq (.rgn [] (by simp only [go_sem, seval, ai_, aa_]; rfl) ?_ ?_)
    ·(first | trivial | (simp; done) | exact hJ.symm | exact ⟨hJ.symm, hJ.symm⟩)
    refine .condB (by simp only [go_sem, seval, ai_, aa_]; rfl) (by simp only [go_sem, seval, ai_, aa_]) (fun h46 => ?_) (fun h46 => ?_)
    ·refine .rgn [a3_ (go_ s.expr s2), a3_ (k4_ s.thn s3)] (by simp only [go_sem, seval, ai_, aa_]; rfl) ?_ ?_
     ·(first | trivial | (simp; done) | exact hJ.symm | exact ⟨hJ.symm, hJ.symm⟩)
     refine Exists.intro (cl_ s) ⟨?_, ?_⟩
     ·rfl
     exact Can.weak (Weak.lit (by simp only [go_sem, seval, ai_, aa_, as_, leV, aq_, ar_, V.inn, us, T9_, Ta_] <;> ((unfold cl_; simp_all))) (by simp only [go_sem, seval, ai_, aa_, as_, leV, aq_, ar_, V.inn, us, T9_, Ta_]) (by simp only [go_sem, seval, ai_, aa_, as_, leV, aq_, ar_, V.inn, us, T9_, Ta_]))
    ·refine .seq (.rgn [] (by simp only [go_sem, seval, ai_, aa_]; rfl) ?_ ?_)
     ·(first | trivial | (simp; done) | exact hJ.symm | exact ⟨hJ.symm, hJ.symm⟩)
     refine .condB (by simp only [go_sem, seval, ai_, aa_]; rfl) (by simp only [go_sem, seval, ai_, aa_]) (fun h66 => ?_) (fun h66 => ?_)
     ·refine .rgn [a3_ (go_ s.expr s2), a3_ (go_ s.thn s3)] (by simp only [go_sem, seval, ai_, aa_]; rfl) ?_ ?_
      ·(first | trivial | (simp; done) | exact hJ.symm | exact ⟨hJ.symm, hJ.symm⟩)
      refine Exists.intro (cl_ s) ⟨?_, ?_⟩
      ·rfl
      exact Can.weak (Weak.lit (by simp only [go_sem, seval, ai_, aa_, as_, leV, aq_, ar_, V.inn, us, T9_, Ta_] <;> ((unfold cl_; simp_all))) (by simp only [go_sem, seval, ai_, aa_, as_, leV, aq_, ar_, V.inn, us, T9_, Ta_]) (by simp only [go_sem, seval, ai_, aa_, as_, leV, aq_, ar_, V.inn, us, T9_, Ta_]))
     ·refine .skip ?_
      refine Exists.intro (cl_ s) ⟨?_, ?_⟩
      ·rfl
      exact Can.weak (Weak.lit (by simp only [go_sem, seval, ai_, aa_, as_, leV, aq_, ar_, V.inn, us, T9_, Ta_] <;> ((unfold cl_; simp_all))) (by simp only [go_sem, seval, ai_, aa_, as_, leV, aq_, ar_, V.inn, us, T9_, Ta_]) (by simp only [go_sem, seval, ai_, aa_, as_, leV, aq_, ar_, V.inn, us, T9_, Ta_]))
 cases q
 ·refine .seq (.rgn [by_ (cl_ s = true) (fun h => h4_ s h hs), by_ (cl_ s = true) (fun h => gz_ (sw' s) (by have := (lq_ h).1; omega) (by have := lk_ h; omega))] (by simp only [go_sem, seval, ai_, aa_]; rfl) ?_ ?_)
  ·(first | trivial | (simp; done) | exact hJ.symm | exact ⟨hJ.symm, hJ.symm⟩)
  refine .ret ⟨.inr rfl, ?_⟩
  exact Out.plain (by simp only [Tryz.results136]; rfl) (by simp only [av_, a5_, go_sem, seval, ai_, aa_] <;> (split <;> rfl)) (by simp only [a2_, go_sem, seval, ai_, aa_] <;> (rw [sok, ← hJ]; first | rfl | (rw [Bool.true_and, f1_]; rfl))) (by simp only [go_sem, seval, ai_, aa_])
 ·refine .seq (.rgn [by_ (cl_ s = true) (fun h => h4_ s h hs), by_ (cl_ s = true) (fun h => gz_ (sw' s) (by have := (lq_ h).1; omega) (by have := lk_ h; omega))] (by simp only [go_sem, seval, ai_, aa_]; rfl) ?_ ?_)
  ·(first | trivial | (simp; done) | exact hJ.symm | exact ⟨hJ.symm, hJ.symm⟩)
  refine .ret ⟨.inr rfl, ?_⟩
  exact Out.plain (by simp only [Tryz.results136]; rfl) (by simp only [av_, a5_, go_sem, seval, ai_, aa_] <;> (split <;> rfl)) (by simp only [a2_, go_sem, seval, ai_, aa_] <;> (rw [sok, ← hJ]; first | rfl | (rw [Bool.true_and, f1_]; rfl))) (by simp only [go_sem, seval, ai_, aa_])
end
section
set_option maxRecDepth 100000
set_option maxHeartbeats 4000000
theorem nu_ {s : Sl} (h : cl_ s = true) : wf s.expr = true ∧ wf s.thn = true := by
 unfold cl_ at h
 by_cases k0 : s.kind = 0
 ·simp [k0, c9_] at h; rw [h.1.2, h.2]; exact ⟨m3_, m3_⟩
 by_cases k1 : s.kind = 1
 ·simp [k1, c9_] at h; rw [h.2]; exact ⟨g1_ h.1.2, m3_⟩
 by_cases k2 : s.kind = 2
 ·simp [k2, c9_] at h; rw [h.2]; exact ⟨g1_ h.1.2, m3_⟩
 by_cases k3 : s.kind = 3
 ·simp [k3] at h; exact ⟨g1_ h.1.2, g1_ h.2⟩
 ·simp [k0, k1, k2, k3] at h
def mx_ (s : Sl) : Bl := if sok s then bof s else B0
theorem ajy_ : smb B0 = true := by decide
theorem u4_ (s : Sl) (hs : d0_ s = true) (w1 : wf s.expr = true) (w2 : wf s.thn = true) : ACall En 94 [.ag (sC s)] [] [.ag (bC (bof s))] [] := by
 obtain ⟨s1, s2, s3, s4⟩ := f3_ hs
 refine ak_ (fn := Tryz.f94) [] Tryz.func94 rfl rfl (by simp) fun C => ?_
 rw [aw_]
 simp only [Tryz.ntmps94, T7_, List.length_nil, Nat.reduceAdd, Nat.reduceSub, List.replicate_succ, List.replicate_zero, List.cons_append, List.nil_append, bk_]
 refine .seq (.rgn [] (by simp only [go_sem, seval, ai_, a4_]; rfl) ?_ ?_)
 ·first | trivial | simp
 refine .seq (.rgn [] (by simp only [go_sem, seval, ai_, a4_]; rfl) ?_ ?_)
 ·first | trivial | simp
 refine .seq (.seq (.rgn [] (by simp only [go_sem, seval, ai_, a4_]; rfl) ?_ ?_))
 ·first | trivial | simp
 refine .condB (by simp only [go_sem, seval, ai_, a4_]; rfl) (by simp only [go_sem, seval, ai_, a4_]) (fun h11 => ?_) (fun h11 => ?_)
 ·refine .rgn [a3_ (nz_ s.expr w1 s3)] (by simp only [go_sem, seval, ai_, a4_]; rfl) ?_ ?_
  ·first | trivial | simp
  refine .seq (.seq (.rgn [] (by simp only [go_sem, seval, ai_, a4_]; rfl) ?_ ?_))
  ·first | trivial | simp
  refine .condB (by simp only [go_sem, seval, ai_, a4_]; rfl) (by simp only [go_sem, seval, ai_, a4_]) (fun h18 => ?_) (fun h18 => ?_)
  ·refine .rgn [a3_ (nz_ s.thn w2 s4)] (by simp only [go_sem, seval, ai_, a4_]; rfl) ?_ ?_
   ·first | trivial | simp
   refine .seq (.rgn [] (by simp only [go_sem, seval, ai_, a4_]; rfl) ?_ ?_)
   ·first | trivial | simp
   refine .ret ⟨.inr rfl, ?_⟩
   exact Out.plainL (by simp only [Tryz.results94]; rfl) (by simp only [av_, a5_, go_sem, seval, ai_, a4_] <;> (split <;> rfl)) (by simp only [a2_, go_sem, seval, ai_, a4_] <;> (simp at h11 h18; simp [bof, h11, h18, a4_, h0_, hn_, ht_, c5_, dl_, ler, bd_])) (by simp only [go_sem, seval, ai_, a4_])
  ·refine .skip (.seq (.rgn [] (by simp only [go_sem, seval, ai_, a4_]; rfl) ?_ ?_))
   ·first | trivial | simp
   refine .ret ⟨.inr rfl, ?_⟩
   exact Out.plainL (by simp only [Tryz.results94]; rfl) (by simp only [av_, a5_, go_sem, seval, ai_, a4_] <;> (split <;> rfl)) (by simp only [a2_, go_sem, seval, ai_, a4_] <;> (simp at h11 h18; simp [bof, h11, h18, a4_, h0_, hn_, ht_, c5_, dl_, ler, bd_])) (by simp only [go_sem, seval, ai_, a4_])
 ·refine .skip (.seq (.seq (.rgn [] (by simp only [go_sem, seval, ai_, a4_]; rfl) ?_ ?_)))
  ·first | trivial | simp
  refine .condB (by simp only [go_sem, seval, ai_, a4_]; rfl) (by simp only [go_sem, seval, ai_, a4_]) (fun h18 => ?_) (fun h18 => ?_)
  ·refine .rgn [a3_ (nz_ s.thn w2 s4)] (by simp only [go_sem, seval, ai_, a4_]; rfl) ?_ ?_
   ·first | trivial | simp
   refine .seq (.rgn [] (by simp only [go_sem, seval, ai_, a4_]; rfl) ?_ ?_)
   ·first | trivial | simp
   refine .ret ⟨.inr rfl, ?_⟩
   exact Out.plainL (by simp only [Tryz.results94]; rfl) (by simp only [av_, a5_, go_sem, seval, ai_, a4_] <;> (split <;> rfl)) (by simp only [a2_, go_sem, seval, ai_, a4_] <;> (simp at h11 h18; omega)) (by simp only [go_sem, seval, ai_, a4_])
  ·refine .skip (.seq (.rgn [] (by simp only [go_sem, seval, ai_, a4_]; rfl) ?_ ?_))
   ·first | trivial | simp
   refine .ret ⟨.inr rfl, ?_⟩
   exact Out.plainL (by simp only [Tryz.results94]; rfl) (by simp only [av_, a5_, go_sem, seval, ai_, a4_] <;> (split <;> rfl)) (by simp only [a2_, go_sem, seval, ai_, a4_] <;> (simp at h11 h18; simp [bof, h11, h18, a4_, h0_, hn_, ht_, c5_, dl_, ler, bd_])) (by simp only [go_sem, seval, ai_, a4_])
theorem z6_ (s : Sl) (hs : d0_ s = true) : ACall En 41 [.ag (sC s)] [] [.ag (bC (mx_ s))] [] := by
 refine ak_ (fn := Tryz.f41) [] Tryz.func41 rfl rfl (by simp) fun C => ?_
 rw [aw_]
 simp only [Tryz.ntmps41, T7_, List.length_nil, Nat.reduceAdd, Nat.reduceSub, List.replicate_succ, List.replicate_zero, List.cons_append, List.nil_append, bk_]
 refine .seq (.rgn [] (by simp only [go_sem, seval, ai_, a4_]; rfl) ?_ ?_)
 ·first | trivial | simp
 refine .seq (.seq (.rgn [a3_ (ji_ s hs)] (by simp only [go_sem, seval, ai_, a4_]; rfl) ?_ ?_))
 ·first | trivial | simp
 refine .condB (by simp only [go_sem, seval, ai_, a4_]; rfl) (by simp only [go_sem, seval, ai_, a4_]) (fun h5 => ?_) (fun h5 => ?_)
 ·refine .seq (.rgn [] (by simp only [go_sem, seval, ai_, a4_]; rfl) ?_ ?_)
  ·first | trivial | simp
  refine .ret ⟨.inr rfl, ?_⟩
  exact Out.plainL (by simp only [Tryz.results41]; rfl) (by simp only [av_, a5_, go_sem, seval, ai_, a4_] <;> (split <;> rfl)) (by simp only [a2_, go_sem, seval, ai_, a4_] <;> (simp at h5; simp [mx_, h5, B0, h0_, hn_, ht_, c5_, dl_, ler])) (by simp only [go_sem, seval, ai_, a4_])
 ·refine .skip (.seq (.rgn [by_ (sok s = true) (fun h => u4_ s hs (nu_ (c2_ h)).1 (nu_ (c2_ h)).2)] (by simp only [go_sem, seval, ai_, a4_]; rfl) ?_ ?_))
  ·simpa using h5
  refine .ret ⟨.inr rfl, ?_⟩
  exact Out.plainL (by simp only [Tryz.results41]; rfl) (by simp only [av_, a5_, go_sem, seval, ai_, a4_] <;> (split <;> rfl)) (by simp only [a2_, go_sem, seval, ai_, a4_] <;> (simp at h5; simp [mx_, h5, bd_])) (by simp only [go_sem, seval, ai_, a4_])
end
section
set_option maxRecDepth 100000
set_option maxHeartbeats 4000000
def ip_ (b : Str) (q k : Int) (x : Sl) : Sl × Int :=
 if k = 0 then ({ x with kind := uc_ b q [0, 4, 1, 2, 3] }, q + 1)
 else if k = 1 then ({ x with name := ofI b q [[120], [108, 101, 116], [88], []] }, q + 1)
 else if k = 2 then ({ x with type := ofI b q [[105, 110, 116], [116, 101, 120, 116], []] }, q + 1)
 else if k = 3 then ({ x with thn := (f0_ b q).1 }, (f0_ b q).2)
 else (x, q)
def dl5 (b : Str) (p : Int) : Sl × Int := ip_ b ((b7_ b p).2 + 1) (b2_ b (b7_ b p).2 40) (b7_ b p).1
theorem aa7_ (b : Str) {p : Int} (hp : 0 ≤ p) (hp2 : p < 100000000) : p ≤ (dl5 b p).2 ∧ (dl5 b p).2 ≤ p + 700 ∧ d0_ (dl5 b p).1 = true := by
 obtain ⟨h1, h2, h3, _⟩ := k6_ b hp hp2
 obtain ⟨s1, s2, s3, s4⟩ := f3_ h3
 have hB := afn_ b (p := (b7_ b p).2 + 1) (by omega) (by omega)
 unfold dl5 ip_
 split
 ·exact ⟨by dsimp only; omega, by dsimp only; omega, h3⟩
 ·split
  ·have l1 := g2_ (b := b) (p := (b7_ b p).2 + 1) (l := [[120], [108, 101, 116], [88], []]) (by decide) (by omega) (by omega) 5 (by decide)
   refine ⟨by dsimp only; omega, by dsimp only; omega, ?_⟩
   simp only [d0_, s2, s3, s4, decide_true, Bool.and_true, T3_]; omega
  ·split
   ·have l1 := g2_ (b := b) (p := (b7_ b p).2 + 1) (l := [[105, 110, 116], [116, 101, 120, 116], []]) (by decide) (by omega) (by omega) 5 (by decide)
    refine ⟨by dsimp only; omega, by dsimp only; omega, ?_⟩
    simp only [d0_, s1, s3, s4, decide_true, Bool.and_true, Bool.true_and, T3_]; omega
   ·split
    ·refine ⟨by dsimp only; omega, by dsimp only; omega, ?_⟩
     simp only [d0_, s1, s2, s3, hB.2.2, decide_true, Bool.and_true]
    ·exact ⟨by dsimp only; omega, by dsimp only; omega, h3⟩
theorem t4_ (b : Str) (p : Int) (hb : b.length ≤ 2000) (hp : 0 ≤ p) (hp2 : p < 100000000) : ACall En 184 [.pt 0 2 0 0] [rdB b p] [.ag (sC (dl5 b p).1)] [rdB b (dl5 b p).2] := by
 obtain ⟨h1, h2, h3, w1, w2, _⟩ := k6_ b hp hp2
 refine ak_ (fn := Tryz.f184) [0] Tryz.func184 rfl rfl (by simp) fun C => ?_
 rw [aw_]
 simp only [Tryz.ntmps184, T7_, List.length_nil, Nat.reduceAdd, Nat.reduceSub, List.replicate_succ, List.replicate_zero, List.cons_append, List.nil_append, bk_]
 refine .seq (.rgn [] (by simp only [go_sem, seval, aj_, ao_, ax_, ap_, an_, am_, ai_]; rfl) ?_ ?_)
 ·first | trivial | simp
 refine .seq (.rgn [br_ [0] [] (us_ b p hb hp hp2)] (by simp only [go_sem, seval, aj_, ao_, ax_, ap_, an_, am_, ai_]; rfl) ?_ ?_)
 ·first | trivial | simp
 refine .seq (.seq (.rgn [br_ [0] [] (eb_ b (b7_ b p).2 40 hb (by omega) (by omega))] (by simp only [go_sem, seval, aj_, ao_, ax_, ap_, an_, am_, ai_]; rfl) ?_ ?_))
 ·first | trivial | simp
 refine .block (.seq (.rgn [] (by simp only [go_sem, seval, aj_, ao_, ax_, ap_, an_, am_, ai_]; rfl) ?_ ?_))
 ·first | trivial | simp
 refine .condB (by simp only [go_sem, seval, aj_, ao_, ax_, ap_, an_, am_, ai_]; rfl) (by simp only [go_sem, seval, aj_, ao_, ax_, ap_, an_, am_, ai_]) (fun h8 => ?_) (fun h8 => ?_)
 ·refine .rgn [br_ [0] [] (re_ b ((b7_ b p).2 + 1) [0, 4, 1, 2, 3] (by decide) hb (by omega) (by omega))] (by simp only [go_sem, seval, aj_, ao_, ax_, ap_, an_, am_, ai_]; rfl) ?_ ?_
  ·first | trivial | simp
  refine .seq (.rgn [] (by simp only [go_sem, seval, aj_, ao_, ax_, ap_, an_, am_, ai_]; rfl) ?_ ?_)
  ·first | trivial | simp
  refine .ret ⟨.inr rfl, ?_⟩
  exact Out.mem' (by simp only [Tryz.results184]; rfl) (by simp only [av_, a5_, go_sem, seval, aj_, ao_, ax_, ap_, an_, am_, ai_]) (by simp only [a2_, rns, rn, go_sem, seval, aj_, ao_, ax_, ap_, an_, am_, ai_] <;> (simp at h8; simp [dl5, ip_, h8])) (by simp) rfl (by decide) (by simp only [go_sem, seval, aj_, ao_, ax_, ap_, an_, am_, ai_]) (by simp only [ao_, go_sem, seval, aj_, ao_, ax_, ap_, an_, am_, ai_]) (by simp only [aj_, go_sem, seval, aj_, ao_, ax_, ap_, an_, am_, ai_] <;> (simp at h8; simp [dl5, ip_, h8]))
 ·refine .seq (.rgn [] (by simp only [go_sem, seval, aj_, ao_, ax_, ap_, an_, am_, ai_]; rfl) ?_ ?_)
  ·first | trivial | simp
  refine .condB (by simp only [go_sem, seval, aj_, ao_, ax_, ap_, an_, am_, ai_]; rfl) (by simp only [go_sem, seval, aj_, ao_, ax_, ap_, an_, am_, ai_]) (fun h14 => ?_) (fun h14 => ?_)
  ·refine .rgn [br_ [0] [] (qb_ b ((b7_ b p).2 + 1) [[120], [108, 101, 116], [88], []] (by decide) hb (by omega) (by omega))] (by simp only [go_sem, seval, aj_, ao_, ax_, ap_, an_, am_, ai_]; rfl) ?_ ?_
   ·first | trivial | simp
   refine .seq (.rgn [] (by simp only [go_sem, seval, aj_, ao_, ax_, ap_, an_, am_, ai_]; rfl) ?_ ?_)
   ·first | trivial | simp
   refine .ret ⟨.inr rfl, ?_⟩
   exact Out.mem' (by simp only [Tryz.results184]; rfl) (by simp only [av_, a5_, go_sem, seval, aj_, ao_, ax_, ap_, an_, am_, ai_]) (by simp only [a2_, rns, rn, go_sem, seval, aj_, ao_, ax_, ap_, an_, am_, ai_] <;> (simp at h8 h14; simp [dl5, ip_, h8, h14])) (by simp) rfl (by decide) (by simp only [go_sem, seval, aj_, ao_, ax_, ap_, an_, am_, ai_]) (by simp only [ao_, go_sem, seval, aj_, ao_, ax_, ap_, an_, am_, ai_]) (by simp only [aj_, go_sem, seval, aj_, ao_, ax_, ap_, an_, am_, ai_] <;> (simp at h8 h14; simp [dl5, ip_, h8, h14]))
  ·refine .seq (.rgn [] (by simp only [go_sem, seval, aj_, ao_, ax_, ap_, an_, am_, ai_]; rfl) ?_ ?_)
   ·first | trivial | simp
   refine .condB (by simp only [go_sem, seval, aj_, ao_, ax_, ap_, an_, am_, ai_]; rfl) (by simp only [go_sem, seval, aj_, ao_, ax_, ap_, an_, am_, ai_]) (fun h20 => ?_) (fun h20 => ?_)
   ·refine .rgn [br_ [0] [] (qb_ b ((b7_ b p).2 + 1) [[105, 110, 116], [116, 101, 120, 116], []] (by decide) hb (by omega) (by omega))] (by simp only [go_sem, seval, aj_, ao_, ax_, ap_, an_, am_, ai_]; rfl) ?_ ?_
    ·first | trivial | simp
    refine .seq (.rgn [] (by simp only [go_sem, seval, aj_, ao_, ax_, ap_, an_, am_, ai_]; rfl) ?_ ?_)
    ·first | trivial | simp
    refine .ret ⟨.inr rfl, ?_⟩
    exact Out.mem' (by simp only [Tryz.results184]; rfl) (by simp only [av_, a5_, go_sem, seval, aj_, ao_, ax_, ap_, an_, am_, ai_]) (by simp only [a2_, rns, rn, go_sem, seval, aj_, ao_, ax_, ap_, an_, am_, ai_] <;> (simp at h8 h14 h20; simp [dl5, ip_, h8, h14, h20])) (by simp) rfl (by decide) (by simp only [go_sem, seval, aj_, ao_, ax_, ap_, an_, am_, ai_]) (by simp only [ao_, go_sem, seval, aj_, ao_, ax_, ap_, an_, am_, ai_]) (by simp only [aj_, go_sem, seval, aj_, ao_, ax_, ap_, an_, am_, ai_] <;> (simp at h8 h14 h20; simp [dl5, ip_, h8, h14, h20]))
   ·refine .seq (.rgn [] (by simp only [go_sem, seval, aj_, ao_, ax_, ap_, an_, am_, ai_]; rfl) ?_ ?_)
    ·first | trivial | simp
    refine .condB (by simp only [go_sem, seval, aj_, ao_, ax_, ap_, an_, am_, ai_]; rfl) (by simp only [go_sem, seval, aj_, ao_, ax_, ap_, an_, am_, ai_]) (fun h26 => ?_) (fun h26 => ?_)
    ·refine .rgn [br_ [0] [] (adb_ b ((b7_ b p).2 + 1) hb (by omega) (by omega))] (by simp only [go_sem, seval, aj_, ao_, ax_, ap_, an_, am_, ai_]; rfl) ?_ ?_
     ·first | trivial | simp
     refine .seq (.rgn [] (by simp only [go_sem, seval, aj_, ao_, ax_, ap_, an_, am_, ai_]; rfl) ?_ ?_)
     ·first | trivial | simp
     refine .ret ⟨.inr rfl, ?_⟩
     exact Out.mem' (by simp only [Tryz.results184]; rfl) (by simp only [av_, a5_, go_sem, seval, aj_, ao_, ax_, ap_, an_, am_, ai_]) (by simp only [a2_, rns, rn, go_sem, seval, aj_, ao_, ax_, ap_, an_, am_, ai_] <;> (simp at h8 h14 h20 h26; simp [dl5, ip_, h8, h14, h20, h26])) (by simp) rfl (by decide) (by simp only [go_sem, seval, aj_, ao_, ax_, ap_, an_, am_, ai_]) (by simp only [ao_, go_sem, seval, aj_, ao_, ax_, ap_, an_, am_, ai_]) (by simp only [aj_, go_sem, seval, aj_, ao_, ax_, ap_, an_, am_, ai_] <;> (simp at h8 h14 h20 h26; simp [dl5, ip_, h8, h14, h20, h26]))
    ·refine .skip (.seq (.rgn [] (by simp only [go_sem, seval, aj_, ao_, ax_, ap_, an_, am_, ai_]; rfl) ?_ ?_))
     ·first | trivial | simp
     refine .ret ⟨.inr rfl, ?_⟩
     exact Out.mem' (by simp only [Tryz.results184]; rfl) (by simp only [av_, a5_, go_sem, seval, aj_, ao_, ax_, ap_, an_, am_, ai_]) (by simp only [a2_, rns, rn, go_sem, seval, aj_, ao_, ax_, ap_, an_, am_, ai_] <;> (simp at h8 h14 h20 h26; simp [dl5, ip_, h8, h14, h20, h26])) (by simp) rfl (by decide) (by simp only [go_sem, seval, aj_, ao_, ax_, ap_, an_, am_, ai_]) (by simp only [ao_, go_sem, seval, aj_, ao_, ax_, ap_, an_, am_, ai_]) (by simp only [aj_, go_sem, seval, aj_, ao_, ax_, ap_, an_, am_, ai_] <;> (simp at h8 h14 h20 h26; simp [dl5, ip_, h8, h14, h20, h26]))
end
end Go.Proofs.YtpikbndepapbhabGreatDoor
