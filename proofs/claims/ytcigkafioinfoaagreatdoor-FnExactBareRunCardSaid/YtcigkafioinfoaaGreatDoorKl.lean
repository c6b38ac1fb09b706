/- Lines with types: words, text, ok: the program's and the reference's; without types. Conditions: none. -/
import Derived.Test.YtcigkafioinfoaaGreatDoorKj
set_option linter.unusedVariables false
set_option linter.unusedSimpArgs false
namespace Go.Proofs.YtcigkafioinfoaaGreatDoor
section
set_option maxRecDepth 100000
set_option maxHeartbeats 4000000
def c5_ (s : Sl) : Wd :=
 if s.kind = 1 then (vh_, 100) :: (s.name, 101) :: (jv_, -1) :: (s.type, -1) :: (wEq, 102) :: src s.expr 0 0
 else if s.kind = 2 then (g5_, 103) :: src s.expr 0 0
 else if s.kind = 3 then ((g3_, 100) :: src s.expr 0 0 ++ [(g5_, 103)]) ++ src s.thn 0 (cnt s.expr)
 else []
theorem ef_ {s : Sl} (h : cs_ s = true) : (s.kind = 0 ∨ s.kind = 1 ∨ s.kind = 2 ∨ s.kind = 3) ∧ (s.kind = 1 ∨ s.kind = 2 ∨ s.kind = 3 → eok s.expr = true) ∧ (s.kind = 3 → eok s.thn = true) := by
 unfold cs_ at h
 by_cases k0 : s.kind = 0
 ·simp [k0]
 by_cases k1 : s.kind = 1
 ·simp [k1] at h; simp [k1]; exact h.1.2
 by_cases k2 : s.kind = 2
 ·simp [k2] at h; simp [k2]; exact h.1.2
 by_cases k3 : s.kind = 3
 ·simp [k3] at h; simp [k3]; exact ⟨h.1.2, h.2⟩
 ·simp [k0, k1, k2, k3] at h
theorem lb_ {s : Sl} (h : cs_ s = true) : (c5_ s).map (·.1) = sw' s := by
 obtain ⟨h0, h1, h2⟩ := ef_ h
 unfold c5_ sw'
 rcases h0 with k | k | k | k
 ·simp [k]
 ·simp [k, dz_, ff_ (b1_ (h1 (.inl k)))]
 ·simp [k, dz_, ff_ (b1_ (h1 (.inr (.inl k))))]
 ·simp [k, dz_, ff_ (b1_ (h1 (.inr (.inr k)))), ff_ (b1_ (h2 k))]
theorem qa_ (s : Sl) (h : cs_ s = true) (hs : f8_ s = true) : ACall En 152 [.ag (sC s)] [] [.sl false (wdR (c5_ s))] [] := by
 obtain ⟨h0, h1, h2⟩ := ef_ h
 obtain ⟨s1, s1', s2, s3⟩ := dm_ hs
 have W : s.kind = 1 ∨ s.kind = 2 ∨ s.kind = 3 → _ := fun hk => k4_ 5 s.expr 0 0 (b1_ (h1 hk)) s2 (e7_ (h1 hk)) (by decide) (by have := h9_ (h1 hk); omega) (by decide)
 have W3 : s.kind = 3 → _ := fun hk => k4_ 5 s.thn 0 (0 + cnt s.expr) (b1_ (h2 hk)) s3 (e7_ (h2 hk)) (by have := h9_ (h1 (.inr (.inr hk))); omega) (by have := h9_ (h1 (.inr (.inr hk))); have := h9_ (h2 hk); omega) (by decide)
 refine am_ (fn := Tryz.f152) [] Tryz.func152 rfl rfl (by simp) fun C => ?_
 rw [a2_]
 simp only [Tryz.ntmps152, T7_, List.length_nil, Nat.reduceAdd, Nat.reduceSub, List.replicate_succ, List.replicate_zero, List.cons_append, List.nil_append, bn_]
 refine .seq (.rgn [] (by simp only [go_sem, seval, af_, ad_, T2_, T1_, ag_]; rfl) ?_ ?_)
 ·(first | trivial | (simp; done) | (simp [b7_, List.forall_mem_append, bk_]; done))
 refine .seq (.rgn [] (by simp only [go_sem, seval, af_, ad_, T2_, T1_, ag_]; rfl) ?_ ?_)
 ·(first | trivial | (simp; done) | (simp [b7_, List.forall_mem_append, bk_]; done))
 refine .seq (.seq (.rgn [] (by simp only [go_sem, seval, af_, ad_, T2_, T1_, ag_]; rfl) ?_ ?_))
 ·(first | trivial | (simp; done) | (simp [b7_, List.forall_mem_append, bk_]; done))
 refine .block (.seq (.rgn [] (by simp only [go_sem, seval, af_, ad_, T2_, T1_, ag_]; rfl) ?_ ?_))
 ·(first | trivial | (simp; done) | (simp [b7_, List.forall_mem_append, bk_]; done))
 refine .condB (by simp only [go_sem, seval, af_, ad_, T2_, T1_, ag_]; rfl) (by simp only [go_sem, seval, af_, ad_, T2_, T1_, ag_]) (fun h7 => ?_) (fun h7 => ?_)
 ·refine .seq (.rgnD [c7_ [13] [31] (W (.inl (by simpa using h7)))] enM (by simp only [go_sem, seval, af_, ad_, T2_, T1_, ag_, bh_, bl_]; rfl) (by rfl) ?_ ?_)
  ·have q := h1 (.inl (by simpa using h7)); have q2 := (e6_ q 0 0); have q3 : src s.expr 0 0 ≠ [] := (fun e => by have := (cg_ q 0).1; rw [← gw_ s.expr 0 0, e] at this; simp at this); simp [b7_, bk_, q3, dw_]; omega
  refine .frz 32 (by simp only [go_sem, seval, af_, ad_, T2_, T1_, ag_]; rfl) (by simp only [go_sem, seval, af_, ad_, T2_, T1_, ag_]) (by simp only [go_sem, seval, af_, ad_, T2_, T1_, ag_]; rfl) (by simp only [go_sem, seval, af_, ad_, T2_, T1_, ag_]; rfl) ?_
  refine .ret ⟨.inr rfl, ?_⟩
  exact Out.plain (by simp only [Tryz.results152]; rfl) (by simp only [ax_, bj_, go_sem, seval, af_, ad_, T2_, T1_, ag_] <;> (split <;> rfl)) (by simp only [bi_, go_sem, seval, af_, ad_, T2_, T1_, ag_] <;> (have k : s.kind = 1 := (by simpa using h7); rw [if_pos (by omega), T1_ (by simp [af_]; omega)]; simp [c5_, k, wdR, peel, wEq, vh_, jv_])) (by simp only [go_sem, seval, af_, ad_, T2_, T1_, ag_])
 ·refine .seq (.rgn [] (by simp only [go_sem, seval, af_, ad_, T2_, T1_, ag_]; rfl) ?_ ?_)
  ·(first | trivial | (simp; done) | (simp [b7_, List.forall_mem_append, bk_]; done))
  refine .condB (by simp only [go_sem, seval, af_, ad_, T2_, T1_, ag_]; rfl) (by simp only [go_sem, seval, af_, ad_, T2_, T1_, ag_]) (fun h23 => ?_) (fun h23 => ?_)
  ·refine .seq (.rgn [c7_ [13] [39] (W (.inr (.inl (by simpa using h23))))] (by simp only [go_sem, seval, af_, ad_, T2_, T1_, ag_, bh_, bl_]; rfl) ?_ ?_)
   ·have q := h1 (.inr (.inl (by simpa using h23))); have q2 := (e6_ q 0 0); have q3 : src s.expr 0 0 ≠ [] := (fun e => by have := (cg_ q 0).1; rw [← gw_ s.expr 0 0, e] at this; simp at this); simp [b7_, bk_, q3, dw_]; omega
   refine .frz 40 (by simp only [go_sem, seval, af_, ad_, T2_, T1_, ag_]; rfl) (by simp only [go_sem, seval, af_, ad_, T2_, T1_, ag_]) (by simp only [go_sem, seval, af_, ad_, T2_, T1_, ag_]; rfl) (by simp only [go_sem, seval, af_, ad_, T2_, T1_, ag_]; rfl) ?_
   refine .ret ⟨.inr rfl, ?_⟩
   exact Out.plain (by simp only [Tryz.results152]; rfl) (by simp only [ax_, bj_, go_sem, seval, af_, ad_, T2_, T1_, ag_] <;> (split <;> rfl)) (by simp only [bi_, go_sem, seval, af_, ad_, T2_, T1_, ag_] <;> (have k : s.kind = 2 := (by simpa using h23); rw [if_pos (by omega), T1_ (by simp [af_]; omega)]; simp [c5_, k, wdR, peel, g5_])) (by simp only [go_sem, seval, af_, ad_, T2_, T1_, ag_])
  ·refine .seq (.rgn [] (by simp only [go_sem, seval, af_, ad_, T2_, T1_, ag_]; rfl) ?_ ?_)
   ·(first | trivial | (simp; done) | (simp [b7_, List.forall_mem_append, bk_]; done))
   refine .condB (by simp only [go_sem, seval, af_, ad_, T2_, T1_, ag_]; rfl) (by simp only [go_sem, seval, af_, ad_, T2_, T1_, ag_]) (fun h31 => ?_) (fun h31 => ?_)
   ·refine .seq (.rgn [c7_ [13] [47] (W (.inr (.inr (by simpa using h31))))] (by simp only [go_sem, seval, af_, ad_, T2_, T1_, ag_, bh_, bl_]; rfl) ?_ ?_)
    ·have q := h1 (.inr (.inr (by simpa using h31))); have q2 := (e6_ q 0 0); have q3 : src s.expr 0 0 ≠ [] := (fun e => by have := (cg_ q 0).1; rw [← gw_ s.expr 0 0, e] at this; simp at this); simp [b7_, bk_, q3, dw_]; omega
    refine .seq (.rgn [] (by simp only [go_sem, seval, af_, ad_, T2_, T1_, ag_]; rfl) ?_ ?_)
    ·have q := h1 (.inr (.inr (by simpa using h31))); have q2 := (e6_ q 0 0); simp [b7_, bk_]; omega
    refine .seq (.rgn [c7_ [13] [56] (W3 (by simpa using h31))] (by simp only [go_sem, seval, af_, ad_, T2_, T1_, ag_, bh_, bl_]; rfl) ?_ ?_)
    ·have q := h1 (.inr (.inr (by simpa using h31))); have q2 := (e6_ q 0 0); have q4 := e6_ (h2 (by simpa using h31)) 0 (0 + cnt s.expr); simp at q4; simp [b7_, bk_]; omega
    refine .frz 57 (by simp only [go_sem, seval, af_, ad_, T2_, T1_, ag_]; rfl) (by simp only [go_sem, seval, af_, ad_, T2_, T1_, ag_]) (by simp only [go_sem, seval, af_, ad_, T2_, T1_, ag_]; rfl) (by simp only [go_sem, seval, af_, ad_, T2_, T1_, ag_]; rfl) ?_
    refine .ret ⟨.inr rfl, ?_⟩
    exact Out.plain (by simp only [Tryz.results152]; rfl) (by simp only [ax_, bj_, go_sem, seval, af_, ad_, T2_, T1_, ag_] <;> (split <;> rfl)) (by simp only [bi_, go_sem, seval, af_, ad_, T2_, T1_, ag_] <;> (have k : s.kind = 3 := (by simpa using h31); rw [if_pos (by omega), T1_ (by simp [af_]; omega)]; simp [c5_, k, wdR, peel, g5_, g3_])) (by simp only [go_sem, seval, af_, ad_, T2_, T1_, ag_])
   ·refine .skip (.seq (.rgn [] (by simp only [go_sem, seval, af_, ad_, T2_, T1_, ag_]; rfl) ?_ ?_))
    ·(first | trivial | (simp; done) | (simp [b7_, List.forall_mem_append, bk_]; done))
    refine .can (Can.slotLe 2 (.sl false []) (by simp only [go_sem, seval, af_, ad_, T2_, T1_, ag_] <;> trivial) (by simp only [go_sem, seval, af_, ad_, T2_, T1_, ag_] <;> rfl)) ?_
    refine .ret ⟨.inr rfl, ?_⟩
    exact Out.plain (by simp only [Tryz.results152]; rfl) (by simp only [ax_, bj_, go_sem, seval, af_, ad_, T2_, T1_, ag_] <;> (split <;> rfl)) (by simp only [bi_, go_sem, seval, af_, ad_, T2_, T1_, ag_] <;> (have k : s.kind = 0 := (by simp_all); simp [c5_, k, wdR])) (by simp only [go_sem, seval, af_, ad_, T2_, T1_, ag_])
theorem ow_ {s : Sl} (h : cs_ s = true) : (ce_ (sw' s)).length ≤ 1000 := by
 have := mi_ h
 have h2 := ma_ (fun s hs => (this.2 s hs).2)
 omega
theorem ud_ (s : Sl) (h : cs_ s = true) (hs : f8_ s = true) : ACall En 138 [.ag (sC s)] [] [.s (ce_ (sw' s))] [] := by
 have h1 := ow_ h
 have h2 := (mi_ h).1
 have h3 := lb_ h
 have h4 : (c5_ s).length = (sw' s).length := by rw [← h3, List.length_map]
 refine am_ (fn := Tryz.f138) [] Tryz.func138 rfl rfl (by simp) fun C => ?_
 rw [a2_]
 simp only [Tryz.ntmps138, T7_, List.length_nil, Nat.reduceAdd, Nat.reduceSub, List.replicate_succ, List.replicate_zero, List.cons_append, List.nil_append, bn_]
 refine .seq (.rgn [] (by simp only [go_sem, seval, ag_, ad_, h3]; rfl) ?_ ?_)
 ·simp
 refine .seq (.rgn [ba_ (qa_ s h hs), ba_ (kp_ (c5_ s) (by omega)), ba_ (i4_ (sw' s) (by omega) (by omega))] (by simp only [go_sem, seval, ag_, ad_, h3]; rfl) ?_ ?_)
 ·simp
 refine .ret ⟨.inr rfl, ?_⟩
 exact Out.plain (by simp only [Tryz.results138]; rfl) (by simp only [ax_, bj_, go_sem, seval, ag_, ad_, h3] <;> (split <;> rfl)) (by simp only [bi_, go_sem, seval, ag_, ad_, h3] <;> (rfl)) (by simp only [go_sem, seval, ag_, ad_, h3])
theorem un_ (s : Sl) (hs : f8_ s = true) : ACall En 75 [.ag (sC s)] [] [.b (sok s)] [] := by
 obtain ⟨s1, s1', s2, s3⟩ := dm_ hs
 refine am_ (fn := Tryz.f75) [] Tryz.func75 rfl rfl (by simp) fun C => ?_
 rw [a2_]
 simp only [Tryz.ntmps75, T7_, List.length_nil, Nat.reduceAdd, Nat.reduceSub, List.replicate_succ, List.replicate_zero, List.cons_append, List.nil_append, bn_]
 refine .seq (.rgn [] (by simp only [go_sem, seval, ag_]; rfl) ?_ ?_)
 ·(first | trivial | (simp; done) | exact hJ.symm)
 refine .seq (.rgn [] (by simp only [go_sem, seval, ag_]; rfl) ?_ ?_)
 ·(first | trivial | (simp; done) | exact hJ.symm)
 refine .seqJ (fun q : Bool => ⟨[.no, .pt 11 11 0 0, .no, .b q, .no, .no, .no, .no, .no, .no, .no, .no, .no, .no, .no, .no, .no, .no, .no, .no, .no, .no, .no, .no, .no, .no, .no, .no, .no, .no, .no, .no, .no, .no, .no, .no, .no, .no, .no, .no, .no, .no, .no, .no, .no, .no, .no, .no, .no, .no, .no, .no, .no, .no, .no, .no, .no, .no, .no, .no, .no, .no, .no, .no, .no, .no, .no, .no, .no, .no, .no, .no, .no, .no, .no, .no, .no, .no, .no, .no, .no, .no, .no, .no, .no, .no, .no, .no, .no, .no, .no, .no, .no], be_ [(11, ⟨35, 11, [sC s]⟩)], us [11]⟩) (fun q : Bool => q = cs_ s) ?_ (fun q hJ => ?_)
 ·refine .seq (.rgn [] (by simp only [go_sem, seval, ag_]; rfl) ?_ ?_)
  ·(first | trivial | (simp; done) | exact hJ.symm)
  refine .block (.seq (.rgn [] (by simp only [go_sem, seval, ag_]; rfl) ?_ ?_))
  ·(first | trivial | (simp; done) | exact hJ.symm)
  refine .condB (by simp only [go_sem, seval, ag_]; rfl) (by simp only [go_sem, seval, ag_]) (fun h6 => ?_) (fun h6 => ?_)
  ·refine .rgn [ba_ (d3_ s.expr s2), ba_ (d3_ s.thn s3)] (by simp only [go_sem, seval, ag_]; rfl) ?_ ?_
   ·(first | trivial | (simp; done) | exact hJ.symm)
   refine Exists.intro (cs_ s) ⟨?_, ?_⟩
   ·rfl
   exact Can.weak (Weak.lit (by simp only [go_sem, seval, ag_, at_, leV, as_, ar_, V.inn, us, T9_, Ta_] <;> ((unfold cs_; simp_all))) (by simp only [go_sem, seval, ag_, at_, leV, as_, ar_, V.inn, us, T9_, Ta_]) (by simp only [go_sem, seval, ag_, at_, leV, as_, ar_, V.inn, us, T9_, Ta_]))
  ·refine .seq (.rgn [] (by simp only [go_sem, seval, ag_]; rfl) ?_ ?_)
   ·(first | trivial | (simp; done) | exact hJ.symm)
   refine .condB (by simp only [go_sem, seval, ag_]; rfl) (by simp only [go_sem, seval, ag_]) (fun h26 => ?_) (fun h26 => ?_)
   ·refine .rgn [ba_ (lz_ s.name s1), ba_ (qi_ s.type), ba_ (gt_ s.expr s2), ba_ (d3_ s.thn s3)] (by simp only [go_sem, seval, ag_]; rfl) ?_ ?_
    ·(first | trivial | (simp; done) | exact hJ.symm)
    refine Exists.intro (cs_ s) ⟨?_, ?_⟩
    ·rfl
    exact Can.weak (Weak.lit (by simp only [go_sem, seval, ag_, at_, leV, as_, ar_, V.inn, us, T9_, Ta_] <;> ((unfold cs_; simp_all))) (by simp only [go_sem, seval, ag_, at_, leV, as_, ar_, V.inn, us, T9_, Ta_]) (by simp only [go_sem, seval, ag_, at_, leV, as_, ar_, V.inn, us, T9_, Ta_]))
   ·refine .seq (.rgn [] (by simp only [go_sem, seval, ag_]; rfl) ?_ ?_)
    ·(first | trivial | (simp; done) | exact hJ.symm)
    refine .condB (by simp only [go_sem, seval, ag_]; rfl) (by simp only [go_sem, seval, ag_]) (fun h46 => ?_) (fun h46 => ?_)
    ·refine .rgn [ba_ (gt_ s.expr s2), ba_ (d3_ s.thn s3)] (by simp only [go_sem, seval, ag_]; rfl) ?_ ?_
     ·(first | trivial | (simp; done) | exact hJ.symm)
     refine Exists.intro (cs_ s) ⟨?_, ?_⟩
     ·rfl
     exact Can.weak (Weak.lit (by simp only [go_sem, seval, ag_, at_, leV, as_, ar_, V.inn, us, T9_, Ta_] <;> ((unfold cs_; simp_all))) (by simp only [go_sem, seval, ag_, at_, leV, as_, ar_, V.inn, us, T9_, Ta_]) (by simp only [go_sem, seval, ag_, at_, leV, as_, ar_, V.inn, us, T9_, Ta_]))
    ·refine .seq (.rgn [] (by simp only [go_sem, seval, ag_]; rfl) ?_ ?_)
     ·(first | trivial | (simp; done) | exact hJ.symm)
     refine .condB (by simp only [go_sem, seval, ag_]; rfl) (by simp only [go_sem, seval, ag_]) (fun h66 => ?_) (fun h66 => ?_)
     ·refine .rgn [ba_ (gt_ s.expr s2), ba_ (gt_ s.thn s3)] (by simp only [go_sem, seval, ag_]; rfl) ?_ ?_
      ·(first | trivial | (simp; done) | exact hJ.symm)
      refine Exists.intro (cs_ s) ⟨?_, ?_⟩
      ·rfl
      exact Can.weak (Weak.lit (by simp only [go_sem, seval, ag_, at_, leV, as_, ar_, V.inn, us, T9_, Ta_] <;> ((unfold cs_; simp_all))) (by simp only [go_sem, seval, ag_, at_, leV, as_, ar_, V.inn, us, T9_, Ta_]) (by simp only [go_sem, seval, ag_, at_, leV, as_, ar_, V.inn, us, T9_, Ta_]))
     ·refine .skip ?_
      refine Exists.intro (cs_ s) ⟨?_, ?_⟩
      ·rfl
      exact Can.weak (Weak.lit (by simp only [go_sem, seval, ag_, at_, leV, as_, ar_, V.inn, us, T9_, Ta_] <;> ((unfold cs_; simp_all))) (by simp only [go_sem, seval, ag_, at_, leV, as_, ar_, V.inn, us, T9_, Ta_]) (by simp only [go_sem, seval, ag_, at_, leV, as_, ar_, V.inn, us, T9_, Ta_]))
 cases q
 ·refine .seq (.rgn [c9_ (cs_ s = true) (fun h => ud_ s h hs)] (by simp only [go_sem, seval, ag_]; rfl) ?_ ?_)
  ·(first | trivial | (simp; done) | exact hJ.symm)
  refine .ret ⟨.inr rfl, ?_⟩
  exact Out.plain (by simp only [Tryz.results75]; rfl) (by simp only [ax_, bj_, go_sem, seval, ag_] <;> (split <;> rfl)) (by simp only [bi_, go_sem, seval, ag_] <;> (rw [sok, ← hJ]; first | rfl | (rw [Bool.true_and, dv_]; rfl))) (by simp only [go_sem, seval, ag_])
 ·refine .seq (.rgn [c9_ (cs_ s = true) (fun h => ud_ s h hs)] (by simp only [go_sem, seval, ag_]; rfl) ?_ ?_)
  ·(first | trivial | (simp; done) | exact hJ.symm)
  refine .ret ⟨.inr rfl, ?_⟩
  exact Out.plain (by simp only [Tryz.results75]; rfl) (by simp only [ax_, bj_, go_sem, seval, ag_] <;> (split <;> rfl)) (by simp only [bi_, go_sem, seval, ag_] <;> (rw [sok, ← hJ]; first | rfl | (rw [Bool.true_and, dv_]; rfl))) (by simp only [go_sem, seval, ag_])
theorem dx_ {s : Sl} (h : sok s = true) : cs_ s = true := by simp only [sok, T5_] at h; exact h.1
theorem j0_ (s : Sl) (h : cs_ s = true) (hs : f8_ s = true) : ACall En 84 [.ag (sC s)] [] [.sl false (b8_ (sw' s))] [] := by
 obtain ⟨h0, h1, h2⟩ := ef_ h
 obtain ⟨s1, s1', s2, s3⟩ := dm_ hs
 have W : s.kind = 1 ∨ s.kind = 2 ∨ s.kind = 3 → _ := fun hk => fn_ 5 s.expr 1 (b1_ (h1 hk)) s2 (e7_ (h1 hk)) (by decide) (by decide)
 have W3 : s.kind = 3 → _ := fun hk => fn_ 5 s.thn 1 (b1_ (h2 hk)) s3 (e7_ (h2 hk)) (by decide) (by decide)
 refine am_ (fn := Tryz.f84) [] Tryz.func84 rfl rfl (by simp) fun C => ?_
 rw [a2_]
 simp only [Tryz.ntmps84, T7_, List.length_nil, Nat.reduceAdd, Nat.reduceSub, List.replicate_succ, List.replicate_zero, List.cons_append, List.nil_append, bn_]
 refine .seq (.rgn [] (by simp only [go_sem, seval, ae_, ab_, T2_, T1_, ag_]; rfl) ?_ ?_)
 ·(first | trivial | (simp; done) | (simp [bx_]; done))
 refine .seq (.seq (.rgn [] (by simp only [go_sem, seval, ae_, ab_, T2_, T1_, ag_]; rfl) ?_ ?_))
 ·(first | trivial | (simp; done) | (simp [bx_]; done))
 refine .block (.seq (.rgn [] (by simp only [go_sem, seval, ae_, ab_, T2_, T1_, ag_]; rfl) ?_ ?_))
 ·(first | trivial | (simp; done) | (simp [bx_]; done))
 refine .condB (by simp only [go_sem, seval, ae_, ab_, T2_, T1_, ag_]; rfl) (by simp only [go_sem, seval, ae_, ab_, T2_, T1_, ag_]) (fun h6 => ?_) (fun h6 => ?_)
 ·refine .seq (.rgnD [ba_ (W (.inl (by simpa using h6)))] enM (by simp only [go_sem, seval, ae_, ab_, T2_, T1_, ag_]; rfl) (by rfl) ?_ ?_)
  ·have q := h1 (.inl (by simpa using h6)); have q2 := (cg_ q 1); have q3 := kg_ q 1; simp [b7_, bx_, q3, eh_]; omega
  refine .frz 26 (by simp only [go_sem, seval, ae_, ab_, T2_, T1_, ag_]; rfl) (by simp only [go_sem, seval, ae_, ab_, T2_, T1_, ag_]) (by simp only [go_sem, seval, ae_, ab_, T2_, T1_, ag_]; rfl) (by simp only [go_sem, seval, ae_, ab_, T2_, T1_, ag_]; rfl) ?_
  refine .ret ⟨.inr rfl, ?_⟩
  exact Out.plain (by simp only [Tryz.results84]; rfl) (by simp only [ax_, bj_, go_sem, seval, ae_, ab_, T2_, T1_, ag_] <;> (split <;> rfl)) (by simp only [bi_, go_sem, seval, ae_, ab_, T2_, T1_, ag_] <;> (have k : s.kind = 1 := (by simpa using h6); rw [if_pos (by omega), T1_ (by simp [ae_]; omega)]; simp [sw', k, b8_, peel, wEq, vh_, jv_])) (by simp only [go_sem, seval, ae_, ab_, T2_, T1_, ag_])
 ·refine .seq (.rgn [] (by simp only [go_sem, seval, ae_, ab_, T2_, T1_, ag_]; rfl) ?_ ?_)
  ·(first | trivial | (simp; done) | (simp [bx_]; done))
  refine .condB (by simp only [go_sem, seval, ae_, ab_, T2_, T1_, ag_]; rfl) (by simp only [go_sem, seval, ae_, ab_, T2_, T1_, ag_]) (fun h17 => ?_) (fun h17 => ?_)
  ·refine .seq (.rgn [ba_ (W (.inr (.inl (by simpa using h17))))] (by simp only [go_sem, seval, ae_, ab_, T2_, T1_, ag_]; rfl) ?_ ?_)
   ·have q := h1 (.inr (.inl (by simpa using h17))); have q2 := (cg_ q 1); have q3 := kg_ q 1; simp [b7_, bx_, q3, eh_]; omega
   refine .frz 33 (by simp only [go_sem, seval, ae_, ab_, T2_, T1_, ag_]; rfl) (by simp only [go_sem, seval, ae_, ab_, T2_, T1_, ag_]) (by simp only [go_sem, seval, ae_, ab_, T2_, T1_, ag_]; rfl) (by simp only [go_sem, seval, ae_, ab_, T2_, T1_, ag_]; rfl) ?_
   refine .ret ⟨.inr rfl, ?_⟩
   exact Out.plain (by simp only [Tryz.results84]; rfl) (by simp only [ax_, bj_, go_sem, seval, ae_, ab_, T2_, T1_, ag_] <;> (split <;> rfl)) (by simp only [bi_, go_sem, seval, ae_, ab_, T2_, T1_, ag_] <;> (have k : s.kind = 2 := (by simpa using h17); rw [if_pos (by omega), T1_ (by simp [ae_]; omega)]; simp [sw', k, b8_, peel, g5_])) (by simp only [go_sem, seval, ae_, ab_, T2_, T1_, ag_])
  ·refine .seq (.rgn [] (by simp only [go_sem, seval, ae_, ab_, T2_, T1_, ag_]; rfl) ?_ ?_)
   ·(first | trivial | (simp; done) | (simp [bx_]; done))
   refine .condB (by simp only [go_sem, seval, ae_, ab_, T2_, T1_, ag_]; rfl) (by simp only [go_sem, seval, ae_, ab_, T2_, T1_, ag_]) (fun h24 => ?_) (fun h24 => ?_)
   ·refine .seq (.rgn [ba_ (W (.inr (.inr (by simpa using h24))))] (by simp only [go_sem, seval, ae_, ab_, T2_, T1_, ag_]; rfl) ?_ ?_)
    ·have q := h1 (.inr (.inr (by simpa using h24))); have q2 := (cg_ q 1); have q3 := kg_ q 1; simp [b7_, bx_, q3, eh_]; omega
    refine .seq (.rgnD [ba_ (W3 (by simpa using h24))] enM (by simp only [go_sem, seval, ae_, ab_, T2_, T1_, ag_]; rfl) (by rfl) ?_ ?_)
    ·have q := h1 (.inr (.inr (by simpa using h24))); have q2 := (cg_ q 1); have q4 := cg_ (h2 (by simpa using h24)) 1; simp [b7_, bx_]; omega
    refine .frz 47 (by simp only [go_sem, seval, ae_, ab_, T2_, T1_, ag_]; rfl) (by simp only [go_sem, seval, ae_, ab_, T2_, T1_, ag_]) (by simp only [go_sem, seval, ae_, ab_, T2_, T1_, ag_]; rfl) (by simp only [go_sem, seval, ae_, ab_, T2_, T1_, ag_]; rfl) ?_
    refine .ret ⟨.inr rfl, ?_⟩
    exact Out.plain (by simp only [Tryz.results84]; rfl) (by simp only [ax_, bj_, go_sem, seval, ae_, ab_, T2_, T1_, ag_] <;> (split <;> rfl)) (by simp only [bi_, go_sem, seval, ae_, ab_, T2_, T1_, ag_] <;> (have k : s.kind = 3 := (by simpa using h24); rw [if_pos (by omega), T1_ (by simp [ae_]; omega)]; simp [sw', k, b8_, peel, g5_, g3_])) (by simp only [go_sem, seval, ae_, ab_, T2_, T1_, ag_])
   ·refine .skip (.seq (.rgn [] (by simp only [go_sem, seval, ae_, ab_, T2_, T1_, ag_]; rfl) ?_ ?_))
    ·(first | trivial | (simp; done) | (simp [bx_]; done))
    refine .can (Can.slotLe 2 (.sl false []) (by simp only [go_sem, seval, ae_, ab_, T2_, T1_, ag_] <;> trivial) (by simp only [go_sem, seval, ae_, ab_, T2_, T1_, ag_] <;> rfl)) ?_
    refine .ret ⟨.inr rfl, ?_⟩
    exact Out.plain (by simp only [Tryz.results84]; rfl) (by simp only [ax_, bj_, go_sem, seval, ae_, ab_, T2_, T1_, ag_] <;> (split <;> rfl)) (by simp only [bi_, go_sem, seval, ae_, ab_, T2_, T1_, ag_] <;> (have k : s.kind = 0 := (by simp_all); simp [sw', k, b8_])) (by simp only [go_sem, seval, ae_, ab_, T2_, T1_, ag_])
theorem vt_ (s : Sl) (hs : f8_ s = true) : ACall En 81 [.ag (sC s)] [] [.b (sok s)] [] := by
 obtain ⟨s1, s1', s2, s3⟩ := dm_ hs
 refine am_ (fn := Tryz.f81) [] Tryz.func81 rfl rfl (by simp) fun C => ?_
 rw [a2_]
 simp only [Tryz.ntmps81, T7_, List.length_nil, Nat.reduceAdd, Nat.reduceSub, List.replicate_succ, List.replicate_zero, List.cons_append, List.nil_append, bn_]
 refine .seq (.rgn [] (by simp only [go_sem, seval, ag_, ab_]; rfl) ?_ ?_)
 ·(first | trivial | (simp; done) | exact hJ.symm | exact ⟨hJ.symm, hJ.symm⟩)
 refine .seq (.rgn [] (by simp only [go_sem, seval, ag_, ab_]; rfl) ?_ ?_)
 ·(first | trivial | (simp; done) | exact hJ.symm | exact ⟨hJ.symm, hJ.symm⟩)
 refine .seqJ (fun q : Bool => ⟨[.no, .pt 11 11 0 0, .no, .b q, .no, .no, .no, .no, .no, .no, .no, .no, .no, .no, .no, .no, .no, .no, .no, .no, .no, .no, .no, .no, .no, .no, .no, .no, .no, .no, .no, .no, .no, .no, .no, .no, .no, .no, .no, .no, .no, .no, .no, .no, .no, .no, .no, .no, .no, .no, .no, .no, .no, .no, .no, .no, .no, .no, .no, .no, .no, .no, .no, .no, .no, .no, .no, .no, .no, .no, .no, .no, .no, .no, .no, .no, .no, .no, .no, .no, .no, .no, .no, .no, .no, .no, .no, .no, .no, .no, .no, .no, .no, .no], be_ [(11, ⟨35, 11, [sC s]⟩)], us [11]⟩) (fun q : Bool => q = cs_ s) ?_ (fun q hJ => ?_)
 ·refine .seq (.rgn [] (by simp only [go_sem, seval, ag_, ab_]; rfl) ?_ ?_)
  ·(first | trivial | (simp; done) | exact hJ.symm | exact ⟨hJ.symm, hJ.symm⟩)
  refine .block (.seq (.rgn [] (by simp only [go_sem, seval, ag_, ab_]; rfl) ?_ ?_))
  ·(first | trivial | (simp; done) | exact hJ.symm | exact ⟨hJ.symm, hJ.symm⟩)
  refine .condB (by simp only [go_sem, seval, ag_, ab_]; rfl) (by simp only [go_sem, seval, ag_, ab_]) (fun h6 => ?_) (fun h6 => ?_)
  ·refine .rgn [ba_ (e0_ s.expr s2), ba_ (e0_ s.thn s3)] (by simp only [go_sem, seval, ag_, ab_]; rfl) ?_ ?_
   ·(first | trivial | (simp; done) | exact hJ.symm | exact ⟨hJ.symm, hJ.symm⟩)
   refine Exists.intro (cs_ s) ⟨?_, ?_⟩
   ·rfl
   exact Can.weak (Weak.lit (by simp only [go_sem, seval, ag_, ab_, at_, leV, as_, ar_, V.inn, us, T9_, Ta_] <;> ((unfold cs_; simp_all))) (by simp only [go_sem, seval, ag_, ab_, at_, leV, as_, ar_, V.inn, us, T9_, Ta_]) (by simp only [go_sem, seval, ag_, ab_, at_, leV, as_, ar_, V.inn, us, T9_, Ta_]))
  ·refine .seq (.rgn [] (by simp only [go_sem, seval, ag_, ab_]; rfl) ?_ ?_)
   ·(first | trivial | (simp; done) | exact hJ.symm | exact ⟨hJ.symm, hJ.symm⟩)
   refine .condB (by simp only [go_sem, seval, ag_, ab_]; rfl) (by simp only [go_sem, seval, ag_, ab_]) (fun h26 => ?_) (fun h26 => ?_)
   ·refine .rgn [ba_ (l4_ s.name s1), ba_ (mc_ s.type), ba_ (gf_ s.expr s2), ba_ (e0_ s.thn s3)] (by simp only [go_sem, seval, ag_, ab_]; rfl) ?_ ?_
    ·(first | trivial | (simp; done) | exact hJ.symm | exact ⟨hJ.symm, hJ.symm⟩)
    refine Exists.intro (cs_ s) ⟨?_, ?_⟩
    ·rfl
    exact Can.weak (Weak.lit (by simp only [go_sem, seval, ag_, ab_, at_, leV, as_, ar_, V.inn, us, T9_, Ta_] <;> ((unfold cs_; simp_all))) (by simp only [go_sem, seval, ag_, ab_, at_, leV, as_, ar_, V.inn, us, T9_, Ta_]) (by simp only [go_sem, seval, ag_, ab_, at_, leV, as_, ar_, V.inn, us, T9_, Ta_]))
   ·refine .seq (.rgn [] (by simp only [go_sem, seval, ag_, ab_]; rfl) ?_ ?_)
    ·(first | trivial | (simp; done) | exact hJ.symm | exact ⟨hJ.symm, hJ.symm⟩)
    refine .condB (by simp only [go_sem, seval, ag_, ab_]; rfl) (by simp only [go_sem, seval, ag_, ab_]) (fun h46 => ?_) (fun h46 => ?_)
    ·refine .rgn [ba_ (gf_ s.expr s2), ba_ (e0_ s.thn s3)] (by simp only [go_sem, seval, ag_, ab_]; rfl) ?_ ?_
     ·(first | trivial | (simp; done) | exact hJ.symm | exact ⟨hJ.symm, hJ.symm⟩)
     refine Exists.intro (cs_ s) ⟨?_, ?_⟩
     ·rfl
     exact Can.weak (Weak.lit (by simp only [go_sem, seval, ag_, ab_, at_, leV, as_, ar_, V.inn, us, T9_, Ta_] <;> ((unfold cs_; simp_all))) (by simp only [go_sem, seval, ag_, ab_, at_, leV, as_, ar_, V.inn, us, T9_, Ta_]) (by simp only [go_sem, seval, ag_, ab_, at_, leV, as_, ar_, V.inn, us, T9_, Ta_]))
    ·refine .seq (.rgn [] (by simp only [go_sem, seval, ag_, ab_]; rfl) ?_ ?_)
     ·(first | trivial | (simp; done) | exact hJ.symm | exact ⟨hJ.symm, hJ.symm⟩)
     refine .condB (by simp only [go_sem, seval, ag_, ab_]; rfl) (by simp only [go_sem, seval, ag_, ab_]) (fun h66 => ?_) (fun h66 => ?_)
     ·refine .rgn [ba_ (gf_ s.expr s2), ba_ (gf_ s.thn s3)] (by simp only [go_sem, seval, ag_, ab_]; rfl) ?_ ?_
      ·(first | trivial | (simp; done) | exact hJ.symm | exact ⟨hJ.symm, hJ.symm⟩)
      refine Exists.intro (cs_ s) ⟨?_, ?_⟩
      ·rfl
      exact Can.weak (Weak.lit (by simp only [go_sem, seval, ag_, ab_, at_, leV, as_, ar_, V.inn, us, T9_, Ta_] <;> ((unfold cs_; simp_all))) (by simp only [go_sem, seval, ag_, ab_, at_, leV, as_, ar_, V.inn, us, T9_, Ta_]) (by simp only [go_sem, seval, ag_, ab_, at_, leV, as_, ar_, V.inn, us, T9_, Ta_]))
     ·refine .skip ?_
      refine Exists.intro (cs_ s) ⟨?_, ?_⟩
      ·rfl
      exact Can.weak (Weak.lit (by simp only [go_sem, seval, ag_, ab_, at_, leV, as_, ar_, V.inn, us, T9_, Ta_] <;> ((unfold cs_; simp_all))) (by simp only [go_sem, seval, ag_, ab_, at_, leV, as_, ar_, V.inn, us, T9_, Ta_]) (by simp only [go_sem, seval, ag_, ab_, at_, leV, as_, ar_, V.inn, us, T9_, Ta_]))
 cases q
 ·refine .seq (.rgn [c9_ (cs_ s = true) (fun h => j0_ s h hs), c9_ (cs_ s = true) (fun h => fw_ (sw' s) (by have := (mi_ h).1; omega) (by have := ow_ h; omega))] (by simp only [go_sem, seval, ag_, ab_]; rfl) ?_ ?_)
  ·(first | trivial | (simp; done) | exact hJ.symm | exact ⟨hJ.symm, hJ.symm⟩)
  refine .ret ⟨.inr rfl, ?_⟩
  exact Out.plain (by simp only [Tryz.results81]; rfl) (by simp only [ax_, bj_, go_sem, seval, ag_, ab_] <;> (split <;> rfl)) (by simp only [bi_, go_sem, seval, ag_, ab_] <;> (rw [sok, ← hJ]; first | rfl | (rw [Bool.true_and, dv_]; rfl))) (by simp only [go_sem, seval, ag_, ab_])
 ·refine .seq (.rgn [c9_ (cs_ s = true) (fun h => j0_ s h hs), c9_ (cs_ s = true) (fun h => fw_ (sw' s) (by have := (mi_ h).1; omega) (by have := ow_ h; omega))] (by simp only [go_sem, seval, ag_, ab_]; rfl) ?_ ?_)
  ·(first | trivial | (simp; done) | exact hJ.symm | exact ⟨hJ.symm, hJ.symm⟩)
  refine .ret ⟨.inr rfl, ?_⟩
  exact Out.plain (by simp only [Tryz.results81]; rfl) (by simp only [ax_, bj_, go_sem, seval, ag_, ab_] <;> (split <;> rfl)) (by simp only [bi_, go_sem, seval, ag_, ab_] <;> (rw [sok, ← hJ]; first | rfl | (rw [Bool.true_and, dv_]; rfl))) (by simp only [go_sem, seval, ag_, ab_])
end
section
set_option maxRecDepth 100000
set_option maxHeartbeats 4000000
theorem tn_ {s : Sl} (h : cs_ s = true) : wf s.expr = true ∧ wf s.thn = true := by
 unfold cs_ at h
 by_cases k0 : s.kind = 0
 ·simp [k0, en_] at h; rw [h.1.2, h.2]; exact ⟨tg_, tg_⟩
 by_cases k1 : s.kind = 1
 ·simp [k1, en_] at h; rw [h.2]; exact ⟨hl_ h.1.2, tg_⟩
 by_cases k2 : s.kind = 2
 ·simp [k2, en_] at h; rw [h.2]; exact ⟨hl_ h.1.2, tg_⟩
 by_cases k3 : s.kind = 3
 ·simp [k3] at h; exact ⟨hl_ h.1.2, hl_ h.2⟩
 ·simp [k0, k1, k2, k3] at h
theorem wz_ (s : Sl) (hs : f8_ s = true) (w1 : wf s.expr = true) (w2 : wf s.thn = true) : ACall En 110 [.ag (sC s)] [] [.ag (bC (bof s))] [] := by
 obtain ⟨s1, s2, s3, s4⟩ := dm_ hs
 refine am_ (fn := Tryz.f110) [] Tryz.func110 rfl rfl (by simp) fun C => ?_
 rw [a2_]
 simp only [Tryz.ntmps110, T7_, List.length_nil, Nat.reduceAdd, Nat.reduceSub, List.replicate_succ, List.replicate_zero, List.cons_append, List.nil_append, bn_]
 refine .seq (.rgn [] (by simp only [go_sem, seval, ag_, ai_]; rfl) ?_ ?_)
 ·first | trivial | simp
 refine .seq (.rgn [] (by simp only [go_sem, seval, ag_, ai_]; rfl) ?_ ?_)
 ·first | trivial | simp
 refine .seq (.seq (.rgn [] (by simp only [go_sem, seval, ag_, ai_]; rfl) ?_ ?_))
 ·first | trivial | simp
 refine .condB (by simp only [go_sem, seval, ag_, ai_]; rfl) (by simp only [go_sem, seval, ag_, ai_]) (fun h11 => ?_) (fun h11 => ?_)
 ·refine .rgn [ba_ (ld_ s.expr w1 s3)] (by simp only [go_sem, seval, ag_, ai_]; rfl) ?_ ?_
  ·first | trivial | simp
  refine .seq (.seq (.rgn [] (by simp only [go_sem, seval, ag_, ai_]; rfl) ?_ ?_))
  ·first | trivial | simp
  refine .condB (by simp only [go_sem, seval, ag_, ai_]; rfl) (by simp only [go_sem, seval, ag_, ai_]) (fun h18 => ?_) (fun h18 => ?_)
  ·refine .rgn [ba_ (ld_ s.thn w2 s4)] (by simp only [go_sem, seval, ag_, ai_]; rfl) ?_ ?_
   ·first | trivial | simp
   refine .seq (.rgn [] (by simp only [go_sem, seval, ag_, ai_]; rfl) ?_ ?_)
   ·first | trivial | simp
   refine .ret ⟨.inr rfl, ?_⟩
   exact Out.plainL (by simp only [Tryz.results110]; rfl) (by simp only [ax_, bj_, go_sem, seval, ag_, ai_] <;> (split <;> rfl)) (by simp only [bi_, go_sem, seval, ag_, ai_] <;> (simp at h11 h18; simp [bof, h11, h18, ai_, E0_k, E0_n, E0_s, o0_, sl_, ler, al_])) (by simp only [go_sem, seval, ag_, ai_])
  ·refine .skip (.seq (.rgn [] (by simp only [go_sem, seval, ag_, ai_]; rfl) ?_ ?_))
   ·first | trivial | simp
   refine .ret ⟨.inr rfl, ?_⟩
   exact Out.plainL (by simp only [Tryz.results110]; rfl) (by simp only [ax_, bj_, go_sem, seval, ag_, ai_] <;> (split <;> rfl)) (by simp only [bi_, go_sem, seval, ag_, ai_] <;> (simp at h11 h18; simp [bof, h11, h18, ai_, E0_k, E0_n, E0_s, o0_, sl_, ler, al_])) (by simp only [go_sem, seval, ag_, ai_])
 ·refine .skip (.seq (.seq (.rgn [] (by simp only [go_sem, seval, ag_, ai_]; rfl) ?_ ?_)))
  ·first | trivial | simp
  refine .condB (by simp only [go_sem, seval, ag_, ai_]; rfl) (by simp only [go_sem, seval, ag_, ai_]) (fun h18 => ?_) (fun h18 => ?_)
  ·refine .rgn [ba_ (ld_ s.thn w2 s4)] (by simp only [go_sem, seval, ag_, ai_]; rfl) ?_ ?_
   ·first | trivial | simp
   refine .seq (.rgn [] (by simp only [go_sem, seval, ag_, ai_]; rfl) ?_ ?_)
   ·first | trivial | simp
   refine .ret ⟨.inr rfl, ?_⟩
   exact Out.plainL (by simp only [Tryz.results110]; rfl) (by simp only [ax_, bj_, go_sem, seval, ag_, ai_] <;> (split <;> rfl)) (by simp only [bi_, go_sem, seval, ag_, ai_] <;> (simp at h11 h18; omega)) (by simp only [go_sem, seval, ag_, ai_])
  ·refine .skip (.seq (.rgn [] (by simp only [go_sem, seval, ag_, ai_]; rfl) ?_ ?_))
   ·first | trivial | simp
   refine .ret ⟨.inr rfl, ?_⟩
   exact Out.plainL (by simp only [Tryz.results110]; rfl) (by simp only [ax_, bj_, go_sem, seval, ag_, ai_] <;> (split <;> rfl)) (by simp only [bi_, go_sem, seval, ag_, ai_] <;> (simp at h11 h18; simp [bof, h11, h18, ai_, E0_k, E0_n, E0_s, o0_, sl_, ler, al_])) (by simp only [go_sem, seval, ag_, ai_])
end
section
set_option maxRecDepth 100000
set_option maxHeartbeats 4000000
end
end Go.Proofs.YtcigkafioinfoaaGreatDoor
