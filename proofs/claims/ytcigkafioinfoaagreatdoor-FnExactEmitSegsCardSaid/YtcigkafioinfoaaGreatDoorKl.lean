/- Lines with types: words, text, ok: the program's and the reference's; without types. Conditions: none. -/
import Derived.Test.YtcigkafioinfoaaGreatDoorKj
set_option linter.unusedVariables false
set_option linter.unusedSimpArgs false
namespace Go.Proofs.YtcigkafioinfoaaGreatDoor
section
set_option maxRecDepth 100000
set_option maxHeartbeats 4000000
def d0_ (s : Sl) : Wd :=
 if s.kind = 1 then (vt_, 100) :: (s.name, 101) :: (j7_, -1) :: (s.type, -1) :: (wEq, 102) :: src s.expr 0 0
 else if s.kind = 2 then (h1_, 103) :: src s.expr 0 0
 else if s.kind = 3 then ((h5_, 100) :: src s.expr 0 0 ++ [(h1_, 103)]) ++ src s.thn 0 (cnt s.expr)
 else []
theorem fr_ {s : Sl} (h : c8_ s = true) : (s.kind = 0 ∨ s.kind = 1 ∨ s.kind = 2 ∨ s.kind = 3) ∧ (s.kind = 1 ∨ s.kind = 2 ∨ s.kind = 3 → eok s.expr = true) ∧ (s.kind = 3 → eok s.thn = true) := by
 unfold c8_ at h
 by_cases k0 : s.kind = 0
 ·simp [k0]
 by_cases k1 : s.kind = 1
 ·simp [k1] at h; simp [k1]; exact h.1.2
 by_cases k2 : s.kind = 2
 ·simp [k2] at h; simp [k2]; exact h.1.2
 by_cases k3 : s.kind = 3
 ·simp [k3] at h; simp [k3]; exact ⟨h.1.2, h.2⟩
 ·simp [k0, k1, k2, k3] at h
theorem mz_ {s : Sl} (h : c8_ s = true) : (d0_ s).map (·.1) = sw' s := by
 obtain ⟨h0, h1, h2⟩ := fr_ h
 unfold d0_ sw'
 rcases h0 with k | k | k | k
 ·simp [k]
 ·simp [k, e5_, go_ (ci_ (h1 (.inl k)))]
 ·simp [k, e5_, go_ (ci_ (h1 (.inr (.inl k))))]
 ·simp [k, e5_, go_ (ci_ (h1 (.inr (.inr k)))), go_ (ci_ (h2 k))]
theorem tj_ (s : Sl) (h : c8_ s = true) (hs : fg_ s = true) : ACall En 152 [.ag (sC s)] [] [.sl false (wdR (d0_ s))] [] := by
 obtain ⟨h0, h1, h2⟩ := fr_ h
 obtain ⟨s1, s1', s2, s3⟩ := d9_ hs
 have W : s.kind = 1 ∨ s.kind = 2 ∨ s.kind = 3 → _ := fun hk => nf_ 5 s.expr 0 0 (ci_ (h1 hk)) s2 (hn_ (h1 hk)) (by decide) (by have := jr_ (h1 hk); omega) (by decide)
 have W3 : s.kind = 3 → _ := fun hk => nf_ 5 s.thn 0 (0 + cnt s.expr) (ci_ (h2 hk)) s3 (hn_ (h2 hk)) (by have := jr_ (h1 (.inr (.inr hk))); omega) (by have := jr_ (h1 (.inr (.inr hk))); have := jr_ (h2 hk); omega) (by decide)
 refine an_ (fn := Tryz.f152) [] Tryz.func152 rfl rfl (by simp) fun C => ?_
 rw [bb_]
 simp only [Tryz.ntmps152, T7_, List.length_nil, Nat.reduceAdd, Nat.reduceSub, List.replicate_succ, List.replicate_zero, List.cons_append, List.nil_append, bu_]
 refine .seq (.rgn [] (by simp only [go_sem, seval, ad_, ab_, T2_, T1_, aa_]; rfl) ?_ ?_)
 ·(first | trivial | (simp; done) | (simp [cm_, List.forall_mem_append, bw_]; done))
 refine .seq (.rgn [] (by simp only [go_sem, seval, ad_, ab_, T2_, T1_, aa_]; rfl) ?_ ?_)
 ·(first | trivial | (simp; done) | (simp [cm_, List.forall_mem_append, bw_]; done))
 refine .seq (.seq (.rgn [] (by simp only [go_sem, seval, ad_, ab_, T2_, T1_, aa_]; rfl) ?_ ?_))
 ·(first | trivial | (simp; done) | (simp [cm_, List.forall_mem_append, bw_]; done))
 refine .block (.seq (.rgn [] (by simp only [go_sem, seval, ad_, ab_, T2_, T1_, aa_]; rfl) ?_ ?_))
 ·(first | trivial | (simp; done) | (simp [cm_, List.forall_mem_append, bw_]; done))
 refine .condB (by simp only [go_sem, seval, ad_, ab_, T2_, T1_, aa_]; rfl) (by simp only [go_sem, seval, ad_, ab_, T2_, T1_, aa_]) (fun h7 => ?_) (fun h7 => ?_)
 ·refine .seq (.rgnD [eg_ [13] [31] (W (.inl (by simpa using h7)))] enM (by simp only [go_sem, seval, ad_, ab_, T2_, T1_, aa_, bn_, bt_]; rfl) (by rfl) ?_ ?_)
  ·have q := h1 (.inl (by simpa using h7)); have q2 := (gg_ q 0 0); have q3 : src s.expr 0 0 ≠ [] := (fun e => by have := (c9_ q 0).1; rw [← if_ s.expr 0 0, e] at this; simp at this); simp [cm_, bw_, q3, e2_]; omega
  refine .frz 32 (by simp only [go_sem, seval, ad_, ab_, T2_, T1_, aa_]; rfl) (by simp only [go_sem, seval, ad_, ab_, T2_, T1_, aa_]) (by simp only [go_sem, seval, ad_, ab_, T2_, T1_, aa_]; rfl) (by simp only [go_sem, seval, ad_, ab_, T2_, T1_, aa_]; rfl) ?_
  refine .ret ⟨.inr rfl, ?_⟩
  exact Out.plain (by simp only [Tryz.results152]; rfl) (by simp only [ba_, bs_, go_sem, seval, ad_, ab_, T2_, T1_, aa_] <;> (split <;> rfl)) (by simp only [bq_, go_sem, seval, ad_, ab_, T2_, T1_, aa_] <;> (have k : s.kind = 1 := (by simpa using h7); rw [if_pos (by omega), T1_ (by simp [ad_]; omega)]; simp [d0_, k, wdR, peel, wEq, vt_, j7_])) (by simp only [go_sem, seval, ad_, ab_, T2_, T1_, aa_])
 ·refine .seq (.rgn [] (by simp only [go_sem, seval, ad_, ab_, T2_, T1_, aa_]; rfl) ?_ ?_)
  ·(first | trivial | (simp; done) | (simp [cm_, List.forall_mem_append, bw_]; done))
  refine .condB (by simp only [go_sem, seval, ad_, ab_, T2_, T1_, aa_]; rfl) (by simp only [go_sem, seval, ad_, ab_, T2_, T1_, aa_]) (fun h23 => ?_) (fun h23 => ?_)
  ·refine .seq (.rgn [eg_ [13] [39] (W (.inr (.inl (by simpa using h23))))] (by simp only [go_sem, seval, ad_, ab_, T2_, T1_, aa_, bn_, bt_]; rfl) ?_ ?_)
   ·have q := h1 (.inr (.inl (by simpa using h23))); have q2 := (gg_ q 0 0); have q3 : src s.expr 0 0 ≠ [] := (fun e => by have := (c9_ q 0).1; rw [← if_ s.expr 0 0, e] at this; simp at this); simp [cm_, bw_, q3, e2_]; omega
   refine .frz 40 (by simp only [go_sem, seval, ad_, ab_, T2_, T1_, aa_]; rfl) (by simp only [go_sem, seval, ad_, ab_, T2_, T1_, aa_]) (by simp only [go_sem, seval, ad_, ab_, T2_, T1_, aa_]; rfl) (by simp only [go_sem, seval, ad_, ab_, T2_, T1_, aa_]; rfl) ?_
   refine .ret ⟨.inr rfl, ?_⟩
   exact Out.plain (by simp only [Tryz.results152]; rfl) (by simp only [ba_, bs_, go_sem, seval, ad_, ab_, T2_, T1_, aa_] <;> (split <;> rfl)) (by simp only [bq_, go_sem, seval, ad_, ab_, T2_, T1_, aa_] <;> (have k : s.kind = 2 := (by simpa using h23); rw [if_pos (by omega), T1_ (by simp [ad_]; omega)]; simp [d0_, k, wdR, peel, h1_])) (by simp only [go_sem, seval, ad_, ab_, T2_, T1_, aa_])
  ·refine .seq (.rgn [] (by simp only [go_sem, seval, ad_, ab_, T2_, T1_, aa_]; rfl) ?_ ?_)
   ·(first | trivial | (simp; done) | (simp [cm_, List.forall_mem_append, bw_]; done))
   refine .condB (by simp only [go_sem, seval, ad_, ab_, T2_, T1_, aa_]; rfl) (by simp only [go_sem, seval, ad_, ab_, T2_, T1_, aa_]) (fun h31 => ?_) (fun h31 => ?_)
   ·refine .seq (.rgn [eg_ [13] [47] (W (.inr (.inr (by simpa using h31))))] (by simp only [go_sem, seval, ad_, ab_, T2_, T1_, aa_, bn_, bt_]; rfl) ?_ ?_)
    ·have q := h1 (.inr (.inr (by simpa using h31))); have q2 := (gg_ q 0 0); have q3 : src s.expr 0 0 ≠ [] := (fun e => by have := (c9_ q 0).1; rw [← if_ s.expr 0 0, e] at this; simp at this); simp [cm_, bw_, q3, e2_]; omega
    refine .seq (.rgn [] (by simp only [go_sem, seval, ad_, ab_, T2_, T1_, aa_]; rfl) ?_ ?_)
    ·have q := h1 (.inr (.inr (by simpa using h31))); have q2 := (gg_ q 0 0); simp [cm_, bw_]; omega
    refine .seq (.rgn [eg_ [13] [56] (W3 (by simpa using h31))] (by simp only [go_sem, seval, ad_, ab_, T2_, T1_, aa_, bn_, bt_]; rfl) ?_ ?_)
    ·have q := h1 (.inr (.inr (by simpa using h31))); have q2 := (gg_ q 0 0); have q4 := gg_ (h2 (by simpa using h31)) 0 (0 + cnt s.expr); simp at q4; simp [cm_, bw_]; omega
    refine .frz 57 (by simp only [go_sem, seval, ad_, ab_, T2_, T1_, aa_]; rfl) (by simp only [go_sem, seval, ad_, ab_, T2_, T1_, aa_]) (by simp only [go_sem, seval, ad_, ab_, T2_, T1_, aa_]; rfl) (by simp only [go_sem, seval, ad_, ab_, T2_, T1_, aa_]; rfl) ?_
    refine .ret ⟨.inr rfl, ?_⟩
    exact Out.plain (by simp only [Tryz.results152]; rfl) (by simp only [ba_, bs_, go_sem, seval, ad_, ab_, T2_, T1_, aa_] <;> (split <;> rfl)) (by simp only [bq_, go_sem, seval, ad_, ab_, T2_, T1_, aa_] <;> (have k : s.kind = 3 := (by simpa using h31); rw [if_pos (by omega), T1_ (by simp [ad_]; omega)]; simp [d0_, k, wdR, peel, h1_, h5_])) (by simp only [go_sem, seval, ad_, ab_, T2_, T1_, aa_])
   ·refine .skip (.seq (.rgn [] (by simp only [go_sem, seval, ad_, ab_, T2_, T1_, aa_]; rfl) ?_ ?_))
    ·(first | trivial | (simp; done) | (simp [cm_, List.forall_mem_append, bw_]; done))
    refine .can (Can.slotLe 2 (.sl false []) (by simp only [go_sem, seval, ad_, ab_, T2_, T1_, aa_] <;> trivial) (by simp only [go_sem, seval, ad_, ab_, T2_, T1_, aa_] <;> rfl)) ?_
    refine .ret ⟨.inr rfl, ?_⟩
    exact Out.plain (by simp only [Tryz.results152]; rfl) (by simp only [ba_, bs_, go_sem, seval, ad_, ab_, T2_, T1_, aa_] <;> (split <;> rfl)) (by simp only [bq_, go_sem, seval, ad_, ab_, T2_, T1_, aa_] <;> (have k : s.kind = 0 := (by simp_all); simp [d0_, k, wdR])) (by simp only [go_sem, seval, ad_, ab_, T2_, T1_, aa_])
theorem r1_ {s : Sl} (h : c8_ s = true) : (cj_ (sw' s)).length ≤ 1000 := by
 have := oa_ h
 have h2 := oj_ (fun s hs => (this.2 s hs).2)
 omega
theorem v5_ (s : Sl) (h : c8_ s = true) (hs : fg_ s = true) : ACall En 138 [.ag (sC s)] [] [.s (cj_ (sw' s))] [] := by
 have h1 := r1_ h
 have h2 := (oa_ h).1
 have h3 := mz_ h
 have h4 : (d0_ s).length = (sw' s).length := by rw [← h3, List.length_map]
 refine an_ (fn := Tryz.f138) [] Tryz.func138 rfl rfl (by simp) fun C => ?_
 rw [bb_]
 simp only [Tryz.ntmps138, T7_, List.length_nil, Nat.reduceAdd, Nat.reduceSub, List.replicate_succ, List.replicate_zero, List.cons_append, List.nil_append, bu_]
 refine .seq (.rgn [] (by simp only [go_sem, seval, aa_, ab_, h3]; rfl) ?_ ?_)
 ·simp
 refine .seq (.rgn [br_ (tj_ s h hs), br_ (mm_ (d0_ s) (by omega)), br_ (k7_ (sw' s) (by omega) (by omega))] (by simp only [go_sem, seval, aa_, ab_, h3]; rfl) ?_ ?_)
 ·simp
 refine .ret ⟨.inr rfl, ?_⟩
 exact Out.plain (by simp only [Tryz.results138]; rfl) (by simp only [ba_, bs_, go_sem, seval, aa_, ab_, h3] <;> (split <;> rfl)) (by simp only [bq_, go_sem, seval, aa_, ab_, h3] <;> (rfl)) (by simp only [go_sem, seval, aa_, ab_, h3])
theorem lp_ (s : Sl) (hs : fg_ s = true) : ACall En 75 [.ag (sC s)] [] [.b (sok s)] [] := by
 obtain ⟨s1, s1', s2, s3⟩ := d9_ hs
 refine an_ (fn := Tryz.f75) [] Tryz.func75 rfl rfl (by simp) fun C => ?_
 rw [bb_]
 simp only [Tryz.ntmps75, T7_, List.length_nil, Nat.reduceAdd, Nat.reduceSub, List.replicate_succ, List.replicate_zero, List.cons_append, List.nil_append, bu_]
 refine .seq (.rgn [] (by simp only [go_sem, seval, aa_]; rfl) ?_ ?_)
 ·(first | trivial | (simp; done) | exact hJ.symm)
 refine .seq (.rgn [] (by simp only [go_sem, seval, aa_]; rfl) ?_ ?_)
 ·(first | trivial | (simp; done) | exact hJ.symm)
 refine .seqJ (fun q : Bool => ⟨[.no, .pt 11 11 0 0, .no, .b q, .no, .no, .no, .no, .no, .no, .no, .no, .no, .no, .no, .no, .no, .no, .no, .no, .no, .no, .no, .no, .no, .no, .no, .no, .no, .no, .no, .no, .no, .no, .no, .no, .no, .no, .no, .no, .no, .no, .no, .no, .no, .no, .no, .no, .no, .no, .no, .no, .no, .no, .no, .no, .no, .no, .no, .no, .no, .no, .no, .no, .no, .no, .no, .no, .no, .no, .no, .no, .no, .no, .no, .no, .no, .no, .no, .no, .no, .no, .no, .no, .no, .no, .no, .no, .no, .no, .no, .no, .no], bf_ [(11, ⟨35, 11, [sC s]⟩)], us [11]⟩) (fun q : Bool => q = c8_ s) ?_ (fun q hJ => ?_)
 ·refine .seq (.rgn [] (by simp only [go_sem, seval, aa_]; rfl) ?_ ?_)
  ·(first | trivial | (simp; done) | exact hJ.symm)
  refine .block (.seq (.rgn [] (by simp only [go_sem, seval, aa_]; rfl) ?_ ?_))
  ·(first | trivial | (simp; done) | exact hJ.symm)
  refine .condB (by simp only [go_sem, seval, aa_]; rfl) (by simp only [go_sem, seval, aa_]) (fun h6 => ?_) (fun h6 => ?_)
  ·refine .rgn [br_ (i9_ s.expr s2), br_ (i9_ s.thn s3)] (by simp only [go_sem, seval, aa_]; rfl) ?_ ?_
   ·(first | trivial | (simp; done) | exact hJ.symm)
   refine Exists.intro (c8_ s) ⟨?_, ?_⟩
   ·rfl
   exact Can.weak (Weak.lit (by simp only [go_sem, seval, aa_, a2_, leV, az_, ay_, V.inn, us, T9_, Ta_] <;> ((unfold c8_; simp_all))) (by simp only [go_sem, seval, aa_, a2_, leV, az_, ay_, V.inn, us, T9_, Ta_]) (by simp only [go_sem, seval, aa_, a2_, leV, az_, ay_, V.inn, us, T9_, Ta_]))
  ·refine .seq (.rgn [] (by simp only [go_sem, seval, aa_]; rfl) ?_ ?_)
   ·(first | trivial | (simp; done) | exact hJ.symm)
   refine .condB (by simp only [go_sem, seval, aa_]; rfl) (by simp only [go_sem, seval, aa_]) (fun h26 => ?_) (fun h26 => ?_)
   ·refine .rgn [br_ (tt_ s.name s1), br_ (r6_ s.type), br_ (i7_ s.expr s2), br_ (i9_ s.thn s3)] (by simp only [go_sem, seval, aa_]; rfl) ?_ ?_
    ·(first | trivial | (simp; done) | exact hJ.symm)
    refine Exists.intro (c8_ s) ⟨?_, ?_⟩
    ·rfl
    exact Can.weak (Weak.lit (by simp only [go_sem, seval, aa_, a2_, leV, az_, ay_, V.inn, us, T9_, Ta_] <;> ((unfold c8_; simp_all))) (by simp only [go_sem, seval, aa_, a2_, leV, az_, ay_, V.inn, us, T9_, Ta_]) (by simp only [go_sem, seval, aa_, a2_, leV, az_, ay_, V.inn, us, T9_, Ta_]))
   ·refine .seq (.rgn [] (by simp only [go_sem, seval, aa_]; rfl) ?_ ?_)
    ·(first | trivial | (simp; done) | exact hJ.symm)
    refine .condB (by simp only [go_sem, seval, aa_]; rfl) (by simp only [go_sem, seval, aa_]) (fun h46 => ?_) (fun h46 => ?_)
    ·refine .rgn [br_ (i7_ s.expr s2), br_ (i9_ s.thn s3)] (by simp only [go_sem, seval, aa_]; rfl) ?_ ?_
     ·(first | trivial | (simp; done) | exact hJ.symm)
     refine Exists.intro (c8_ s) ⟨?_, ?_⟩
     ·rfl
     exact Can.weak (Weak.lit (by simp only [go_sem, seval, aa_, a2_, leV, az_, ay_, V.inn, us, T9_, Ta_] <;> ((unfold c8_; simp_all))) (by simp only [go_sem, seval, aa_, a2_, leV, az_, ay_, V.inn, us, T9_, Ta_]) (by simp only [go_sem, seval, aa_, a2_, leV, az_, ay_, V.inn, us, T9_, Ta_]))
    ·refine .seq (.rgn [] (by simp only [go_sem, seval, aa_]; rfl) ?_ ?_)
     ·(first | trivial | (simp; done) | exact hJ.symm)
     refine .condB (by simp only [go_sem, seval, aa_]; rfl) (by simp only [go_sem, seval, aa_]) (fun h66 => ?_) (fun h66 => ?_)
     ·refine .rgn [br_ (i7_ s.expr s2), br_ (i7_ s.thn s3)] (by simp only [go_sem, seval, aa_]; rfl) ?_ ?_
      ·(first | trivial | (simp; done) | exact hJ.symm)
      refine Exists.intro (c8_ s) ⟨?_, ?_⟩
      ·rfl
      exact Can.weak (Weak.lit (by simp only [go_sem, seval, aa_, a2_, leV, az_, ay_, V.inn, us, T9_, Ta_] <;> ((unfold c8_; simp_all))) (by simp only [go_sem, seval, aa_, a2_, leV, az_, ay_, V.inn, us, T9_, Ta_]) (by simp only [go_sem, seval, aa_, a2_, leV, az_, ay_, V.inn, us, T9_, Ta_]))
     ·refine .skip ?_
      refine Exists.intro (c8_ s) ⟨?_, ?_⟩
      ·rfl
      exact Can.weak (Weak.lit (by simp only [go_sem, seval, aa_, a2_, leV, az_, ay_, V.inn, us, T9_, Ta_] <;> ((unfold c8_; simp_all))) (by simp only [go_sem, seval, aa_, a2_, leV, az_, ay_, V.inn, us, T9_, Ta_]) (by simp only [go_sem, seval, aa_, a2_, leV, az_, ay_, V.inn, us, T9_, Ta_]))
 cases q
 ·refine .seq (.rgn [dw_ (c8_ s = true) (fun h => v5_ s h hs)] (by simp only [go_sem, seval, aa_]; rfl) ?_ ?_)
  ·(first | trivial | (simp; done) | exact hJ.symm)
  refine .ret ⟨.inr rfl, ?_⟩
  exact Out.plain (by simp only [Tryz.results75]; rfl) (by simp only [ba_, bs_, go_sem, seval, aa_] <;> (split <;> rfl)) (by simp only [bq_, go_sem, seval, aa_] <;> (rw [sok, ← hJ]; first | rfl | (rw [Bool.true_and, h3_]; rfl))) (by simp only [go_sem, seval, aa_])
 ·refine .seq (.rgn [dw_ (c8_ s = true) (fun h => v5_ s h hs)] (by simp only [go_sem, seval, aa_]; rfl) ?_ ?_)
  ·(first | trivial | (simp; done) | exact hJ.symm)
  refine .ret ⟨.inr rfl, ?_⟩
  exact Out.plain (by simp only [Tryz.results75]; rfl) (by simp only [ba_, bs_, go_sem, seval, aa_] <;> (split <;> rfl)) (by simp only [bq_, go_sem, seval, aa_] <;> (rw [sok, ← hJ]; first | rfl | (rw [Bool.true_and, h3_]; rfl))) (by simp only [go_sem, seval, aa_])
theorem d7_ {s : Sl} (h : sok s = true) : c8_ s = true := by simp only [sok, T5_] at h; exact h.1
theorem lj_ (s : Sl) (h : c8_ s = true) (hs : fg_ s = true) : ACall En 84 [.ag (sC s)] [] [.sl false (c1_ (sw' s))] [] := by
 obtain ⟨h0, h1, h2⟩ := fr_ h
 obtain ⟨s1, s1', s2, s3⟩ := d9_ hs
 have W : s.kind = 1 ∨ s.kind = 2 ∨ s.kind = 3 → _ := fun hk => jh_ 5 s.expr 1 (ci_ (h1 hk)) s2 (hn_ (h1 hk)) (by decide) (by decide)
 have W3 : s.kind = 3 → _ := fun hk => jh_ 5 s.thn 1 (ci_ (h2 hk)) s3 (hn_ (h2 hk)) (by decide) (by decide)
 refine an_ (fn := Tryz.f84) [] Tryz.func84 rfl rfl (by simp) fun C => ?_
 rw [bb_]
 simp only [Tryz.ntmps84, T7_, List.length_nil, Nat.reduceAdd, Nat.reduceSub, List.replicate_succ, List.replicate_zero, List.cons_append, List.nil_append, bu_]
 refine .seq (.rgn [] (by simp only [go_sem, seval, ae_, ac_, T2_, T1_, aa_]; rfl) ?_ ?_)
 ·(first | trivial | (simp; done) | (simp [cq_]; done))
 refine .seq (.seq (.rgn [] (by simp only [go_sem, seval, ae_, ac_, T2_, T1_, aa_]; rfl) ?_ ?_))
 ·(first | trivial | (simp; done) | (simp [cq_]; done))
 refine .block (.seq (.rgn [] (by simp only [go_sem, seval, ae_, ac_, T2_, T1_, aa_]; rfl) ?_ ?_))
 ·(first | trivial | (simp; done) | (simp [cq_]; done))
 refine .condB (by simp only [go_sem, seval, ae_, ac_, T2_, T1_, aa_]; rfl) (by simp only [go_sem, seval, ae_, ac_, T2_, T1_, aa_]) (fun h6 => ?_) (fun h6 => ?_)
 ·refine .seq (.rgnD [br_ (W (.inl (by simpa using h6)))] enM (by simp only [go_sem, seval, ae_, ac_, T2_, T1_, aa_]; rfl) (by rfl) ?_ ?_)
  ·have q := h1 (.inl (by simpa using h6)); have q2 := (c9_ q 1); have q3 := vb_ q 1; simp [cm_, cq_, q3, ji_]; omega
  refine .frz 26 (by simp only [go_sem, seval, ae_, ac_, T2_, T1_, aa_]; rfl) (by simp only [go_sem, seval, ae_, ac_, T2_, T1_, aa_]) (by simp only [go_sem, seval, ae_, ac_, T2_, T1_, aa_]; rfl) (by simp only [go_sem, seval, ae_, ac_, T2_, T1_, aa_]; rfl) ?_
  refine .ret ⟨.inr rfl, ?_⟩
  exact Out.plain (by simp only [Tryz.results84]; rfl) (by simp only [ba_, bs_, go_sem, seval, ae_, ac_, T2_, T1_, aa_] <;> (split <;> rfl)) (by simp only [bq_, go_sem, seval, ae_, ac_, T2_, T1_, aa_] <;> (have k : s.kind = 1 := (by simpa using h6); rw [if_pos (by omega), T1_ (by simp [ae_]; omega)]; simp [sw', k, c1_, peel, wEq, vt_, j7_])) (by simp only [go_sem, seval, ae_, ac_, T2_, T1_, aa_])
 ·refine .seq (.rgn [] (by simp only [go_sem, seval, ae_, ac_, T2_, T1_, aa_]; rfl) ?_ ?_)
  ·(first | trivial | (simp; done) | (simp [cq_]; done))
  refine .condB (by simp only [go_sem, seval, ae_, ac_, T2_, T1_, aa_]; rfl) (by simp only [go_sem, seval, ae_, ac_, T2_, T1_, aa_]) (fun h17 => ?_) (fun h17 => ?_)
  ·refine .seq (.rgn [br_ (W (.inr (.inl (by simpa using h17))))] (by simp only [go_sem, seval, ae_, ac_, T2_, T1_, aa_]; rfl) ?_ ?_)
   ·have q := h1 (.inr (.inl (by simpa using h17))); have q2 := (c9_ q 1); have q3 := vb_ q 1; simp [cm_, cq_, q3, ji_]; omega
   refine .frz 33 (by simp only [go_sem, seval, ae_, ac_, T2_, T1_, aa_]; rfl) (by simp only [go_sem, seval, ae_, ac_, T2_, T1_, aa_]) (by simp only [go_sem, seval, ae_, ac_, T2_, T1_, aa_]; rfl) (by simp only [go_sem, seval, ae_, ac_, T2_, T1_, aa_]; rfl) ?_
   refine .ret ⟨.inr rfl, ?_⟩
   exact Out.plain (by simp only [Tryz.results84]; rfl) (by simp only [ba_, bs_, go_sem, seval, ae_, ac_, T2_, T1_, aa_] <;> (split <;> rfl)) (by simp only [bq_, go_sem, seval, ae_, ac_, T2_, T1_, aa_] <;> (have k : s.kind = 2 := (by simpa using h17); rw [if_pos (by omega), T1_ (by simp [ae_]; omega)]; simp [sw', k, c1_, peel, h1_])) (by simp only [go_sem, seval, ae_, ac_, T2_, T1_, aa_])
  ·refine .seq (.rgn [] (by simp only [go_sem, seval, ae_, ac_, T2_, T1_, aa_]; rfl) ?_ ?_)
   ·(first | trivial | (simp; done) | (simp [cq_]; done))
   refine .condB (by simp only [go_sem, seval, ae_, ac_, T2_, T1_, aa_]; rfl) (by simp only [go_sem, seval, ae_, ac_, T2_, T1_, aa_]) (fun h24 => ?_) (fun h24 => ?_)
   ·refine .seq (.rgn [br_ (W (.inr (.inr (by simpa using h24))))] (by simp only [go_sem, seval, ae_, ac_, T2_, T1_, aa_]; rfl) ?_ ?_)
    ·have q := h1 (.inr (.inr (by simpa using h24))); have q2 := (c9_ q 1); have q3 := vb_ q 1; simp [cm_, cq_, q3, ji_]; omega
    refine .seq (.rgnD [br_ (W3 (by simpa using h24))] enM (by simp only [go_sem, seval, ae_, ac_, T2_, T1_, aa_]; rfl) (by rfl) ?_ ?_)
    ·have q := h1 (.inr (.inr (by simpa using h24))); have q2 := (c9_ q 1); have q4 := c9_ (h2 (by simpa using h24)) 1; simp [cm_, cq_]; omega
    refine .frz 47 (by simp only [go_sem, seval, ae_, ac_, T2_, T1_, aa_]; rfl) (by simp only [go_sem, seval, ae_, ac_, T2_, T1_, aa_]) (by simp only [go_sem, seval, ae_, ac_, T2_, T1_, aa_]; rfl) (by simp only [go_sem, seval, ae_, ac_, T2_, T1_, aa_]; rfl) ?_
    refine .ret ⟨.inr rfl, ?_⟩
    exact Out.plain (by simp only [Tryz.results84]; rfl) (by simp only [ba_, bs_, go_sem, seval, ae_, ac_, T2_, T1_, aa_] <;> (split <;> rfl)) (by simp only [bq_, go_sem, seval, ae_, ac_, T2_, T1_, aa_] <;> (have k : s.kind = 3 := (by simpa using h24); rw [if_pos (by omega), T1_ (by simp [ae_]; omega)]; simp [sw', k, c1_, peel, h1_, h5_])) (by simp only [go_sem, seval, ae_, ac_, T2_, T1_, aa_])
   ·refine .skip (.seq (.rgn [] (by simp only [go_sem, seval, ae_, ac_, T2_, T1_, aa_]; rfl) ?_ ?_))
    ·(first | trivial | (simp; done) | (simp [cq_]; done))
    refine .can (Can.slotLe 2 (.sl false []) (by simp only [go_sem, seval, ae_, ac_, T2_, T1_, aa_] <;> trivial) (by simp only [go_sem, seval, ae_, ac_, T2_, T1_, aa_] <;> rfl)) ?_
    refine .ret ⟨.inr rfl, ?_⟩
    exact Out.plain (by simp only [Tryz.results84]; rfl) (by simp only [ba_, bs_, go_sem, seval, ae_, ac_, T2_, T1_, aa_] <;> (split <;> rfl)) (by simp only [bq_, go_sem, seval, ae_, ac_, T2_, T1_, aa_] <;> (have k : s.kind = 0 := (by simp_all); simp [sw', k, c1_])) (by simp only [go_sem, seval, ae_, ac_, T2_, T1_, aa_])
theorem l7_ (s : Sl) (hs : fg_ s = true) : ACall En 81 [.ag (sC s)] [] [.b (sok s)] [] := by
 obtain ⟨s1, s1', s2, s3⟩ := d9_ hs
 refine an_ (fn := Tryz.f81) [] Tryz.func81 rfl rfl (by simp) fun C => ?_
 rw [bb_]
 simp only [Tryz.ntmps81, T7_, List.length_nil, Nat.reduceAdd, Nat.reduceSub, List.replicate_succ, List.replicate_zero, List.cons_append, List.nil_append, bu_]
 refine .seq (.rgn [] (by simp only [go_sem, seval, aa_, ac_]; rfl) ?_ ?_)
 ·(first | trivial | (simp; done) | exact hJ.symm | exact ⟨hJ.symm, hJ.symm⟩)
 refine .seq (.rgn [] (by simp only [go_sem, seval, aa_, ac_]; rfl) ?_ ?_)
 ·(first | trivial | (simp; done) | exact hJ.symm | exact ⟨hJ.symm, hJ.symm⟩)
 refine .seqJ (fun q : Bool => ⟨[.no, .pt 11 11 0 0, .no, .b q, .no, .no, .no, .no, .no, .no, .no, .no, .no, .no, .no, .no, .no, .no, .no, .no, .no, .no, .no, .no, .no, .no, .no, .no, .no, .no, .no, .no, .no, .no, .no, .no, .no, .no, .no, .no, .no, .no, .no, .no, .no, .no, .no, .no, .no, .no, .no, .no, .no, .no, .no, .no, .no, .no, .no, .no, .no, .no, .no, .no, .no, .no, .no, .no, .no, .no, .no, .no, .no, .no, .no, .no, .no, .no, .no, .no, .no, .no, .no, .no, .no, .no, .no, .no, .no, .no, .no, .no, .no, .no], bf_ [(11, ⟨35, 11, [sC s]⟩)], us [11]⟩) (fun q : Bool => q = c8_ s) ?_ (fun q hJ => ?_)
 ·refine .seq (.rgn [] (by simp only [go_sem, seval, aa_, ac_]; rfl) ?_ ?_)
  ·(first | trivial | (simp; done) | exact hJ.symm | exact ⟨hJ.symm, hJ.symm⟩)
  refine .block (.seq (.rgn [] (by simp only [go_sem, seval, aa_, ac_]; rfl) ?_ ?_))
  ·(first | trivial | (simp; done) | exact hJ.symm | exact ⟨hJ.symm, hJ.symm⟩)
  refine .condB (by simp only [go_sem, seval, aa_, ac_]; rfl) (by simp only [go_sem, seval, aa_, ac_]) (fun h6 => ?_) (fun h6 => ?_)
  ·refine .rgn [br_ (lc_ s.expr s2), br_ (lc_ s.thn s3)] (by simp only [go_sem, seval, aa_, ac_]; rfl) ?_ ?_
   ·(first | trivial | (simp; done) | exact hJ.symm | exact ⟨hJ.symm, hJ.symm⟩)
   refine Exists.intro (c8_ s) ⟨?_, ?_⟩
   ·rfl
   exact Can.weak (Weak.lit (by simp only [go_sem, seval, aa_, ac_, a2_, leV, az_, ay_, V.inn, us, T9_, Ta_] <;> ((unfold c8_; simp_all))) (by simp only [go_sem, seval, aa_, ac_, a2_, leV, az_, ay_, V.inn, us, T9_, Ta_]) (by simp only [go_sem, seval, aa_, ac_, a2_, leV, az_, ay_, V.inn, us, T9_, Ta_]))
  ·refine .seq (.rgn [] (by simp only [go_sem, seval, aa_, ac_]; rfl) ?_ ?_)
   ·(first | trivial | (simp; done) | exact hJ.symm | exact ⟨hJ.symm, hJ.symm⟩)
   refine .condB (by simp only [go_sem, seval, aa_, ac_]; rfl) (by simp only [go_sem, seval, aa_, ac_]) (fun h26 => ?_) (fun h26 => ?_)
   ·refine .rgn [br_ (s3_ s.name s1), br_ (o1_ s.type), br_ (jd_ s.expr s2), br_ (lc_ s.thn s3)] (by simp only [go_sem, seval, aa_, ac_]; rfl) ?_ ?_
    ·(first | trivial | (simp; done) | exact hJ.symm | exact ⟨hJ.symm, hJ.symm⟩)
    refine Exists.intro (c8_ s) ⟨?_, ?_⟩
    ·rfl
    exact Can.weak (Weak.lit (by simp only [go_sem, seval, aa_, ac_, a2_, leV, az_, ay_, V.inn, us, T9_, Ta_] <;> ((unfold c8_; simp_all))) (by simp only [go_sem, seval, aa_, ac_, a2_, leV, az_, ay_, V.inn, us, T9_, Ta_]) (by simp only [go_sem, seval, aa_, ac_, a2_, leV, az_, ay_, V.inn, us, T9_, Ta_]))
   ·refine .seq (.rgn [] (by simp only [go_sem, seval, aa_, ac_]; rfl) ?_ ?_)
    ·(first | trivial | (simp; done) | exact hJ.symm | exact ⟨hJ.symm, hJ.symm⟩)
    refine .condB (by simp only [go_sem, seval, aa_, ac_]; rfl) (by simp only [go_sem, seval, aa_, ac_]) (fun h46 => ?_) (fun h46 => ?_)
    ·refine .rgn [br_ (jd_ s.expr s2), br_ (lc_ s.thn s3)] (by simp only [go_sem, seval, aa_, ac_]; rfl) ?_ ?_
     ·(first | trivial | (simp; done) | exact hJ.symm | exact ⟨hJ.symm, hJ.symm⟩)
     refine Exists.intro (c8_ s) ⟨?_, ?_⟩
     ·rfl
     exact Can.weak (Weak.lit (by simp only [go_sem, seval, aa_, ac_, a2_, leV, az_, ay_, V.inn, us, T9_, Ta_] <;> ((unfold c8_; simp_all))) (by simp only [go_sem, seval, aa_, ac_, a2_, leV, az_, ay_, V.inn, us, T9_, Ta_]) (by simp only [go_sem, seval, aa_, ac_, a2_, leV, az_, ay_, V.inn, us, T9_, Ta_]))
    ·refine .seq (.rgn [] (by simp only [go_sem, seval, aa_, ac_]; rfl) ?_ ?_)
     ·(first | trivial | (simp; done) | exact hJ.symm | exact ⟨hJ.symm, hJ.symm⟩)
     refine .condB (by simp only [go_sem, seval, aa_, ac_]; rfl) (by simp only [go_sem, seval, aa_, ac_]) (fun h66 => ?_) (fun h66 => ?_)
     ·refine .rgn [br_ (jd_ s.expr s2), br_ (jd_ s.thn s3)] (by simp only [go_sem, seval, aa_, ac_]; rfl) ?_ ?_
      ·(first | trivial | (simp; done) | exact hJ.symm | exact ⟨hJ.symm, hJ.symm⟩)
      refine Exists.intro (c8_ s) ⟨?_, ?_⟩
      ·rfl
      exact Can.weak (Weak.lit (by simp only [go_sem, seval, aa_, ac_, a2_, leV, az_, ay_, V.inn, us, T9_, Ta_] <;> ((unfold c8_; simp_all))) (by simp only [go_sem, seval, aa_, ac_, a2_, leV, az_, ay_, V.inn, us, T9_, Ta_]) (by simp only [go_sem, seval, aa_, ac_, a2_, leV, az_, ay_, V.inn, us, T9_, Ta_]))
     ·refine .skip ?_
      refine Exists.intro (c8_ s) ⟨?_, ?_⟩
      ·rfl
      exact Can.weak (Weak.lit (by simp only [go_sem, seval, aa_, ac_, a2_, leV, az_, ay_, V.inn, us, T9_, Ta_] <;> ((unfold c8_; simp_all))) (by simp only [go_sem, seval, aa_, ac_, a2_, leV, az_, ay_, V.inn, us, T9_, Ta_]) (by simp only [go_sem, seval, aa_, ac_, a2_, leV, az_, ay_, V.inn, us, T9_, Ta_]))
 cases q
 ·refine .seq (.rgn [dw_ (c8_ s = true) (fun h => lj_ s h hs), dw_ (c8_ s = true) (fun h => j6_ (sw' s) (by have := (oa_ h).1; omega) (by have := r1_ h; omega))] (by simp only [go_sem, seval, aa_, ac_]; rfl) ?_ ?_)
  ·(first | trivial | (simp; done) | exact hJ.symm | exact ⟨hJ.symm, hJ.symm⟩)
  refine .ret ⟨.inr rfl, ?_⟩
  exact Out.plain (by simp only [Tryz.results81]; rfl) (by simp only [ba_, bs_, go_sem, seval, aa_, ac_] <;> (split <;> rfl)) (by simp only [bq_, go_sem, seval, aa_, ac_] <;> (rw [sok, ← hJ]; first | rfl | (rw [Bool.true_and, h3_]; rfl))) (by simp only [go_sem, seval, aa_, ac_])
 ·refine .seq (.rgn [dw_ (c8_ s = true) (fun h => lj_ s h hs), dw_ (c8_ s = true) (fun h => j6_ (sw' s) (by have := (oa_ h).1; omega) (by have := r1_ h; omega))] (by simp only [go_sem, seval, aa_, ac_]; rfl) ?_ ?_)
  ·(first | trivial | (simp; done) | exact hJ.symm | exact ⟨hJ.symm, hJ.symm⟩)
  refine .ret ⟨.inr rfl, ?_⟩
  exact Out.plain (by simp only [Tryz.results81]; rfl) (by simp only [ba_, bs_, go_sem, seval, aa_, ac_] <;> (split <;> rfl)) (by simp only [bq_, go_sem, seval, aa_, ac_] <;> (rw [sok, ← hJ]; first | rfl | (rw [Bool.true_and, h3_]; rfl))) (by simp only [go_sem, seval, aa_, ac_])
end
section
set_option maxRecDepth 100000
set_option maxHeartbeats 4000000
theorem hi_ {s : Sl} (h : c8_ s = true) : wf s.expr = true ∧ wf s.thn = true := by
 unfold c8_ at h
 by_cases k0 : s.kind = 0
 ·simp [k0, ei_] at h; rw [h.1.2, h.2]; exact ⟨w5_, w5_⟩
 by_cases k1 : s.kind = 1
 ·simp [k1, ei_] at h; rw [h.2]; exact ⟨lr_ h.1.2, w5_⟩
 by_cases k2 : s.kind = 2
 ·simp [k2, ei_] at h; rw [h.2]; exact ⟨lr_ h.1.2, w5_⟩
 by_cases k3 : s.kind = 3
 ·simp [k3] at h; exact ⟨lr_ h.1.2, lr_ h.2⟩
 ·simp [k0, k1, k2, k3] at h
def dt_ (s : Sl) : Bl := if sok s then bof s else B0
theorem aga_ : smb B0 = true := by decide
theorem x4_ {s : Sl} (h : fg_ s = true) : smb (dt_ s) = true := by
 unfold dt_; split
 ·exact wa_ h
 ·exact aga_
theorem td_ (s : Sl) (hs : fg_ s = true) (w1 : wf s.expr = true) (w2 : wf s.thn = true) : ACall En 110 [.ag (sC s)] [] [.ag (bC (bof s))] [] := by
 obtain ⟨s1, s2, s3, s4⟩ := d9_ hs
 refine an_ (fn := Tryz.f110) [] Tryz.func110 rfl rfl (by simp) fun C => ?_
 rw [bb_]
 simp only [Tryz.ntmps110, T7_, List.length_nil, Nat.reduceAdd, Nat.reduceSub, List.replicate_succ, List.replicate_zero, List.cons_append, List.nil_append, bu_]
 refine .seq (.rgn [] (by simp only [go_sem, seval, aa_, a3_]; rfl) ?_ ?_)
 ·first | trivial | simp
 refine .seq (.rgn [] (by simp only [go_sem, seval, aa_, a3_]; rfl) ?_ ?_)
 ·first | trivial | simp
 refine .seq (.seq (.rgn [] (by simp only [go_sem, seval, aa_, a3_]; rfl) ?_ ?_))
 ·first | trivial | simp
 refine .condB (by simp only [go_sem, seval, aa_, a3_]; rfl) (by simp only [go_sem, seval, aa_, a3_]) (fun h11 => ?_) (fun h11 => ?_)
 ·refine .rgn [br_ (rn_ s.expr w1 s3)] (by simp only [go_sem, seval, aa_, a3_]; rfl) ?_ ?_
  ·first | trivial | simp
  refine .seq (.seq (.rgn [] (by simp only [go_sem, seval, aa_, a3_]; rfl) ?_ ?_))
  ·first | trivial | simp
  refine .condB (by simp only [go_sem, seval, aa_, a3_]; rfl) (by simp only [go_sem, seval, aa_, a3_]) (fun h18 => ?_) (fun h18 => ?_)
  ·refine .rgn [br_ (rn_ s.thn w2 s4)] (by simp only [go_sem, seval, aa_, a3_]; rfl) ?_ ?_
   ·first | trivial | simp
   refine .seq (.rgn [] (by simp only [go_sem, seval, aa_, a3_]; rfl) ?_ ?_)
   ·first | trivial | simp
   refine .ret ⟨.inr rfl, ?_⟩
   exact Out.plainL (by simp only [Tryz.results110]; rfl) (by simp only [ba_, bs_, go_sem, seval, aa_, a3_] <;> (split <;> rfl)) (by simp only [bq_, go_sem, seval, aa_, a3_] <;> (simp at h11 h18; simp [bof, h11, h18, a3_, sl_, ty_, s2_, he_, ip_, ler, bh_])) (by simp only [go_sem, seval, aa_, a3_])
  ·refine .skip (.seq (.rgn [] (by simp only [go_sem, seval, aa_, a3_]; rfl) ?_ ?_))
   ·first | trivial | simp
   refine .ret ⟨.inr rfl, ?_⟩
   exact Out.plainL (by simp only [Tryz.results110]; rfl) (by simp only [ba_, bs_, go_sem, seval, aa_, a3_] <;> (split <;> rfl)) (by simp only [bq_, go_sem, seval, aa_, a3_] <;> (simp at h11 h18; simp [bof, h11, h18, a3_, sl_, ty_, s2_, he_, ip_, ler, bh_])) (by simp only [go_sem, seval, aa_, a3_])
 ·refine .skip (.seq (.seq (.rgn [] (by simp only [go_sem, seval, aa_, a3_]; rfl) ?_ ?_)))
  ·first | trivial | simp
  refine .condB (by simp only [go_sem, seval, aa_, a3_]; rfl) (by simp only [go_sem, seval, aa_, a3_]) (fun h18 => ?_) (fun h18 => ?_)
  ·refine .rgn [br_ (rn_ s.thn w2 s4)] (by simp only [go_sem, seval, aa_, a3_]; rfl) ?_ ?_
   ·first | trivial | simp
   refine .seq (.rgn [] (by simp only [go_sem, seval, aa_, a3_]; rfl) ?_ ?_)
   ·first | trivial | simp
   refine .ret ⟨.inr rfl, ?_⟩
   exact Out.plainL (by simp only [Tryz.results110]; rfl) (by simp only [ba_, bs_, go_sem, seval, aa_, a3_] <;> (split <;> rfl)) (by simp only [bq_, go_sem, seval, aa_, a3_] <;> (simp at h11 h18; omega)) (by simp only [go_sem, seval, aa_, a3_])
  ·refine .skip (.seq (.rgn [] (by simp only [go_sem, seval, aa_, a3_]; rfl) ?_ ?_))
   ·first | trivial | simp
   refine .ret ⟨.inr rfl, ?_⟩
   exact Out.plainL (by simp only [Tryz.results110]; rfl) (by simp only [ba_, bs_, go_sem, seval, aa_, a3_] <;> (split <;> rfl)) (by simp only [bq_, go_sem, seval, aa_, a3_] <;> (simp at h11 h18; simp [bof, h11, h18, a3_, sl_, ty_, s2_, he_, ip_, ler, bh_])) (by simp only [go_sem, seval, aa_, a3_])
theorem y1_ (s : Sl) (hs : fg_ s = true) : ACall En 51 [.ag (sC s)] [] [.ag (bC (dt_ s))] [] := by
 refine an_ (fn := Tryz.f51) [] Tryz.func51 rfl rfl (by simp) fun C => ?_
 rw [bb_]
 simp only [Tryz.ntmps51, T7_, List.length_nil, Nat.reduceAdd, Nat.reduceSub, List.replicate_succ, List.replicate_zero, List.cons_append, List.nil_append, bu_]
 refine .seq (.rgn [] (by simp only [go_sem, seval, aa_, a3_]; rfl) ?_ ?_)
 ·first | trivial | simp
 refine .seq (.seq (.rgn [br_ (lp_ s hs)] (by simp only [go_sem, seval, aa_, a3_]; rfl) ?_ ?_))
 ·first | trivial | simp
 refine .condB (by simp only [go_sem, seval, aa_, a3_]; rfl) (by simp only [go_sem, seval, aa_, a3_]) (fun h5 => ?_) (fun h5 => ?_)
 ·refine .seq (.rgn [] (by simp only [go_sem, seval, aa_, a3_]; rfl) ?_ ?_)
  ·first | trivial | simp
  refine .ret ⟨.inr rfl, ?_⟩
  exact Out.plainL (by simp only [Tryz.results51]; rfl) (by simp only [ba_, bs_, go_sem, seval, aa_, a3_] <;> (split <;> rfl)) (by simp only [bq_, go_sem, seval, aa_, a3_] <;> (simp at h5; simp [dt_, h5, B0, sl_, ty_, s2_, he_, ip_, ler])) (by simp only [go_sem, seval, aa_, a3_])
 ·refine .skip (.seq (.rgn [dw_ (sok s = true) (fun h => td_ s hs (hi_ (d7_ h)).1 (hi_ (d7_ h)).2)] (by simp only [go_sem, seval, aa_, a3_]; rfl) ?_ ?_))
  ·simpa using h5
  refine .ret ⟨.inr rfl, ?_⟩
  exact Out.plainL (by simp only [Tryz.results51]; rfl) (by simp only [ba_, bs_, go_sem, seval, aa_, a3_] <;> (split <;> rfl)) (by simp only [bq_, go_sem, seval, aa_, a3_] <;> (simp at h5; simp [dt_, h5, bh_])) (by simp only [go_sem, seval, aa_, a3_])
theorem x8_ (s : Sl) (hs : fg_ s = true) : ACall En 50 [.ag (sC s)] [] [.ag (bC (dt_ s))] [] := by
 refine an_ (fn := Tryz.f50) [] Tryz.func50 rfl rfl (by simp) fun C => ?_
 rw [bb_]
 simp only [Tryz.ntmps50, T7_, List.length_nil, Nat.reduceAdd, Nat.reduceSub, List.replicate_succ, List.replicate_zero, List.cons_append, List.nil_append, bu_]
 refine .seq (.rgn [] (by simp only [go_sem, seval, aa_, a3_]; rfl) ?_ ?_)
 ·first | trivial | simp
 refine .seq (.seq (.rgn [br_ (l7_ s hs)] (by simp only [go_sem, seval, aa_, a3_]; rfl) ?_ ?_))
 ·first | trivial | simp
 refine .condB (by simp only [go_sem, seval, aa_, a3_]; rfl) (by simp only [go_sem, seval, aa_, a3_]) (fun h5 => ?_) (fun h5 => ?_)
 ·refine .seq (.rgn [] (by simp only [go_sem, seval, aa_, a3_]; rfl) ?_ ?_)
  ·first | trivial | simp
  refine .ret ⟨.inr rfl, ?_⟩
  exact Out.plainL (by simp only [Tryz.results50]; rfl) (by simp only [ba_, bs_, go_sem, seval, aa_, a3_] <;> (split <;> rfl)) (by simp only [bq_, go_sem, seval, aa_, a3_] <;> (simp at h5; simp [dt_, h5, B0, sl_, ty_, s2_, he_, ip_, ler])) (by simp only [go_sem, seval, aa_, a3_])
 ·refine .skip (.seq (.rgn [dw_ (sok s = true) (fun h => agy_ s hs (hi_ (d7_ h)).1 (hi_ (d7_ h)).2)] (by simp only [go_sem, seval, aa_, a3_]; rfl) ?_ ?_))
  ·simpa using h5
  refine .ret ⟨.inr rfl, ?_⟩
  exact Out.plainL (by simp only [Tryz.results50]; rfl) (by simp only [ba_, bs_, go_sem, seval, aa_, a3_] <;> (split <;> rfl)) (by simp only [bq_, go_sem, seval, aa_, a3_] <;> (simp at h5; simp [dt_, h5, bh_])) (by simp only [go_sem, seval, aa_, a3_])
end
section
set_option maxRecDepth 100000
set_option maxHeartbeats 4000000
end
end Go.Proofs.YtcigkafioinfoaaGreatDoor
