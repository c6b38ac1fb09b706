/- Lines with types: words, text, ok: the program's and the reference's; without types. Conditions: none. -/
import Derived.Test.YtefmbmafdgedmaaGreatDoorMj
import Derived.Test.YtefmbmafdgedmaaGreatDoorMk
set_option linter.unusedVariables false
set_option linter.unusedSimpArgs false
namespace Go.Proofs.YtefmbmafdgedmaaGreatDoor
section
set_option maxRecDepth 100000
set_option maxHeartbeats 4000000
def cw_ (s : Sl) : Wd :=
 if s.kind = 1 then (tj_, 100) :: (s.name, 101) :: (hx_, -1) :: (s.type, -1) :: (wEq, 102) :: src s.expr 0 0
 else if s.kind = 2 then (gb_, 103) :: src s.expr 0 0
 else if s.kind = 3 then ((gj_, 100) :: src s.expr 0 0 ++ [(gb_, 103)]) ++ src s.thn 0 (cnt s.expr)
 else []
theorem eq_ {s : Sl} (h : ca_ s = true) : (s.kind = 0 ∨ s.kind = 1 ∨ s.kind = 2 ∨ s.kind = 3) ∧ (s.kind = 1 ∨ s.kind = 2 ∨ s.kind = 3 → eok s.expr = true) ∧ (s.kind = 3 → eok s.thn = true) := by
 unfold ca_ at h
 by_cases k0 : s.kind = 0
 ·simp [k0]
 by_cases k1 : s.kind = 1
 ·simp [k1] at h; simp [k1]; exact h.1.2
 by_cases k2 : s.kind = 2
 ·simp [k2] at h; simp [k2]; exact h.1.2
 by_cases k3 : s.kind = 3
 ·simp [k3] at h; simp [k3]; exact ⟨h.1.2, h.2⟩
 ·simp [k0, k1, k2, k3] at h
theorem ir_ {s : Sl} (h : ca_ s = true) : (cw_ s).map (·.1) = sw' s := by
 obtain ⟨h0, h1, h2⟩ := eq_ h
 unfold cw_ sw'
 rcases h0 with k | k | k | k
 ·simp [k]
 ·simp [k, dw_, fd_ (bp_ (h1 (.inl k)))]
 ·simp [k, dw_, fd_ (bp_ (h1 (.inr (.inl k))))]
 ·simp [k, dw_, fd_ (bp_ (h1 (.inr (.inr k)))), fd_ (bp_ (h2 k))]
theorem r6_ (s : Sl) (h : ca_ s = true) (hs : d7_ s = true) : ACall En 90 [.ag (sC s)] [] [.sl false (wdR (cw_ s))] [] := by
 obtain ⟨h0, h1, h2⟩ := eq_ h
 obtain ⟨s1, s1', s2, s3⟩ := eu_ hs
 have W : s.kind = 1 ∨ s.kind = 2 ∨ s.kind = 3 → _ := fun hk => k6_ 5 s.expr 0 0 (bp_ (h1 hk)) s2 (f1_ (h1 hk)) (by decide) (by have := g0_ (h1 hk); omega) (by decide)
 have W3 : s.kind = 3 → _ := fun hk => k6_ 5 s.thn 0 (0 + cnt s.expr) (bp_ (h2 hk)) s3 (f1_ (h2 hk)) (by have := g0_ (h1 (.inr (.inr hk))); omega) (by have := g0_ (h1 (.inr (.inr hk))); have := g0_ (h2 hk); omega) (by decide)
 refine ap_ (fn := Tryz.f90) [] Tryz.func90 rfl rfl (by simp) fun C => ?_
 rw [a0_]
 simp only [Tryz.ntmps90, List.length_cons, List.length_nil, Nat.reduceAdd, Nat.reduceSub, List.replicate_succ, List.replicate_zero, List.cons_append, List.nil_append, bq_]
 refine .seq (.rgn [] (by simp only [go_sem, seval, ad_, ab_, List.length_append, List.take_of_length_le, ae_]; rfl) ?_ ?_)
 ·(first | trivial | (simp; done) | (simp [bt_, List.forall_mem_append, a8_]; done))
 refine .seq (.rgn [] (by simp only [go_sem, seval, ad_, ab_, List.length_append, List.take_of_length_le, ae_]; rfl) ?_ ?_)
 ·(first | trivial | (simp; done) | (simp [bt_, List.forall_mem_append, a8_]; done))
 refine .seq (.seq (.rgn [] (by simp only [go_sem, seval, ad_, ab_, List.length_append, List.take_of_length_le, ae_]; rfl) ?_ ?_))
 ·(first | trivial | (simp; done) | (simp [bt_, List.forall_mem_append, a8_]; done))
 refine .block (.seq (.rgn [] (by simp only [go_sem, seval, ad_, ab_, List.length_append, List.take_of_length_le, ae_]; rfl) ?_ ?_))
 ·(first | trivial | (simp; done) | (simp [bt_, List.forall_mem_append, a8_]; done))
 refine .condB (by simp only [go_sem, seval, ad_, ab_, List.length_append, List.take_of_length_le, ae_]; rfl) (by simp only [go_sem, seval, ad_, ab_, List.length_append, List.take_of_length_le, ae_]) (fun h7 => ?_) (fun h7 => ?_)
 ·refine .seq (.rgnD [bv_ [13] [31] (W (.inl (by simpa using h7)))] enM (by simp only [go_sem, seval, ad_, ab_, List.length_append, List.take_of_length_le, ae_, al_, ar_]; rfl) (by rfl) ?_ ?_)
  ·have q := h1 (.inl (by simpa using h7)); have q2 := (e4_ q 0 0); have q3 : src s.expr 0 0 ≠ [] := (fun e => by have := (cc_ q 0).1; rw [← gs_ s.expr 0 0, e] at this; simp at this); simp [bt_, a8_, q3, dt_]; omega
  refine .frz 32 (by simp only [go_sem, seval, ad_, ab_, List.length_append, List.take_of_length_le, ae_]; rfl) (by simp only [go_sem, seval, ad_, ab_, List.length_append, List.take_of_length_le, ae_]) (by simp only [go_sem, seval, ad_, ab_, List.length_append, List.take_of_length_le, ae_]; rfl) (by simp only [go_sem, seval, ad_, ab_, List.length_append, List.take_of_length_le, ae_]; rfl) ?_
  refine .ret ⟨.inr rfl, ?_⟩
  exact Out.plain (by simp only [Tryz.results90]; rfl) (by simp only [a1_, bc_, go_sem, seval, ad_, ab_, List.length_append, List.take_of_length_le, ae_] <;> (split <;> rfl)) (by simp only [ba_, go_sem, seval, ad_, ab_, List.length_append, List.take_of_length_le, ae_] <;> (have k : s.kind = 1 := (by simpa using h7); rw [if_pos (by omega), List.take_of_length_le (by simp [ad_]; omega)]; simp [cw_, k, wdR, peel, wEq, tj_, hx_])) (by simp only [go_sem, seval, ad_, ab_, List.length_append, List.take_of_length_le, ae_])
 ·refine .seq (.rgn [] (by simp only [go_sem, seval, ad_, ab_, List.length_append, List.take_of_length_le, ae_]; rfl) ?_ ?_)
  ·(first | trivial | (simp; done) | (simp [bt_, List.forall_mem_append, a8_]; done))
  refine .condB (by simp only [go_sem, seval, ad_, ab_, List.length_append, List.take_of_length_le, ae_]; rfl) (by simp only [go_sem, seval, ad_, ab_, List.length_append, List.take_of_length_le, ae_]) (fun h23 => ?_) (fun h23 => ?_)
  ·refine .seq (.rgn [bv_ [13] [39] (W (.inr (.inl (by simpa using h23))))] (by simp only [go_sem, seval, ad_, ab_, List.length_append, List.take_of_length_le, ae_, al_, ar_]; rfl) ?_ ?_)
   ·have q := h1 (.inr (.inl (by simpa using h23))); have q2 := (e4_ q 0 0); have q3 : src s.expr 0 0 ≠ [] := (fun e => by have := (cc_ q 0).1; rw [← gs_ s.expr 0 0, e] at this; simp at this); simp [bt_, a8_, q3, dt_]; omega
   refine .frz 40 (by simp only [go_sem, seval, ad_, ab_, List.length_append, List.take_of_length_le, ae_]; rfl) (by simp only [go_sem, seval, ad_, ab_, List.length_append, List.take_of_length_le, ae_]) (by simp only [go_sem, seval, ad_, ab_, List.length_append, List.take_of_length_le, ae_]; rfl) (by simp only [go_sem, seval, ad_, ab_, List.length_append, List.take_of_length_le, ae_]; rfl) ?_
   refine .ret ⟨.inr rfl, ?_⟩
   exact Out.plain (by simp only [Tryz.results90]; rfl) (by simp only [a1_, bc_, go_sem, seval, ad_, ab_, List.length_append, List.take_of_length_le, ae_] <;> (split <;> rfl)) (by simp only [ba_, go_sem, seval, ad_, ab_, List.length_append, List.take_of_length_le, ae_] <;> (have k : s.kind = 2 := (by simpa using h23); rw [if_pos (by omega), List.take_of_length_le (by simp [ad_]; omega)]; simp [cw_, k, wdR, peel, gb_])) (by simp only [go_sem, seval, ad_, ab_, List.length_append, List.take_of_length_le, ae_])
  ·refine .seq (.rgn [] (by simp only [go_sem, seval, ad_, ab_, List.length_append, List.take_of_length_le, ae_]; rfl) ?_ ?_)
   ·(first | trivial | (simp; done) | (simp [bt_, List.forall_mem_append, a8_]; done))
   refine .condB (by simp only [go_sem, seval, ad_, ab_, List.length_append, List.take_of_length_le, ae_]; rfl) (by simp only [go_sem, seval, ad_, ab_, List.length_append, List.take_of_length_le, ae_]) (fun h31 => ?_) (fun h31 => ?_)
   ·refine .seq (.rgn [bv_ [13] [47] (W (.inr (.inr (by simpa using h31))))] (by simp only [go_sem, seval, ad_, ab_, List.length_append, List.take_of_length_le, ae_, al_, ar_]; rfl) ?_ ?_)
    ·have q := h1 (.inr (.inr (by simpa using h31))); have q2 := (e4_ q 0 0); have q3 : src s.expr 0 0 ≠ [] := (fun e => by have := (cc_ q 0).1; rw [← gs_ s.expr 0 0, e] at this; simp at this); simp [bt_, a8_, q3, dt_]; omega
    refine .seq (.rgn [] (by simp only [go_sem, seval, ad_, ab_, List.length_append, List.take_of_length_le, ae_]; rfl) ?_ ?_)
    ·have q := h1 (.inr (.inr (by simpa using h31))); have q2 := (e4_ q 0 0); simp [bt_, a8_]; omega
    refine .seq (.rgn [bv_ [13] [56] (W3 (by simpa using h31))] (by simp only [go_sem, seval, ad_, ab_, List.length_append, List.take_of_length_le, ae_, al_, ar_]; rfl) ?_ ?_)
    ·have q := h1 (.inr (.inr (by simpa using h31))); have q2 := (e4_ q 0 0); have q4 := e4_ (h2 (by simpa using h31)) 0 (0 + cnt s.expr); simp at q4; simp [bt_, a8_]; omega
    refine .frz 57 (by simp only [go_sem, seval, ad_, ab_, List.length_append, List.take_of_length_le, ae_]; rfl) (by simp only [go_sem, seval, ad_, ab_, List.length_append, List.take_of_length_le, ae_]) (by simp only [go_sem, seval, ad_, ab_, List.length_append, List.take_of_length_le, ae_]; rfl) (by simp only [go_sem, seval, ad_, ab_, List.length_append, List.take_of_length_le, ae_]; rfl) ?_
    refine .ret ⟨.inr rfl, ?_⟩
    exact Out.plain (by simp only [Tryz.results90]; rfl) (by simp only [a1_, bc_, go_sem, seval, ad_, ab_, List.length_append, List.take_of_length_le, ae_] <;> (split <;> rfl)) (by simp only [ba_, go_sem, seval, ad_, ab_, List.length_append, List.take_of_length_le, ae_] <;> (have k : s.kind = 3 := (by simpa using h31); rw [if_pos (by omega), List.take_of_length_le (by simp [ad_]; omega)]; simp [cw_, k, wdR, peel, gb_, gj_])) (by simp only [go_sem, seval, ad_, ab_, List.length_append, List.take_of_length_le, ae_])
   ·refine .skip (.seq (.rgn [] (by simp only [go_sem, seval, ad_, ab_, List.length_append, List.take_of_length_le, ae_]; rfl) ?_ ?_))
    ·(first | trivial | (simp; done) | (simp [bt_, List.forall_mem_append, a8_]; done))
    refine .can (Can.slotLe 2 (.sl false []) (by simp only [go_sem, seval, ad_, ab_, List.length_append, List.take_of_length_le, ae_] <;> trivial) (by simp only [go_sem, seval, ad_, ab_, List.length_append, List.take_of_length_le, ae_] <;> rfl)) ?_
    refine .ret ⟨.inr rfl, ?_⟩
    exact Out.plain (by simp only [Tryz.results90]; rfl) (by simp only [a1_, bc_, go_sem, seval, ad_, ab_, List.length_append, List.take_of_length_le, ae_] <;> (split <;> rfl)) (by simp only [ba_, go_sem, seval, ad_, ab_, List.length_append, List.take_of_length_le, ae_] <;> (have k : s.kind = 0 := (by simp_all); simp [cw_, k, wdR])) (by simp only [go_sem, seval, ad_, ab_, List.length_append, List.take_of_length_le, ae_])
theorem pt_ {s : Sl} (h : ca_ s = true) : (br_ (sw' s)).length ≤ 1000 := by
 have := lu_ h
 have h2 := mo_ (fun s hs => (this.2 s hs).2)
 omega
theorem u0_ (s : Sl) (h : ca_ s = true) (hs : d7_ s = true) : ACall En 143 [.ag (sC s)] [] [.s (br_ (sw' s))] [] := by
 have h1 := pt_ h
 have h2 := (lu_ h).1
 have h3 := ir_ h
 have h4 : (cw_ s).length = (sw' s).length := by rw [← h3, List.length_map]
 refine ap_ (fn := Tryz.f143) [] Tryz.func143 rfl rfl (by simp) fun C => ?_
 rw [a0_]
 simp only [Tryz.ntmps143, List.length_cons, List.length_nil, Nat.reduceAdd, Nat.reduceSub, List.replicate_succ, List.replicate_zero, List.cons_append, List.nil_append, bq_]
 refine .seq (.rgn [] (by simp only [go_sem, seval, ae_, ab_, h3]; rfl) ?_ ?_)
 ·simp
 refine .seq (.rgn [a5_ (r6_ s h hs), a5_ (kf_ (cw_ s) (by omega)), a5_ (i6_ (sw' s) (by omega) (by omega))] (by simp only [go_sem, seval, ae_, ab_, h3]; rfl) ?_ ?_)
 ·simp
 refine .ret ⟨.inr rfl, ?_⟩
 exact Out.plain (by simp only [Tryz.results143]; rfl) (by simp only [a1_, bc_, go_sem, seval, ae_, ab_, h3] <;> (split <;> rfl)) (by simp only [ba_, go_sem, seval, ae_, ab_, h3] <;> (rfl)) (by simp only [go_sem, seval, ae_, ab_, h3])
theorem v0_ (s : Sl) (hs : d7_ s = true) : ACall En 89 [.ag (sC s)] [] [.b (sok s)] [] := by
 obtain ⟨s1, s1', s2, s3⟩ := eu_ hs
 refine ap_ (fn := Tryz.f89) [] Tryz.func89 rfl rfl (by simp) fun C => ?_
 rw [a0_]
 simp only [Tryz.ntmps89, List.length_cons, List.length_nil, Nat.reduceAdd, Nat.reduceSub, List.replicate_succ, List.replicate_zero, List.cons_append, List.nil_append, bq_]
 refine .seq (.rgn [] (by simp only [go_sem, seval, ae_]; rfl) ?_ ?_)
 ·(first | trivial | (simp; done) | exact hJ.symm)
 refine .seq (.rgn [] (by simp only [go_sem, seval, ae_]; rfl) ?_ ?_)
 ·(first | trivial | (simp; done) | exact hJ.symm)
 refine .seqJ (fun q : Bool => ⟨[.no, .pt 11 11 0 0, .no, .b q, .no, .no, .no, .no, .no, .no, .no, .no, .no, .no, .no, .no, .no, .no, .no, .no, .no, .no, .no, .no, .no, .no, .no, .no, .no, .no, .no, .no, .no, .no, .no, .no, .no, .no, .no, .no, .no, .no, .no, .no, .no, .no, .no, .no, .no, .no, .no, .no, .no, .no, .no, .no, .no, .no, .no, .no, .no, .no, .no, .no, .no, .no, .no, .no, .no, .no, .no, .no, .no, .no, .no, .no, .no, .no, .no, .no, .no, .no, .no, .no, .no, .no, .no, .no, .no, .no, .no, .no, .no], a6_ [(11, ⟨72, 11, [sC s]⟩)], us [11]⟩) (fun q : Bool => q = ca_ s) ?_ (fun q hJ => ?_)
 ·refine .seq (.rgn [] (by simp only [go_sem, seval, ae_]; rfl) ?_ ?_)
  ·(first | trivial | (simp; done) | exact hJ.symm)
  refine .block (.seq (.rgn [] (by simp only [go_sem, seval, ae_]; rfl) ?_ ?_))
  ·(first | trivial | (simp; done) | exact hJ.symm)
  refine .condB (by simp only [go_sem, seval, ae_]; rfl) (by simp only [go_sem, seval, ae_]) (fun h6 => ?_) (fun h6 => ?_)
  ·refine .rgn [a5_ (hp_ s.expr s2), a5_ (hp_ s.thn s3)] (by simp only [go_sem, seval, ae_]; rfl) ?_ ?_
   ·(first | trivial | (simp; done) | exact hJ.symm)
   refine Exists.intro (ca_ s) ⟨?_, ?_⟩
   ·rfl
   exact Can.weak (Weak.lit (by simp only [go_sem, seval, ae_, aw_, leV, at_, au_, V.inn, us, true_or, or_true] <;> ((unfold ca_; simp_all))) (by simp only [go_sem, seval, ae_, aw_, leV, at_, au_, V.inn, us, true_or, or_true]) (by simp only [go_sem, seval, ae_, aw_, leV, at_, au_, V.inn, us, true_or, or_true]))
  ·refine .seq (.rgn [] (by simp only [go_sem, seval, ae_]; rfl) ?_ ?_)
   ·(first | trivial | (simp; done) | exact hJ.symm)
   refine .condB (by simp only [go_sem, seval, ae_]; rfl) (by simp only [go_sem, seval, ae_]) (fun h26 => ?_) (fun h26 => ?_)
   ·refine .rgn [a5_ (sa_ s.name s1), a5_ (qc_ s.type), a5_ (hu_ s.expr s2), a5_ (hp_ s.thn s3)] (by simp only [go_sem, seval, ae_]; rfl) ?_ ?_
    ·(first | trivial | (simp; done) | exact hJ.symm)
    refine Exists.intro (ca_ s) ⟨?_, ?_⟩
    ·rfl
    exact Can.weak (Weak.lit (by simp only [go_sem, seval, ae_, aw_, leV, at_, au_, V.inn, us, true_or, or_true] <;> ((unfold ca_; simp_all))) (by simp only [go_sem, seval, ae_, aw_, leV, at_, au_, V.inn, us, true_or, or_true]) (by simp only [go_sem, seval, ae_, aw_, leV, at_, au_, V.inn, us, true_or, or_true]))
   ·refine .seq (.rgn [] (by simp only [go_sem, seval, ae_]; rfl) ?_ ?_)
    ·(first | trivial | (simp; done) | exact hJ.symm)
    refine .condB (by simp only [go_sem, seval, ae_]; rfl) (by simp only [go_sem, seval, ae_]) (fun h46 => ?_) (fun h46 => ?_)
    ·refine .rgn [a5_ (hu_ s.expr s2), a5_ (hp_ s.thn s3)] (by simp only [go_sem, seval, ae_]; rfl) ?_ ?_
     ·(first | trivial | (simp; done) | exact hJ.symm)
     refine Exists.intro (ca_ s) ⟨?_, ?_⟩
     ·rfl
     exact Can.weak (Weak.lit (by simp only [go_sem, seval, ae_, aw_, leV, at_, au_, V.inn, us, true_or, or_true] <;> ((unfold ca_; simp_all))) (by simp only [go_sem, seval, ae_, aw_, leV, at_, au_, V.inn, us, true_or, or_true]) (by simp only [go_sem, seval, ae_, aw_, leV, at_, au_, V.inn, us, true_or, or_true]))
    ·refine .seq (.rgn [] (by simp only [go_sem, seval, ae_]; rfl) ?_ ?_)
     ·(first | trivial | (simp; done) | exact hJ.symm)
     refine .condB (by simp only [go_sem, seval, ae_]; rfl) (by simp only [go_sem, seval, ae_]) (fun h66 => ?_) (fun h66 => ?_)
     ·refine .rgn [a5_ (hu_ s.expr s2), a5_ (hu_ s.thn s3)] (by simp only [go_sem, seval, ae_]; rfl) ?_ ?_
      ·(first | trivial | (simp; done) | exact hJ.symm)
      refine Exists.intro (ca_ s) ⟨?_, ?_⟩
      ·rfl
      exact Can.weak (Weak.lit (by simp only [go_sem, seval, ae_, aw_, leV, at_, au_, V.inn, us, true_or, or_true] <;> ((unfold ca_; simp_all))) (by simp only [go_sem, seval, ae_, aw_, leV, at_, au_, V.inn, us, true_or, or_true]) (by simp only [go_sem, seval, ae_, aw_, leV, at_, au_, V.inn, us, true_or, or_true]))
     ·refine .skip ?_
      refine Exists.intro (ca_ s) ⟨?_, ?_⟩
      ·rfl
      exact Can.weak (Weak.lit (by simp only [go_sem, seval, ae_, aw_, leV, at_, au_, V.inn, us, true_or, or_true] <;> ((unfold ca_; simp_all))) (by simp only [go_sem, seval, ae_, aw_, leV, at_, au_, V.inn, us, true_or, or_true]) (by simp only [go_sem, seval, ae_, aw_, leV, at_, au_, V.inn, us, true_or, or_true]))
 cases q
 ·refine .seq (.rgn [dg_ (ca_ s = true) (fun h => u0_ s h hs)] (by simp only [go_sem, seval, ae_]; rfl) ?_ ?_)
  ·(first | trivial | (simp; done) | exact hJ.symm)
  refine .ret ⟨.inr rfl, ?_⟩
  exact Out.plain (by simp only [Tryz.results89]; rfl) (by simp only [a1_, bc_, go_sem, seval, ae_] <;> (split <;> rfl)) (by simp only [ba_, go_sem, seval, ae_] <;> (rw [sok, ← hJ]; first | rfl | (rw [Bool.true_and, f5_]; rfl))) (by simp only [go_sem, seval, ae_])
 ·refine .seq (.rgn [dg_ (ca_ s = true) (fun h => u0_ s h hs)] (by simp only [go_sem, seval, ae_]; rfl) ?_ ?_)
  ·(first | trivial | (simp; done) | exact hJ.symm)
  refine .ret ⟨.inr rfl, ?_⟩
  exact Out.plain (by simp only [Tryz.results89]; rfl) (by simp only [a1_, bc_, go_sem, seval, ae_] <;> (split <;> rfl)) (by simp only [ba_, go_sem, seval, ae_] <;> (rw [sok, ← hJ]; first | rfl | (rw [Bool.true_and, f5_]; rfl))) (by simp only [go_sem, seval, ae_])
theorem df_ {s : Sl} (h : sok s = true) : ca_ s = true := by simp only [sok, Bool.and_eq_true] at h; exact h.1
theorem jy_ (s : Sl) (h : ca_ s = true) (hs : d7_ s = true) : ACall En 103 [.ag (sC s)] [] [.sl false (b1_ (sw' s))] [] := by
 obtain ⟨h0, h1, h2⟩ := eq_ h
 obtain ⟨s1, s1', s2, s3⟩ := eu_ hs
 have W : s.kind = 1 ∨ s.kind = 2 ∨ s.kind = 3 → _ := fun hk => hj_ 5 s.expr 1 (bp_ (h1 hk)) s2 (f1_ (h1 hk)) (by decide) (by decide)
 have W3 : s.kind = 3 → _ := fun hk => hj_ 5 s.thn 1 (bp_ (h2 hk)) s3 (f1_ (h2 hk)) (by decide) (by decide)
 refine ap_ (fn := Tryz.f103) [] Tryz.func103 rfl rfl (by simp) fun C => ?_
 rw [a0_]
 simp only [Tryz.ntmps103, List.length_cons, List.length_nil, Nat.reduceAdd, Nat.reduceSub, List.replicate_succ, List.replicate_zero, List.cons_append, List.nil_append, bq_]
 refine .seq (.rgn [] (by simp only [go_sem, seval, ac_, aa_, List.length_append, List.take_of_length_le, ae_]; rfl) ?_ ?_)
 ·(first | trivial | (simp; done) | (simp [bx_]; done))
 refine .seq (.seq (.rgn [] (by simp only [go_sem, seval, ac_, aa_, List.length_append, List.take_of_length_le, ae_]; rfl) ?_ ?_))
 ·(first | trivial | (simp; done) | (simp [bx_]; done))
 refine .block (.seq (.rgn [] (by simp only [go_sem, seval, ac_, aa_, List.length_append, List.take_of_length_le, ae_]; rfl) ?_ ?_))
 ·(first | trivial | (simp; done) | (simp [bx_]; done))
 refine .condB (by simp only [go_sem, seval, ac_, aa_, List.length_append, List.take_of_length_le, ae_]; rfl) (by simp only [go_sem, seval, ac_, aa_, List.length_append, List.take_of_length_le, ae_]) (fun h6 => ?_) (fun h6 => ?_)
 ·refine .seq (.rgnD [a5_ (W (.inl (by simpa using h6)))] enM (by simp only [go_sem, seval, ac_, aa_, List.length_append, List.take_of_length_le, ae_]; rfl) (by rfl) ?_ ?_)
  ·have q := h1 (.inl (by simpa using h6)); have q2 := (cc_ q 1); have q3 := sl_ q 1; simp [bt_, bx_, q3, hn_]; omega
  refine .frz 26 (by simp only [go_sem, seval, ac_, aa_, List.length_append, List.take_of_length_le, ae_]; rfl) (by simp only [go_sem, seval, ac_, aa_, List.length_append, List.take_of_length_le, ae_]) (by simp only [go_sem, seval, ac_, aa_, List.length_append, List.take_of_length_le, ae_]; rfl) (by simp only [go_sem, seval, ac_, aa_, List.length_append, List.take_of_length_le, ae_]; rfl) ?_
  refine .ret ⟨.inr rfl, ?_⟩
  exact Out.plain (by simp only [Tryz.results103]; rfl) (by simp only [a1_, bc_, go_sem, seval, ac_, aa_, List.length_append, List.take_of_length_le, ae_] <;> (split <;> rfl)) (by simp only [ba_, go_sem, seval, ac_, aa_, List.length_append, List.take_of_length_le, ae_] <;> (have k : s.kind = 1 := (by simpa using h6); rw [if_pos (by omega), List.take_of_length_le (by simp [ac_]; omega)]; simp [sw', k, b1_, peel, wEq, tj_, hx_])) (by simp only [go_sem, seval, ac_, aa_, List.length_append, List.take_of_length_le, ae_])
 ·refine .seq (.rgn [] (by simp only [go_sem, seval, ac_, aa_, List.length_append, List.take_of_length_le, ae_]; rfl) ?_ ?_)
  ·(first | trivial | (simp; done) | (simp [bx_]; done))
  refine .condB (by simp only [go_sem, seval, ac_, aa_, List.length_append, List.take_of_length_le, ae_]; rfl) (by simp only [go_sem, seval, ac_, aa_, List.length_append, List.take_of_length_le, ae_]) (fun h17 => ?_) (fun h17 => ?_)
  ·refine .seq (.rgn [a5_ (W (.inr (.inl (by simpa using h17))))] (by simp only [go_sem, seval, ac_, aa_, List.length_append, List.take_of_length_le, ae_]; rfl) ?_ ?_)
   ·have q := h1 (.inr (.inl (by simpa using h17))); have q2 := (cc_ q 1); have q3 := sl_ q 1; simp [bt_, bx_, q3, hn_]; omega
   refine .frz 33 (by simp only [go_sem, seval, ac_, aa_, List.length_append, List.take_of_length_le, ae_]; rfl) (by simp only [go_sem, seval, ac_, aa_, List.length_append, List.take_of_length_le, ae_]) (by simp only [go_sem, seval, ac_, aa_, List.length_append, List.take_of_length_le, ae_]; rfl) (by simp only [go_sem, seval, ac_, aa_, List.length_append, List.take_of_length_le, ae_]; rfl) ?_
   refine .ret ⟨.inr rfl, ?_⟩
   exact Out.plain (by simp only [Tryz.results103]; rfl) (by simp only [a1_, bc_, go_sem, seval, ac_, aa_, List.length_append, List.take_of_length_le, ae_] <;> (split <;> rfl)) (by simp only [ba_, go_sem, seval, ac_, aa_, List.length_append, List.take_of_length_le, ae_] <;> (have k : s.kind = 2 := (by simpa using h17); rw [if_pos (by omega), List.take_of_length_le (by simp [ac_]; omega)]; simp [sw', k, b1_, peel, gb_])) (by simp only [go_sem, seval, ac_, aa_, List.length_append, List.take_of_length_le, ae_])
  ·refine .seq (.rgn [] (by simp only [go_sem, seval, ac_, aa_, List.length_append, List.take_of_length_le, ae_]; rfl) ?_ ?_)
   ·(first | trivial | (simp; done) | (simp [bx_]; done))
   refine .condB (by simp only [go_sem, seval, ac_, aa_, List.length_append, List.take_of_length_le, ae_]; rfl) (by simp only [go_sem, seval, ac_, aa_, List.length_append, List.take_of_length_le, ae_]) (fun h24 => ?_) (fun h24 => ?_)
   ·refine .seq (.rgn [a5_ (W (.inr (.inr (by simpa using h24))))] (by simp only [go_sem, seval, ac_, aa_, List.length_append, List.take_of_length_le, ae_]; rfl) ?_ ?_)
    ·have q := h1 (.inr (.inr (by simpa using h24))); have q2 := (cc_ q 1); have q3 := sl_ q 1; simp [bt_, bx_, q3, hn_]; omega
    refine .seq (.rgnD [a5_ (W3 (by simpa using h24))] enM (by simp only [go_sem, seval, ac_, aa_, List.length_append, List.take_of_length_le, ae_]; rfl) (by rfl) ?_ ?_)
    ·have q := h1 (.inr (.inr (by simpa using h24))); have q2 := (cc_ q 1); have q4 := cc_ (h2 (by simpa using h24)) 1; simp [bt_, bx_]; omega
    refine .frz 47 (by simp only [go_sem, seval, ac_, aa_, List.length_append, List.take_of_length_le, ae_]; rfl) (by simp only [go_sem, seval, ac_, aa_, List.length_append, List.take_of_length_le, ae_]) (by simp only [go_sem, seval, ac_, aa_, List.length_append, List.take_of_length_le, ae_]; rfl) (by simp only [go_sem, seval, ac_, aa_, List.length_append, List.take_of_length_le, ae_]; rfl) ?_
    refine .ret ⟨.inr rfl, ?_⟩
    exact Out.plain (by simp only [Tryz.results103]; rfl) (by simp only [a1_, bc_, go_sem, seval, ac_, aa_, List.length_append, List.take_of_length_le, ae_] <;> (split <;> rfl)) (by simp only [ba_, go_sem, seval, ac_, aa_, List.length_append, List.take_of_length_le, ae_] <;> (have k : s.kind = 3 := (by simpa using h24); rw [if_pos (by omega), List.take_of_length_le (by simp [ac_]; omega)]; simp [sw', k, b1_, peel, gb_, gj_])) (by simp only [go_sem, seval, ac_, aa_, List.length_append, List.take_of_length_le, ae_])
   ·refine .skip (.seq (.rgn [] (by simp only [go_sem, seval, ac_, aa_, List.length_append, List.take_of_length_le, ae_]; rfl) ?_ ?_))
    ·(first | trivial | (simp; done) | (simp [bx_]; done))
    refine .can (Can.slotLe 2 (.sl false []) (by simp only [go_sem, seval, ac_, aa_, List.length_append, List.take_of_length_le, ae_] <;> trivial) (by simp only [go_sem, seval, ac_, aa_, List.length_append, List.take_of_length_le, ae_] <;> rfl)) ?_
    refine .ret ⟨.inr rfl, ?_⟩
    exact Out.plain (by simp only [Tryz.results103]; rfl) (by simp only [a1_, bc_, go_sem, seval, ac_, aa_, List.length_append, List.take_of_length_le, ae_] <;> (split <;> rfl)) (by simp only [ba_, go_sem, seval, ac_, aa_, List.length_append, List.take_of_length_le, ae_] <;> (have k : s.kind = 0 := (by simp_all); simp [sw', k, b1_])) (by simp only [go_sem, seval, ac_, aa_, List.length_append, List.take_of_length_le, ae_])
theorem on_ (s : Sl) (hs : d7_ s = true) : ACall En 49 [.ag (sC s)] [] [.b (sok s)] [] := by
 obtain ⟨s1, s1', s2, s3⟩ := eu_ hs
 refine ap_ (fn := Tryz.f49) [] Tryz.func49 rfl rfl (by simp) fun C => ?_
 rw [a0_]
 simp only [Tryz.ntmps49, List.length_cons, List.length_nil, Nat.reduceAdd, Nat.reduceSub, List.replicate_succ, List.replicate_zero, List.cons_append, List.nil_append, bq_]
 refine .seq (.rgn [] (by simp only [go_sem, seval, ae_, aa_]; rfl) ?_ ?_)
 ·(first | trivial | (simp; done) | exact hJ.symm | exact ⟨hJ.symm, hJ.symm⟩)
 refine .seq (.rgn [] (by simp only [go_sem, seval, ae_, aa_]; rfl) ?_ ?_)
 ·(first | trivial | (simp; done) | exact hJ.symm | exact ⟨hJ.symm, hJ.symm⟩)
 refine .seqJ (fun q : Bool => ⟨[.no, .pt 11 11 0 0, .no, .b q, .no, .no, .no, .no, .no, .no, .no, .no, .no, .no, .no, .no, .no, .no, .no, .no, .no, .no, .no, .no, .no, .no, .no, .no, .no, .no, .no, .no, .no, .no, .no, .no, .no, .no, .no, .no, .no, .no, .no, .no, .no, .no, .no, .no, .no, .no, .no, .no, .no, .no, .no, .no, .no, .no, .no, .no, .no, .no, .no, .no, .no, .no, .no, .no, .no, .no, .no, .no, .no, .no, .no, .no, .no, .no, .no, .no, .no, .no, .no, .no, .no, .no, .no, .no, .no, .no, .no, .no, .no, .no], a6_ [(11, ⟨72, 11, [sC s]⟩)], us [11]⟩) (fun q : Bool => q = ca_ s) ?_ (fun q hJ => ?_)
 ·refine .seq (.rgn [] (by simp only [go_sem, seval, ae_, aa_]; rfl) ?_ ?_)
  ·(first | trivial | (simp; done) | exact hJ.symm | exact ⟨hJ.symm, hJ.symm⟩)
  refine .block (.seq (.rgn [] (by simp only [go_sem, seval, ae_, aa_]; rfl) ?_ ?_))
  ·(first | trivial | (simp; done) | exact hJ.symm | exact ⟨hJ.symm, hJ.symm⟩)
  refine .condB (by simp only [go_sem, seval, ae_, aa_]; rfl) (by simp only [go_sem, seval, ae_, aa_]) (fun h6 => ?_) (fun h6 => ?_)
  ·refine .rgn [a5_ (il_ s.expr s2), a5_ (il_ s.thn s3)] (by simp only [go_sem, seval, ae_, aa_]; rfl) ?_ ?_
   ·(first | trivial | (simp; done) | exact hJ.symm | exact ⟨hJ.symm, hJ.symm⟩)
   refine Exists.intro (ca_ s) ⟨?_, ?_⟩
   ·rfl
   exact Can.weak (Weak.lit (by simp only [go_sem, seval, ae_, aa_, aw_, leV, at_, au_, V.inn, us, true_or, or_true] <;> ((unfold ca_; simp_all))) (by simp only [go_sem, seval, ae_, aa_, aw_, leV, at_, au_, V.inn, us, true_or, or_true]) (by simp only [go_sem, seval, ae_, aa_, aw_, leV, at_, au_, V.inn, us, true_or, or_true]))
  ·refine .seq (.rgn [] (by simp only [go_sem, seval, ae_, aa_]; rfl) ?_ ?_)
   ·(first | trivial | (simp; done) | exact hJ.symm | exact ⟨hJ.symm, hJ.symm⟩)
   refine .condB (by simp only [go_sem, seval, ae_, aa_]; rfl) (by simp only [go_sem, seval, ae_, aa_]) (fun h26 => ?_) (fun h26 => ?_)
   ·refine .rgn [a5_ (r3_ s.name s1), a5_ (mw_ s.type), a5_ (f7_ s.expr s2), a5_ (il_ s.thn s3)] (by simp only [go_sem, seval, ae_, aa_]; rfl) ?_ ?_
    ·(first | trivial | (simp; done) | exact hJ.symm | exact ⟨hJ.symm, hJ.symm⟩)
    refine Exists.intro (ca_ s) ⟨?_, ?_⟩
    ·rfl
    exact Can.weak (Weak.lit (by simp only [go_sem, seval, ae_, aa_, aw_, leV, at_, au_, V.inn, us, true_or, or_true] <;> ((unfold ca_; simp_all))) (by simp only [go_sem, seval, ae_, aa_, aw_, leV, at_, au_, V.inn, us, true_or, or_true]) (by simp only [go_sem, seval, ae_, aa_, aw_, leV, at_, au_, V.inn, us, true_or, or_true]))
   ·refine .seq (.rgn [] (by simp only [go_sem, seval, ae_, aa_]; rfl) ?_ ?_)
    ·(first | trivial | (simp; done) | exact hJ.symm | exact ⟨hJ.symm, hJ.symm⟩)
    refine .condB (by simp only [go_sem, seval, ae_, aa_]; rfl) (by simp only [go_sem, seval, ae_, aa_]) (fun h46 => ?_) (fun h46 => ?_)
    ·refine .rgn [a5_ (f7_ s.expr s2), a5_ (il_ s.thn s3)] (by simp only [go_sem, seval, ae_, aa_]; rfl) ?_ ?_
     ·(first | trivial | (simp; done) | exact hJ.symm | exact ⟨hJ.symm, hJ.symm⟩)
     refine Exists.intro (ca_ s) ⟨?_, ?_⟩
     ·rfl
     exact Can.weak (Weak.lit (by simp only [go_sem, seval, ae_, aa_, aw_, leV, at_, au_, V.inn, us, true_or, or_true] <;> ((unfold ca_; simp_all))) (by simp only [go_sem, seval, ae_, aa_, aw_, leV, at_, au_, V.inn, us, true_or, or_true]) (by simp only [go_sem, seval, ae_, aa_, aw_, leV, at_, au_, V.inn, us, true_or, or_true]))
    ·refine .seq (.rgn [] (by simp only [go_sem, seval, ae_, aa_]; rfl) ?_ ?_)
     ·(first | trivial | (simp; done) | exact hJ.symm | exact ⟨hJ.symm, hJ.symm⟩)
     refine .condB (by simp only [go_sem, seval, ae_, aa_]; rfl) (by simp only [go_sem, seval, ae_, aa_]) (fun h66 => ?_) (fun h66 => ?_)
     ·refine .rgn [a5_ (f7_ s.expr s2), a5_ (f7_ s.thn s3)] (by simp only [go_sem, seval, ae_, aa_]; rfl) ?_ ?_
      ·(first | trivial | (simp; done) | exact hJ.symm | exact ⟨hJ.symm, hJ.symm⟩)
      refine Exists.intro (ca_ s) ⟨?_, ?_⟩
      ·rfl
      exact Can.weak (Weak.lit (by simp only [go_sem, seval, ae_, aa_, aw_, leV, at_, au_, V.inn, us, true_or, or_true] <;> ((unfold ca_; simp_all))) (by simp only [go_sem, seval, ae_, aa_, aw_, leV, at_, au_, V.inn, us, true_or, or_true]) (by simp only [go_sem, seval, ae_, aa_, aw_, leV, at_, au_, V.inn, us, true_or, or_true]))
     ·refine .skip ?_
      refine Exists.intro (ca_ s) ⟨?_, ?_⟩
      ·rfl
      exact Can.weak (Weak.lit (by simp only [go_sem, seval, ae_, aa_, aw_, leV, at_, au_, V.inn, us, true_or, or_true] <;> ((unfold ca_; simp_all))) (by simp only [go_sem, seval, ae_, aa_, aw_, leV, at_, au_, V.inn, us, true_or, or_true]) (by simp only [go_sem, seval, ae_, aa_, aw_, leV, at_, au_, V.inn, us, true_or, or_true]))
 cases q
 ·refine .seq (.rgn [dg_ (ca_ s = true) (fun h => jy_ s h hs), dg_ (ca_ s = true) (fun h => h7_ (sw' s) (by have := (lu_ h).1; omega) (by have := pt_ h; omega))] (by simp only [go_sem, seval, ae_, aa_]; rfl) ?_ ?_)
  ·(first | trivial | (simp; done) | exact hJ.symm | exact ⟨hJ.symm, hJ.symm⟩)
  refine .ret ⟨.inr rfl, ?_⟩
  exact Out.plain (by simp only [Tryz.results49]; rfl) (by simp only [a1_, bc_, go_sem, seval, ae_, aa_] <;> (split <;> rfl)) (by simp only [ba_, go_sem, seval, ae_, aa_] <;> (rw [sok, ← hJ]; first | rfl | (rw [Bool.true_and, f5_]; rfl))) (by simp only [go_sem, seval, ae_, aa_])
 ·refine .seq (.rgn [dg_ (ca_ s = true) (fun h => jy_ s h hs), dg_ (ca_ s = true) (fun h => h7_ (sw' s) (by have := (lu_ h).1; omega) (by have := pt_ h; omega))] (by simp only [go_sem, seval, ae_, aa_]; rfl) ?_ ?_)
  ·(first | trivial | (simp; done) | exact hJ.symm | exact ⟨hJ.symm, hJ.symm⟩)
  refine .ret ⟨.inr rfl, ?_⟩
  exact Out.plain (by simp only [Tryz.results49]; rfl) (by simp only [a1_, bc_, go_sem, seval, ae_, aa_] <;> (split <;> rfl)) (by simp only [ba_, go_sem, seval, ae_, aa_] <;> (rw [sok, ← hJ]; first | rfl | (rw [Bool.true_and, f5_]; rfl))) (by simp only [go_sem, seval, ae_, aa_])
end
section
set_option maxRecDepth 100000
set_option maxHeartbeats 4000000
theorem uz_ {s : Sl} (h : ca_ s = true) : wf s.expr = true ∧ wf s.thn = true := by
 unfold ca_ at h
 by_cases k0 : s.kind = 0
 ·simp [k0, ct_] at h; rw [h.1.2, h.2]; exact ⟨kh_, kh_⟩
 by_cases k1 : s.kind = 1
 ·simp [k1, ct_] at h; rw [h.2]; exact ⟨gv_ h.1.2, kh_⟩
 by_cases k2 : s.kind = 2
 ·simp [k2, ct_] at h; rw [h.2]; exact ⟨gv_ h.1.2, kh_⟩
 by_cases k3 : s.kind = 3
 ·simp [k3] at h; exact ⟨gv_ h.1.2, gv_ h.2⟩
 ·simp [k0, k1, k2, k3] at h
theorem xo_ (s : Sl) (hs : d7_ s = true) (w1 : wf s.expr = true) (w2 : wf s.thn = true) : ACall En 92 [.ag (sC s)] [] [.ag (bC (bof s))] [] := by
 obtain ⟨s1, s2, s3, s4⟩ := eu_ hs
 refine ap_ (fn := Tryz.f92) [] Tryz.func92 rfl rfl (by simp) fun C => ?_
 rw [a0_]
 simp only [Tryz.ntmps92, List.length_cons, List.length_nil, Nat.reduceAdd, Nat.reduceSub, List.replicate_succ, List.replicate_zero, List.cons_append, List.nil_append, bq_]
 refine .seq (.rgn [] (by simp only [go_sem, seval, ae_, bd_]; rfl) ?_ ?_)
 ·first | trivial | simp
 refine .seq (.rgn [] (by simp only [go_sem, seval, ae_, bd_]; rfl) ?_ ?_)
 ·first | trivial | simp
 refine .seq (.seq (.rgn [] (by simp only [go_sem, seval, ae_, bd_]; rfl) ?_ ?_))
 ·first | trivial | simp
 refine .condB (by simp only [go_sem, seval, ae_, bd_]; rfl) (by simp only [go_sem, seval, ae_, bd_]) (fun h11 => ?_) (fun h11 => ?_)
 ·refine .rgn [a5_ (ow_ s.expr w1 s3)] (by simp only [go_sem, seval, ae_, bd_]; rfl) ?_ ?_
  ·first | trivial | simp
  refine .seq (.seq (.rgn [] (by simp only [go_sem, seval, ae_, bd_]; rfl) ?_ ?_))
  ·first | trivial | simp
  refine .condB (by simp only [go_sem, seval, ae_, bd_]; rfl) (by simp only [go_sem, seval, ae_, bd_]) (fun h18 => ?_) (fun h18 => ?_)
  ·refine .rgn [a5_ (ow_ s.thn w2 s4)] (by simp only [go_sem, seval, ae_, bd_]; rfl) ?_ ?_
   ·first | trivial | simp
   refine .seq (.rgn [] (by simp only [go_sem, seval, ae_, bd_]; rfl) ?_ ?_)
   ·first | trivial | simp
   refine .ret ⟨.inr rfl, ?_⟩
   exact Out.plainL (by simp only [Tryz.results92]; rfl) (by simp only [a1_, bc_, go_sem, seval, ae_, bd_] <;> (split <;> rfl)) (by simp only [ba_, go_sem, seval, ae_, bd_] <;> (simp at h11 h18; simp [bof, h11, h18, bd_, px_, o3_, ot_, fc_, gm_, ler, bo_])) (by simp only [go_sem, seval, ae_, bd_])
  ·refine .skip (.seq (.rgn [] (by simp only [go_sem, seval, ae_, bd_]; rfl) ?_ ?_))
   ·first | trivial | simp
   refine .ret ⟨.inr rfl, ?_⟩
   exact Out.plainL (by simp only [Tryz.results92]; rfl) (by simp only [a1_, bc_, go_sem, seval, ae_, bd_] <;> (split <;> rfl)) (by simp only [ba_, go_sem, seval, ae_, bd_] <;> (simp at h11 h18; simp [bof, h11, h18, bd_, px_, o3_, ot_, fc_, gm_, ler, bo_])) (by simp only [go_sem, seval, ae_, bd_])
 ·refine .skip (.seq (.seq (.rgn [] (by simp only [go_sem, seval, ae_, bd_]; rfl) ?_ ?_)))
  ·first | trivial | simp
  refine .condB (by simp only [go_sem, seval, ae_, bd_]; rfl) (by simp only [go_sem, seval, ae_, bd_]) (fun h18 => ?_) (fun h18 => ?_)
  ·refine .rgn [a5_ (ow_ s.thn w2 s4)] (by simp only [go_sem, seval, ae_, bd_]; rfl) ?_ ?_
   ·first | trivial | simp
   refine .seq (.rgn [] (by simp only [go_sem, seval, ae_, bd_]; rfl) ?_ ?_)
   ·first | trivial | simp
   refine .ret ⟨.inr rfl, ?_⟩
   exact Out.plainL (by simp only [Tryz.results92]; rfl) (by simp only [a1_, bc_, go_sem, seval, ae_, bd_] <;> (split <;> rfl)) (by simp only [ba_, go_sem, seval, ae_, bd_] <;> (simp at h11 h18; omega)) (by simp only [go_sem, seval, ae_, bd_])
  ·refine .skip (.seq (.rgn [] (by simp only [go_sem, seval, ae_, bd_]; rfl) ?_ ?_))
   ·first | trivial | simp
   refine .ret ⟨.inr rfl, ?_⟩
   exact Out.plainL (by simp only [Tryz.results92]; rfl) (by simp only [a1_, bc_, go_sem, seval, ae_, bd_] <;> (split <;> rfl)) (by simp only [ba_, go_sem, seval, ae_, bd_] <;> (simp at h11 h18; simp [bof, h11, h18, bd_, px_, o3_, ot_, fc_, gm_, ler, bo_])) (by simp only [go_sem, seval, ae_, bd_])
end
section
set_option maxRecDepth 100000
set_option maxHeartbeats 4000000
def gx_ (b : Str) (q k : Int) (x : Sl) : Sl × Int :=
 if k = 0 then ({ x with kind := q7_ b q [0, 4, 1, 2, 3] }, q + 1)
 else if k = 1 then ({ x with name := ofI b q [[120], [108, 101, 116], [88], []] }, q + 1)
 else if k = 2 then ({ x with type := ofI b q [[105, 110, 116], [116, 101, 120, 116], []] }, q + 1)
 else if k = 3 then ({ x with thn := (ew_ b q).1 }, (ew_ b q).2)
 else (x, q)
def dl5 (b : Str) (p : Int) : Sl × Int := gx_ b ((b6_ b p).2 + 1) (b9_ b (b6_ b p).2 40) (b6_ b p).1
theorem agt_ (b : Str) {p : Int} (hp : 0 ≤ p) (hp2 : p < 100000000) : p ≤ (dl5 b p).2 ∧ (dl5 b p).2 ≤ p + 700 ∧ d7_ (dl5 b p).1 = true := by
 obtain ⟨h1, h2, h3, _⟩ := lr_ b hp hp2
 obtain ⟨s1, s2, s3, s4⟩ := eu_ h3
 have hB := aaj_ b (p := (b6_ b p).2 + 1) (by omega) (by omega)
 unfold dl5 gx_
 split
 ·exact ⟨by dsimp only; omega, by dsimp only; omega, h3⟩
 ·split
  ·have l1 := o7_ (b := b) (p := (b6_ b p).2 + 1) (l := [[120], [108, 101, 116], [88], []]) (by decide) (by omega) (by omega) 5 (by decide)
   refine ⟨by dsimp only; omega, by dsimp only; omega, ?_⟩
   simp only [d7_, s2, s3, s4, decide_true, Bool.and_true, decide_eq_true_eq]; omega
  ·split
   ·have l1 := o7_ (b := b) (p := (b6_ b p).2 + 1) (l := [[105, 110, 116], [116, 101, 120, 116], []]) (by decide) (by omega) (by omega) 5 (by decide)
    refine ⟨by dsimp only; omega, by dsimp only; omega, ?_⟩
    simp only [d7_, s1, s3, s4, decide_true, Bool.and_true, Bool.true_and, decide_eq_true_eq]; omega
   ·split
    ·refine ⟨by dsimp only; omega, by dsimp only; omega, ?_⟩
     simp only [d7_, s1, s2, s3, hB.2.2, decide_true, Bool.and_true]
    ·exact ⟨by dsimp only; omega, by dsimp only; omega, h3⟩
theorem aaf_ (b : Str) (p : Int) (hb : b.length ≤ 2000) (hp : 0 ≤ p) (hp2 : p < 100000000) : ACall En 85 [.pt 0 2 0 0] [rdB b p] [.ag (sC (dl5 b p).1)] [rdB b (dl5 b p).2] := by
 obtain ⟨h1, h2, h3, w1, w2, _⟩ := lr_ b hp hp2
 refine ap_ (fn := Tryz.f85) [0] Tryz.func85 rfl rfl (by simp) fun C => ?_
 rw [a0_]
 simp only [Tryz.ntmps85, List.length_cons, List.length_nil, Nat.reduceAdd, Nat.reduceSub, List.replicate_succ, List.replicate_zero, List.cons_append, List.nil_append, bq_]
 refine .seq (.rgn [] (by simp only [go_sem, seval, al_, ar_, av_, aq_, ak_, ah_, ae_]; rfl) ?_ ?_)
 ·first | trivial | simp
 refine .seq (.rgn [bv_ [0] [] (rs_ b p hb hp hp2)] (by simp only [go_sem, seval, al_, ar_, av_, aq_, ak_, ah_, ae_]; rfl) ?_ ?_)
 ·first | trivial | simp
 refine .seq (.seq (.rgn [bv_ [0] [] (ec_ b (b6_ b p).2 40 hb (by omega) (by omega))] (by simp only [go_sem, seval, al_, ar_, av_, aq_, ak_, ah_, ae_]; rfl) ?_ ?_))
 ·first | trivial | simp
 refine .block (.seq (.rgn [] (by simp only [go_sem, seval, al_, ar_, av_, aq_, ak_, ah_, ae_]; rfl) ?_ ?_))
 ·first | trivial | simp
 refine .condB (by simp only [go_sem, seval, al_, ar_, av_, aq_, ak_, ah_, ae_]; rfl) (by simp only [go_sem, seval, al_, ar_, av_, aq_, ak_, ah_, ae_]) (fun h8 => ?_) (fun h8 => ?_)
 ·refine .rgn [bv_ [0] [] (ok_ b ((b6_ b p).2 + 1) [0, 4, 1, 2, 3] (by decide) hb (by omega) (by omega))] (by simp only [go_sem, seval, al_, ar_, av_, aq_, ak_, ah_, ae_]; rfl) ?_ ?_
  ·first | trivial | simp
  refine .seq (.rgn [] (by simp only [go_sem, seval, al_, ar_, av_, aq_, ak_, ah_, ae_]; rfl) ?_ ?_)
  ·first | trivial | simp
  refine .ret ⟨.inr rfl, ?_⟩
  exact Out.mem' (by simp only [Tryz.results85]; rfl) (by simp only [a1_, bc_, go_sem, seval, al_, ar_, av_, aq_, ak_, ah_, ae_]) (by simp only [ba_, rns, rn, go_sem, seval, al_, ar_, av_, aq_, ak_, ah_, ae_] <;> (simp at h8; simp [dl5, gx_, h8])) (by simp) rfl (by decide) (by simp only [go_sem, seval, al_, ar_, av_, aq_, ak_, ah_, ae_]) (by simp only [ar_, go_sem, seval, al_, ar_, av_, aq_, ak_, ah_, ae_]) (by simp only [al_, go_sem, seval, al_, ar_, av_, aq_, ak_, ah_, ae_] <;> (simp at h8; simp [dl5, gx_, h8]))
 ·refine .seq (.rgn [] (by simp only [go_sem, seval, al_, ar_, av_, aq_, ak_, ah_, ae_]; rfl) ?_ ?_)
  ·first | trivial | simp
  refine .condB (by simp only [go_sem, seval, al_, ar_, av_, aq_, ak_, ah_, ae_]; rfl) (by simp only [go_sem, seval, al_, ar_, av_, aq_, ak_, ah_, ae_]) (fun h14 => ?_) (fun h14 => ?_)
  ·refine .rgn [bv_ [0] [] (pa_ b ((b6_ b p).2 + 1) [[120], [108, 101, 116], [88], []] (by decide) hb (by omega) (by omega))] (by simp only [go_sem, seval, al_, ar_, av_, aq_, ak_, ah_, ae_]; rfl) ?_ ?_
   ·first | trivial | simp
   refine .seq (.rgn [] (by simp only [go_sem, seval, al_, ar_, av_, aq_, ak_, ah_, ae_]; rfl) ?_ ?_)
   ·first | trivial | simp
   refine .ret ⟨.inr rfl, ?_⟩
   exact Out.mem' (by simp only [Tryz.results85]; rfl) (by simp only [a1_, bc_, go_sem, seval, al_, ar_, av_, aq_, ak_, ah_, ae_]) (by simp only [ba_, rns, rn, go_sem, seval, al_, ar_, av_, aq_, ak_, ah_, ae_] <;> (simp at h8 h14; simp [dl5, gx_, h8, h14])) (by simp) rfl (by decide) (by simp only [go_sem, seval, al_, ar_, av_, aq_, ak_, ah_, ae_]) (by simp only [ar_, go_sem, seval, al_, ar_, av_, aq_, ak_, ah_, ae_]) (by simp only [al_, go_sem, seval, al_, ar_, av_, aq_, ak_, ah_, ae_] <;> (simp at h8 h14; simp [dl5, gx_, h8, h14]))
  ·refine .seq (.rgn [] (by simp only [go_sem, seval, al_, ar_, av_, aq_, ak_, ah_, ae_]; rfl) ?_ ?_)
   ·first | trivial | simp
   refine .condB (by simp only [go_sem, seval, al_, ar_, av_, aq_, ak_, ah_, ae_]; rfl) (by simp only [go_sem, seval, al_, ar_, av_, aq_, ak_, ah_, ae_]) (fun h20 => ?_) (fun h20 => ?_)
   ·refine .rgn [bv_ [0] [] (pa_ b ((b6_ b p).2 + 1) [[105, 110, 116], [116, 101, 120, 116], []] (by decide) hb (by omega) (by omega))] (by simp only [go_sem, seval, al_, ar_, av_, aq_, ak_, ah_, ae_]; rfl) ?_ ?_
    ·first | trivial | simp
    refine .seq (.rgn [] (by simp only [go_sem, seval, al_, ar_, av_, aq_, ak_, ah_, ae_]; rfl) ?_ ?_)
    ·first | trivial | simp
    refine .ret ⟨.inr rfl, ?_⟩
    exact Out.mem' (by simp only [Tryz.results85]; rfl) (by simp only [a1_, bc_, go_sem, seval, al_, ar_, av_, aq_, ak_, ah_, ae_]) (by simp only [ba_, rns, rn, go_sem, seval, al_, ar_, av_, aq_, ak_, ah_, ae_] <;> (simp at h8 h14 h20; simp [dl5, gx_, h8, h14, h20])) (by simp) rfl (by decide) (by simp only [go_sem, seval, al_, ar_, av_, aq_, ak_, ah_, ae_]) (by simp only [ar_, go_sem, seval, al_, ar_, av_, aq_, ak_, ah_, ae_]) (by simp only [al_, go_sem, seval, al_, ar_, av_, aq_, ak_, ah_, ae_] <;> (simp at h8 h14 h20; simp [dl5, gx_, h8, h14, h20]))
   ·refine .seq (.rgn [] (by simp only [go_sem, seval, al_, ar_, av_, aq_, ak_, ah_, ae_]; rfl) ?_ ?_)
    ·first | trivial | simp
    refine .condB (by simp only [go_sem, seval, al_, ar_, av_, aq_, ak_, ah_, ae_]; rfl) (by simp only [go_sem, seval, al_, ar_, av_, aq_, ak_, ah_, ae_]) (fun h26 => ?_) (fun h26 => ?_)
    ·refine .rgn [bv_ [0] [] (xk_ b ((b6_ b p).2 + 1) hb (by omega) (by omega))] (by simp only [go_sem, seval, al_, ar_, av_, aq_, ak_, ah_, ae_]; rfl) ?_ ?_
     ·first | trivial | simp
     refine .seq (.rgn [] (by simp only [go_sem, seval, al_, ar_, av_, aq_, ak_, ah_, ae_]; rfl) ?_ ?_)
     ·first | trivial | simp
     refine .ret ⟨.inr rfl, ?_⟩
     exact Out.mem' (by simp only [Tryz.results85]; rfl) (by simp only [a1_, bc_, go_sem, seval, al_, ar_, av_, aq_, ak_, ah_, ae_]) (by simp only [ba_, rns, rn, go_sem, seval, al_, ar_, av_, aq_, ak_, ah_, ae_] <;> (simp at h8 h14 h20 h26; simp [dl5, gx_, h8, h14, h20, h26])) (by simp) rfl (by decide) (by simp only [go_sem, seval, al_, ar_, av_, aq_, ak_, ah_, ae_]) (by simp only [ar_, go_sem, seval, al_, ar_, av_, aq_, ak_, ah_, ae_]) (by simp only [al_, go_sem, seval, al_, ar_, av_, aq_, ak_, ah_, ae_] <;> (simp at h8 h14 h20 h26; simp [dl5, gx_, h8, h14, h20, h26]))
    ·refine .skip (.seq (.rgn [] (by simp only [go_sem, seval, al_, ar_, av_, aq_, ak_, ah_, ae_]; rfl) ?_ ?_))
     ·first | trivial | simp
     refine .ret ⟨.inr rfl, ?_⟩
     exact Out.mem' (by simp only [Tryz.results85]; rfl) (by simp only [a1_, bc_, go_sem, seval, al_, ar_, av_, aq_, ak_, ah_, ae_]) (by simp only [ba_, rns, rn, go_sem, seval, al_, ar_, av_, aq_, ak_, ah_, ae_] <;> (simp at h8 h14 h20 h26; simp [dl5, gx_, h8, h14, h20, h26])) (by simp) rfl (by decide) (by simp only [go_sem, seval, al_, ar_, av_, aq_, ak_, ah_, ae_]) (by simp only [ar_, go_sem, seval, al_, ar_, av_, aq_, ak_, ah_, ae_]) (by simp only [al_, go_sem, seval, al_, ar_, av_, aq_, ak_, ah_, ae_] <;> (simp at h8 h14 h20 h26; simp [dl5, gx_, h8, h14, h20, h26]))
end
section
set_option maxRecDepth 100000
set_option maxHeartbeats 4000000
def z4 : List V := [.i .i64 0, .i .i64 0, .s [], .sl true []]
end
section
set_option maxRecDepth 100000
set_option maxHeartbeats 4000000
end
section
open Go.ChangeShapes Go.WideShapes Go.ChangeAt Go.RowKit
set_option maxRecDepth 100000
section
variable {H : Type} {enc : TypeId × Value → H} {P : Program} {W : World}
end
section
variable {H : Type} {enc : TypeId × Value → H} {W : World}
end
end
end Go.Proofs.YtefmbmafdgedmaaGreatDoor
