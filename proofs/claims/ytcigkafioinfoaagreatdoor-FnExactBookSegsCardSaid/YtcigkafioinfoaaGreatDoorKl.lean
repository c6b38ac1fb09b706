/- Lines with types: words, text, ok: the program's and the reference's; without types. Conditions: none. -/
import Derived.Test.YtcigkafioinfoaaGreatDoorKj
set_option linter.unusedVariables false
set_option linter.unusedSimpArgs false
namespace Go.Proofs.YtcigkafioinfoaaGreatDoor
section
set_option maxRecDepth 100000
set_option maxHeartbeats 4000000
def dv_ (s : Sl) : Wd :=
 if s.kind = 1 then (h1_, 100) :: (s.name, 101) :: (hm_, -1) :: (s.type, -1) :: (wEq, 102) :: src s.expr 0 0
 else if s.kind = 2 then (b3_, 103) :: src s.expr 0 0
 else if s.kind = 3 then ((dt_, 100) :: src s.expr 0 0 ++ [(b3_, 103)]) ++ src s.thn 0 (cnt s.expr)
 else []
theorem gf_ {s : Sl} (h : cz_ s = true) : (s.kind = 0 ∨ s.kind = 1 ∨ s.kind = 2 ∨ s.kind = 3) ∧ (s.kind = 1 ∨ s.kind = 2 ∨ s.kind = 3 → eok s.expr = true) ∧ (s.kind = 3 → eok s.thn = true) := by
 unfold cz_ at h
 by_cases k0 : s.kind = 0
 ·simp [k0]
 by_cases k1 : s.kind = 1
 ·simp [k1] at h; simp [k1]; exact h.1.2
 by_cases k2 : s.kind = 2
 ·simp [k2] at h; simp [k2]; exact h.1.2
 by_cases k3 : s.kind = 3
 ·simp [k3] at h; simp [k3]; exact ⟨h.1.2, h.2⟩
 ·simp [k0, k1, k2, k3] at h
theorem ny_ {s : Sl} (h : cz_ s = true) : (dv_ s).map (·.1) = sw' s := by
 obtain ⟨h0, h1, h2⟩ := gf_ h
 unfold dv_ sw'
 rcases h0 with k | k | k | k
 ·simp [k]
 ·simp [k, et_, e7_ (b4_ (h1 (.inl k)))]
 ·simp [k, et_, e7_ (b4_ (h1 (.inr (.inl k))))]
 ·simp [k, et_, e7_ (b4_ (h1 (.inr (.inr k)))), e7_ (b4_ (h2 k))]
theorem w0_ (s : Sl) (h : cz_ s = true) (hs : gz_ s = true) : ACall En 152 [.ag (sC s)] [] [.sl false (wdR (dv_ s))] [] := by
 obtain ⟨h0, h1, h2⟩ := gf_ h
 obtain ⟨s1, s1', s2, s3⟩ := hl_ hs
 have W : s.kind = 1 ∨ s.kind = 2 ∨ s.kind = 3 → _ := fun hk => ln_ 5 s.expr 0 0 (b4_ (h1 hk)) s2 (hx_ (h1 hk)) (by decide) (by have := kh_ (h1 hk); omega) (by decide)
 have W3 : s.kind = 3 → _ := fun hk => ln_ 5 s.thn 0 (0 + cnt s.expr) (b4_ (h2 hk)) s3 (hx_ (h2 hk)) (by have := kh_ (h1 (.inr (.inr hk))); omega) (by have := kh_ (h1 (.inr (.inr hk))); have := kh_ (h2 hk); omega) (by decide)
 refine al_ (fn := Tryz.f152) [] Tryz.func152 rfl rfl (by simp) fun C => ?_
 rw [ay_]
 simp only [Tryz.ntmps152, T7_, List.length_nil, Nat.reduceAdd, Nat.reduceSub, List.replicate_succ, List.replicate_zero, List.cons_append, List.nil_append, bs_]
 refine .seq (.rgn [] (by simp only [go_sem, seval, ah_, af_, T2_, T1_, an_]; rfl) ?_ ?_)
 ·(first | trivial | (simp; done) | (simp [cb_, List.forall_mem_append, br_]; done))
 refine .seq (.rgn [] (by simp only [go_sem, seval, ah_, af_, T2_, T1_, an_]; rfl) ?_ ?_)
 ·(first | trivial | (simp; done) | (simp [cb_, List.forall_mem_append, br_]; done))
 refine .seq (.seq (.rgn [] (by simp only [go_sem, seval, ah_, af_, T2_, T1_, an_]; rfl) ?_ ?_))
 ·(first | trivial | (simp; done) | (simp [cb_, List.forall_mem_append, br_]; done))
 refine .block (.seq (.rgn [] (by simp only [go_sem, seval, ah_, af_, T2_, T1_, an_]; rfl) ?_ ?_))
 ·(first | trivial | (simp; done) | (simp [cb_, List.forall_mem_append, br_]; done))
 refine .condB (by simp only [go_sem, seval, ah_, af_, T2_, T1_, an_]; rfl) (by simp only [go_sem, seval, ah_, af_, T2_, T1_, an_]) (fun h7 => ?_) (fun h7 => ?_)
 ·refine .seq (.rgnD [cv_ [13] [31] (W (.inl (by simpa using h7)))] enM (by simp only [go_sem, seval, ah_, af_, T2_, T1_, an_, ao_, av_]; rfl) (by rfl) ?_ ?_)
  ·have q := h1 (.inl (by simpa using h7)); have q2 := (go_ q 0 0); have q3 : src s.expr 0 0 ≠ [] := (fun e => by have := (cp_ q 0).1; rw [← ir_ s.expr 0 0, e] at this; simp at this); simp [cb_, br_, q3, fd_]; omega
  refine .frz 32 (by simp only [go_sem, seval, ah_, af_, T2_, T1_, an_]; rfl) (by simp only [go_sem, seval, ah_, af_, T2_, T1_, an_]) (by simp only [go_sem, seval, ah_, af_, T2_, T1_, an_]; rfl) (by simp only [go_sem, seval, ah_, af_, T2_, T1_, an_]; rfl) ?_
  refine .ret ⟨.inr rfl, ?_⟩
  exact Out.plain (by simp only [Tryz.results152]; rfl) (by simp only [az_, bj_, go_sem, seval, ah_, af_, T2_, T1_, an_] <;> (split <;> rfl)) (by simp only [bg_, go_sem, seval, ah_, af_, T2_, T1_, an_] <;> (have k : s.kind = 1 := (by simpa using h7); rw [if_pos (by omega), T1_ (by simp [ah_]; omega)]; simp [dv_, k, wdR, peel, wEq, h1_, hm_])) (by simp only [go_sem, seval, ah_, af_, T2_, T1_, an_])
 ·refine .seq (.rgn [] (by simp only [go_sem, seval, ah_, af_, T2_, T1_, an_]; rfl) ?_ ?_)
  ·(first | trivial | (simp; done) | (simp [cb_, List.forall_mem_append, br_]; done))
  refine .condB (by simp only [go_sem, seval, ah_, af_, T2_, T1_, an_]; rfl) (by simp only [go_sem, seval, ah_, af_, T2_, T1_, an_]) (fun h23 => ?_) (fun h23 => ?_)
  ·refine .seq (.rgn [cv_ [13] [39] (W (.inr (.inl (by simpa using h23))))] (by simp only [go_sem, seval, ah_, af_, T2_, T1_, an_, ao_, av_]; rfl) ?_ ?_)
   ·have q := h1 (.inr (.inl (by simpa using h23))); have q2 := (go_ q 0 0); have q3 : src s.expr 0 0 ≠ [] := (fun e => by have := (cp_ q 0).1; rw [← ir_ s.expr 0 0, e] at this; simp at this); simp [cb_, br_, q3, fd_]; omega
   refine .frz 40 (by simp only [go_sem, seval, ah_, af_, T2_, T1_, an_]; rfl) (by simp only [go_sem, seval, ah_, af_, T2_, T1_, an_]) (by simp only [go_sem, seval, ah_, af_, T2_, T1_, an_]; rfl) (by simp only [go_sem, seval, ah_, af_, T2_, T1_, an_]; rfl) ?_
   refine .ret ⟨.inr rfl, ?_⟩
   exact Out.plain (by simp only [Tryz.results152]; rfl) (by simp only [az_, bj_, go_sem, seval, ah_, af_, T2_, T1_, an_] <;> (split <;> rfl)) (by simp only [bg_, go_sem, seval, ah_, af_, T2_, T1_, an_] <;> (have k : s.kind = 2 := (by simpa using h23); rw [if_pos (by omega), T1_ (by simp [ah_]; omega)]; simp [dv_, k, wdR, peel, b3_])) (by simp only [go_sem, seval, ah_, af_, T2_, T1_, an_])
  ·refine .seq (.rgn [] (by simp only [go_sem, seval, ah_, af_, T2_, T1_, an_]; rfl) ?_ ?_)
   ·(first | trivial | (simp; done) | (simp [cb_, List.forall_mem_append, br_]; done))
   refine .condB (by simp only [go_sem, seval, ah_, af_, T2_, T1_, an_]; rfl) (by simp only [go_sem, seval, ah_, af_, T2_, T1_, an_]) (fun h31 => ?_) (fun h31 => ?_)
   ·refine .seq (.rgn [cv_ [13] [47] (W (.inr (.inr (by simpa using h31))))] (by simp only [go_sem, seval, ah_, af_, T2_, T1_, an_, ao_, av_]; rfl) ?_ ?_)
    ·have q := h1 (.inr (.inr (by simpa using h31))); have q2 := (go_ q 0 0); have q3 : src s.expr 0 0 ≠ [] := (fun e => by have := (cp_ q 0).1; rw [← ir_ s.expr 0 0, e] at this; simp at this); simp [cb_, br_, q3, fd_]; omega
    refine .seq (.rgn [] (by simp only [go_sem, seval, ah_, af_, T2_, T1_, an_]; rfl) ?_ ?_)
    ·have q := h1 (.inr (.inr (by simpa using h31))); have q2 := (go_ q 0 0); simp [cb_, br_]; omega
    refine .seq (.rgn [cv_ [13] [56] (W3 (by simpa using h31))] (by simp only [go_sem, seval, ah_, af_, T2_, T1_, an_, ao_, av_]; rfl) ?_ ?_)
    ·have q := h1 (.inr (.inr (by simpa using h31))); have q2 := (go_ q 0 0); have q4 := go_ (h2 (by simpa using h31)) 0 (0 + cnt s.expr); simp at q4; simp [cb_, br_]; omega
    refine .frz 57 (by simp only [go_sem, seval, ah_, af_, T2_, T1_, an_]; rfl) (by simp only [go_sem, seval, ah_, af_, T2_, T1_, an_]) (by simp only [go_sem, seval, ah_, af_, T2_, T1_, an_]; rfl) (by simp only [go_sem, seval, ah_, af_, T2_, T1_, an_]; rfl) ?_
    refine .ret ⟨.inr rfl, ?_⟩
    exact Out.plain (by simp only [Tryz.results152]; rfl) (by simp only [az_, bj_, go_sem, seval, ah_, af_, T2_, T1_, an_] <;> (split <;> rfl)) (by simp only [bg_, go_sem, seval, ah_, af_, T2_, T1_, an_] <;> (have k : s.kind = 3 := (by simpa using h31); rw [if_pos (by omega), T1_ (by simp [ah_]; omega)]; simp [dv_, k, wdR, peel, b3_, dt_])) (by simp only [go_sem, seval, ah_, af_, T2_, T1_, an_])
   ·refine .skip (.seq (.rgn [] (by simp only [go_sem, seval, ah_, af_, T2_, T1_, an_]; rfl) ?_ ?_))
    ·(first | trivial | (simp; done) | (simp [cb_, List.forall_mem_append, br_]; done))
    refine .can (Can.slotLe 2 (.sl false []) (by simp only [go_sem, seval, ah_, af_, T2_, T1_, an_] <;> trivial) (by simp only [go_sem, seval, ah_, af_, T2_, T1_, an_] <;> rfl)) ?_
    refine .ret ⟨.inr rfl, ?_⟩
    exact Out.plain (by simp only [Tryz.results152]; rfl) (by simp only [az_, bj_, go_sem, seval, ah_, af_, T2_, T1_, an_] <;> (split <;> rfl)) (by simp only [bg_, go_sem, seval, ah_, af_, T2_, T1_, an_] <;> (have k : s.kind = 0 := (by simp_all); simp [dv_, k, wdR])) (by simp only [go_sem, seval, ah_, af_, T2_, T1_, an_])
theorem n6_ {s : Sl} (h : cz_ s = true) : (b9_ (sw' s)).length ≤ 1000 := by
 have := nh_ h
 have h2 := ql_ (fun s hs => (this.2 s hs).2)
 omega
theorem sp_ (s : Sl) (h : cz_ s = true) (hs : gz_ s = true) : ACall En 138 [.ag (sC s)] [] [.s (b9_ (sw' s))] [] := by
 have h1 := n6_ h
 have h2 := (nh_ h).1
 have h3 := ny_ h
 have h4 : (dv_ s).length = (sw' s).length := by rw [← h3, List.length_map]
 refine al_ (fn := Tryz.f138) [] Tryz.func138 rfl rfl (by simp) fun C => ?_
 rw [ay_]
 simp only [Tryz.ntmps138, T7_, List.length_nil, Nat.reduceAdd, Nat.reduceSub, List.replicate_succ, List.replicate_zero, List.cons_append, List.nil_append, bs_]
 refine .seq (.rgn [] (by simp only [go_sem, seval, an_, af_, h3]; rfl) ?_ ?_)
 ·simp
 refine .seq (.rgn [a9_ (w0_ s h hs), a9_ (i6_ (dv_ s) (by omega)), a9_ (l9_ (sw' s) (by omega) (by omega))] (by simp only [go_sem, seval, an_, af_, h3]; rfl) ?_ ?_)
 ·simp
 refine .ret ⟨.inr rfl, ?_⟩
 exact Out.plain (by simp only [Tryz.results138]; rfl) (by simp only [az_, bj_, go_sem, seval, an_, af_, h3] <;> (split <;> rfl)) (by simp only [bg_, go_sem, seval, an_, af_, h3] <;> (rfl)) (by simp only [go_sem, seval, an_, af_, h3])
theorem q4_ (s : Sl) (hs : gz_ s = true) : ACall En 75 [.ag (sC s)] [] [.b (sok s)] [] := by
 obtain ⟨s1, s1', s2, s3⟩ := hl_ hs
 refine al_ (fn := Tryz.f75) [] Tryz.func75 rfl rfl (by simp) fun C => ?_
 rw [ay_]
 simp only [Tryz.ntmps75, T7_, List.length_nil, Nat.reduceAdd, Nat.reduceSub, List.replicate_succ, List.replicate_zero, List.cons_append, List.nil_append, bs_]
 refine .seq (.rgn [] (by simp only [go_sem, seval, an_]; rfl) ?_ ?_)
 ·(first | trivial | (simp; done) | exact hJ.symm)
 refine .seq (.rgn [] (by simp only [go_sem, seval, an_]; rfl) ?_ ?_)
 ·(first | trivial | (simp; done) | exact hJ.symm)
 refine .seqJ (fun q : Bool => ⟨[.no, .pt 11 11 0 0, .no, .b q, .no, .no, .no, .no, .no, .no, .no, .no, .no, .no, .no, .no, .no, .no, .no, .no, .no, .no, .no, .no, .no, .no, .no, .no, .no, .no, .no, .no, .no, .no, .no, .no, .no, .no, .no, .no, .no, .no, .no, .no, .no, .no, .no, .no, .no, .no, .no, .no, .no, .no, .no, .no, .no, .no, .no, .no, .no, .no, .no, .no, .no, .no, .no, .no, .no, .no, .no, .no, .no, .no, .no, .no, .no, .no, .no, .no, .no, .no, .no, .no, .no, .no, .no, .no, .no, .no, .no, .no, .no], a7_ [(11, ⟨35, 11, [sC s]⟩)], us [11]⟩) (fun q : Bool => q = cz_ s) ?_ (fun q hJ => ?_)
 ·refine .seq (.rgn [] (by simp only [go_sem, seval, an_]; rfl) ?_ ?_)
  ·(first | trivial | (simp; done) | exact hJ.symm)
  refine .block (.seq (.rgn [] (by simp only [go_sem, seval, an_]; rfl) ?_ ?_))
  ·(first | trivial | (simp; done) | exact hJ.symm)
  refine .condB (by simp only [go_sem, seval, an_]; rfl) (by simp only [go_sem, seval, an_]) (fun h6 => ?_) (fun h6 => ?_)
  ·refine .rgn [a9_ (j5_ s.expr s2), a9_ (j5_ s.thn s3)] (by simp only [go_sem, seval, an_]; rfl) ?_ ?_
   ·(first | trivial | (simp; done) | exact hJ.symm)
   refine Exists.intro (cz_ s) ⟨?_, ?_⟩
   ·rfl
   exact Can.weak (Weak.lit (by simp only [go_sem, seval, an_, at_, leV, aq_, ar_, V.inn, us, T9_, Ta_] <;> ((unfold cz_; simp_all))) (by simp only [go_sem, seval, an_, at_, leV, aq_, ar_, V.inn, us, T9_, Ta_]) (by simp only [go_sem, seval, an_, at_, leV, aq_, ar_, V.inn, us, T9_, Ta_]))
  ·refine .seq (.rgn [] (by simp only [go_sem, seval, an_]; rfl) ?_ ?_)
   ·(first | trivial | (simp; done) | exact hJ.symm)
   refine .condB (by simp only [go_sem, seval, an_]; rfl) (by simp only [go_sem, seval, an_]) (fun h26 => ?_) (fun h26 => ?_)
   ·refine .rgn [a9_ (pg_ s.name s1), a9_ (vn_ s.type), a9_ (g6_ s.expr s2), a9_ (j5_ s.thn s3)] (by simp only [go_sem, seval, an_]; rfl) ?_ ?_
    ·(first | trivial | (simp; done) | exact hJ.symm)
    refine Exists.intro (cz_ s) ⟨?_, ?_⟩
    ·rfl
    exact Can.weak (Weak.lit (by simp only [go_sem, seval, an_, at_, leV, aq_, ar_, V.inn, us, T9_, Ta_] <;> ((unfold cz_; simp_all))) (by simp only [go_sem, seval, an_, at_, leV, aq_, ar_, V.inn, us, T9_, Ta_]) (by simp only [go_sem, seval, an_, at_, leV, aq_, ar_, V.inn, us, T9_, Ta_]))
   ·refine .seq (.rgn [] (by simp only [go_sem, seval, an_]; rfl) ?_ ?_)
    ·(first | trivial | (simp; done) | exact hJ.symm)
    refine .condB (by simp only [go_sem, seval, an_]; rfl) (by simp only [go_sem, seval, an_]) (fun h46 => ?_) (fun h46 => ?_)
    ·refine .rgn [a9_ (g6_ s.expr s2), a9_ (j5_ s.thn s3)] (by simp only [go_sem, seval, an_]; rfl) ?_ ?_
     ·(first | trivial | (simp; done) | exact hJ.symm)
     refine Exists.intro (cz_ s) ⟨?_, ?_⟩
     ·rfl
     exact Can.weak (Weak.lit (by simp only [go_sem, seval, an_, at_, leV, aq_, ar_, V.inn, us, T9_, Ta_] <;> ((unfold cz_; simp_all))) (by simp only [go_sem, seval, an_, at_, leV, aq_, ar_, V.inn, us, T9_, Ta_]) (by simp only [go_sem, seval, an_, at_, leV, aq_, ar_, V.inn, us, T9_, Ta_]))
    ·refine .seq (.rgn [] (by simp only [go_sem, seval, an_]; rfl) ?_ ?_)
     ·(first | trivial | (simp; done) | exact hJ.symm)
     refine .condB (by simp only [go_sem, seval, an_]; rfl) (by simp only [go_sem, seval, an_]) (fun h66 => ?_) (fun h66 => ?_)
     ·refine .rgn [a9_ (g6_ s.expr s2), a9_ (g6_ s.thn s3)] (by simp only [go_sem, seval, an_]; rfl) ?_ ?_
      ·(first | trivial | (simp; done) | exact hJ.symm)
      refine Exists.intro (cz_ s) ⟨?_, ?_⟩
      ·rfl
      exact Can.weak (Weak.lit (by simp only [go_sem, seval, an_, at_, leV, aq_, ar_, V.inn, us, T9_, Ta_] <;> ((unfold cz_; simp_all))) (by simp only [go_sem, seval, an_, at_, leV, aq_, ar_, V.inn, us, T9_, Ta_]) (by simp only [go_sem, seval, an_, at_, leV, aq_, ar_, V.inn, us, T9_, Ta_]))
     ·refine .skip ?_
      refine Exists.intro (cz_ s) ⟨?_, ?_⟩
      ·rfl
      exact Can.weak (Weak.lit (by simp only [go_sem, seval, an_, at_, leV, aq_, ar_, V.inn, us, T9_, Ta_] <;> ((unfold cz_; simp_all))) (by simp only [go_sem, seval, an_, at_, leV, aq_, ar_, V.inn, us, T9_, Ta_]) (by simp only [go_sem, seval, an_, at_, leV, aq_, ar_, V.inn, us, T9_, Ta_]))
 cases q
 ·refine .seq (.rgn [cw_ (cz_ s = true) (fun h => sp_ s h hs)] (by simp only [go_sem, seval, an_]; rfl) ?_ ?_)
  ·(first | trivial | (simp; done) | exact hJ.symm)
  refine .ret ⟨.inr rfl, ?_⟩
  exact Out.plain (by simp only [Tryz.results75]; rfl) (by simp only [az_, bj_, go_sem, seval, an_] <;> (split <;> rfl)) (by simp only [bg_, go_sem, seval, an_] <;> (rw [sok, ← hJ]; first | rfl | (rw [Bool.true_and, h3_]; rfl))) (by simp only [go_sem, seval, an_])
 ·refine .seq (.rgn [cw_ (cz_ s = true) (fun h => sp_ s h hs)] (by simp only [go_sem, seval, an_]; rfl) ?_ ?_)
  ·(first | trivial | (simp; done) | exact hJ.symm)
  refine .ret ⟨.inr rfl, ?_⟩
  exact Out.plain (by simp only [Tryz.results75]; rfl) (by simp only [az_, bj_, go_sem, seval, an_] <;> (split <;> rfl)) (by simp only [bg_, go_sem, seval, an_] <;> (rw [sok, ← hJ]; first | rfl | (rw [Bool.true_and, h3_]; rfl))) (by simp only [go_sem, seval, an_])
theorem d3_ {s : Sl} (h : sok s = true) : cz_ s = true := by simp only [sok, T5_] at h; exact h.1
def wv_ (s : Sl) : Str := if sok s then b9_ (sw' s) else []
theorem vh_ (s : Sl) (hs : gz_ s = true) : ACall En 76 [.ag (sC s)] [] [.s (wv_ s)] [] := by
 refine al_ (fn := Tryz.f76) [] Tryz.func76 rfl rfl (by simp) fun C => ?_
 rw [ay_]
 simp only [Tryz.ntmps76, T7_, List.length_nil, Nat.reduceAdd, Nat.reduceSub, List.replicate_succ, List.replicate_zero, List.cons_append, List.nil_append, bs_]
 refine .seq (.rgn [] (by simp only [go_sem, seval, an_]; rfl) ?_ ?_)
 ·first | trivial | simp
 refine .seq (.seq (.rgn [a9_ (q4_ s hs)] (by simp only [go_sem, seval, an_]; rfl) ?_ ?_))
 ·simp
 refine .condB (by simp only [go_sem, seval, an_]; rfl) (by simp only [go_sem, seval, an_]) (fun h5 => ?_) (fun h5 => ?_)
 ·refine .seq (.rgn [] (by simp only [go_sem, seval, an_]; rfl) ?_ ?_)
  ·first | trivial | simp
  refine .ret ⟨.inr rfl, ?_⟩
  exact Out.plain (by simp only [Tryz.results76]; rfl) (by simp only [az_, bj_, go_sem, seval, an_] <;> (split <;> rfl)) (by simp only [bg_, go_sem, seval, an_] <;> (simp at h5; simp [wv_, h5])) (by simp only [go_sem, seval, an_])
 ·refine .skip (.seq (.rgn [cw_ (sok s = true) (fun h => sp_ s (d3_ h) hs)] (by simp only [go_sem, seval, an_]; rfl) ?_ ?_))
  ·simpa using h5
  refine .ret ⟨.inr rfl, ?_⟩
  exact Out.plain (by simp only [Tryz.results76]; rfl) (by simp only [az_, bj_, go_sem, seval, an_] <;> (split <;> rfl)) (by simp only [bg_, go_sem, seval, an_] <;> (simp at h5; simp [wv_, h5])) (by simp only [go_sem, seval, an_])
theorem jy_ (s : Sl) (h : cz_ s = true) (hs : gz_ s = true) : ACall En 84 [.ag (sC s)] [] [.sl false (b6_ (sw' s))] [] := by
 obtain ⟨h0, h1, h2⟩ := gf_ h
 obtain ⟨s1, s1', s2, s3⟩ := hl_ hs
 have W : s.kind = 1 ∨ s.kind = 2 ∨ s.kind = 3 → _ := fun hk => if_ 5 s.expr 1 (b4_ (h1 hk)) s2 (hx_ (h1 hk)) (by decide) (by decide)
 have W3 : s.kind = 3 → _ := fun hk => if_ 5 s.thn 1 (b4_ (h2 hk)) s3 (hx_ (h2 hk)) (by decide) (by decide)
 refine al_ (fn := Tryz.f84) [] Tryz.func84 rfl rfl (by simp) fun C => ?_
 rw [ay_]
 simp only [Tryz.ntmps84, T7_, List.length_nil, Nat.reduceAdd, Nat.reduceSub, List.replicate_succ, List.replicate_zero, List.cons_append, List.nil_append, bs_]
 refine .seq (.rgn [] (by simp only [go_sem, seval, ac_, ab_, T2_, T1_, an_]; rfl) ?_ ?_)
 ·(first | trivial | (simp; done) | (simp [bn_]; done))
 refine .seq (.seq (.rgn [] (by simp only [go_sem, seval, ac_, ab_, T2_, T1_, an_]; rfl) ?_ ?_))
 ·(first | trivial | (simp; done) | (simp [bn_]; done))
 refine .block (.seq (.rgn [] (by simp only [go_sem, seval, ac_, ab_, T2_, T1_, an_]; rfl) ?_ ?_))
 ·(first | trivial | (simp; done) | (simp [bn_]; done))
 refine .condB (by simp only [go_sem, seval, ac_, ab_, T2_, T1_, an_]; rfl) (by simp only [go_sem, seval, ac_, ab_, T2_, T1_, an_]) (fun h6 => ?_) (fun h6 => ?_)
 ·refine .seq (.rgnD [a9_ (W (.inl (by simpa using h6)))] enM (by simp only [go_sem, seval, ac_, ab_, T2_, T1_, an_]; rfl) (by rfl) ?_ ?_)
  ·have q := h1 (.inl (by simpa using h6)); have q2 := (cp_ q 1); have q3 := xc_ q 1; simp [cb_, bn_, q3, jr_]; omega
  refine .frz 26 (by simp only [go_sem, seval, ac_, ab_, T2_, T1_, an_]; rfl) (by simp only [go_sem, seval, ac_, ab_, T2_, T1_, an_]) (by simp only [go_sem, seval, ac_, ab_, T2_, T1_, an_]; rfl) (by simp only [go_sem, seval, ac_, ab_, T2_, T1_, an_]; rfl) ?_
  refine .ret ⟨.inr rfl, ?_⟩
  exact Out.plain (by simp only [Tryz.results84]; rfl) (by simp only [az_, bj_, go_sem, seval, ac_, ab_, T2_, T1_, an_] <;> (split <;> rfl)) (by simp only [bg_, go_sem, seval, ac_, ab_, T2_, T1_, an_] <;> (have k : s.kind = 1 := (by simpa using h6); rw [if_pos (by omega), T1_ (by simp [ac_]; omega)]; simp [sw', k, b6_, peel, wEq, h1_, hm_])) (by simp only [go_sem, seval, ac_, ab_, T2_, T1_, an_])
 ·refine .seq (.rgn [] (by simp only [go_sem, seval, ac_, ab_, T2_, T1_, an_]; rfl) ?_ ?_)
  ·(first | trivial | (simp; done) | (simp [bn_]; done))
  refine .condB (by simp only [go_sem, seval, ac_, ab_, T2_, T1_, an_]; rfl) (by simp only [go_sem, seval, ac_, ab_, T2_, T1_, an_]) (fun h17 => ?_) (fun h17 => ?_)
  ·refine .seq (.rgn [a9_ (W (.inr (.inl (by simpa using h17))))] (by simp only [go_sem, seval, ac_, ab_, T2_, T1_, an_]; rfl) ?_ ?_)
   ·have q := h1 (.inr (.inl (by simpa using h17))); have q2 := (cp_ q 1); have q3 := xc_ q 1; simp [cb_, bn_, q3, jr_]; omega
   refine .frz 33 (by simp only [go_sem, seval, ac_, ab_, T2_, T1_, an_]; rfl) (by simp only [go_sem, seval, ac_, ab_, T2_, T1_, an_]) (by simp only [go_sem, seval, ac_, ab_, T2_, T1_, an_]; rfl) (by simp only [go_sem, seval, ac_, ab_, T2_, T1_, an_]; rfl) ?_
   refine .ret ⟨.inr rfl, ?_⟩
   exact Out.plain (by simp only [Tryz.results84]; rfl) (by simp only [az_, bj_, go_sem, seval, ac_, ab_, T2_, T1_, an_] <;> (split <;> rfl)) (by simp only [bg_, go_sem, seval, ac_, ab_, T2_, T1_, an_] <;> (have k : s.kind = 2 := (by simpa using h17); rw [if_pos (by omega), T1_ (by simp [ac_]; omega)]; simp [sw', k, b6_, peel, b3_])) (by simp only [go_sem, seval, ac_, ab_, T2_, T1_, an_])
  ·refine .seq (.rgn [] (by simp only [go_sem, seval, ac_, ab_, T2_, T1_, an_]; rfl) ?_ ?_)
   ·(first | trivial | (simp; done) | (simp [bn_]; done))
   refine .condB (by simp only [go_sem, seval, ac_, ab_, T2_, T1_, an_]; rfl) (by simp only [go_sem, seval, ac_, ab_, T2_, T1_, an_]) (fun h24 => ?_) (fun h24 => ?_)
   ·refine .seq (.rgn [a9_ (W (.inr (.inr (by simpa using h24))))] (by simp only [go_sem, seval, ac_, ab_, T2_, T1_, an_]; rfl) ?_ ?_)
    ·have q := h1 (.inr (.inr (by simpa using h24))); have q2 := (cp_ q 1); have q3 := xc_ q 1; simp [cb_, bn_, q3, jr_]; omega
    refine .seq (.rgnD [a9_ (W3 (by simpa using h24))] enM (by simp only [go_sem, seval, ac_, ab_, T2_, T1_, an_]; rfl) (by rfl) ?_ ?_)
    ·have q := h1 (.inr (.inr (by simpa using h24))); have q2 := (cp_ q 1); have q4 := cp_ (h2 (by simpa using h24)) 1; simp [cb_, bn_]; omega
    refine .frz 47 (by simp only [go_sem, seval, ac_, ab_, T2_, T1_, an_]; rfl) (by simp only [go_sem, seval, ac_, ab_, T2_, T1_, an_]) (by simp only [go_sem, seval, ac_, ab_, T2_, T1_, an_]; rfl) (by simp only [go_sem, seval, ac_, ab_, T2_, T1_, an_]; rfl) ?_
    refine .ret ⟨.inr rfl, ?_⟩
    exact Out.plain (by simp only [Tryz.results84]; rfl) (by simp only [az_, bj_, go_sem, seval, ac_, ab_, T2_, T1_, an_] <;> (split <;> rfl)) (by simp only [bg_, go_sem, seval, ac_, ab_, T2_, T1_, an_] <;> (have k : s.kind = 3 := (by simpa using h24); rw [if_pos (by omega), T1_ (by simp [ac_]; omega)]; simp [sw', k, b6_, peel, b3_, dt_])) (by simp only [go_sem, seval, ac_, ab_, T2_, T1_, an_])
   ·refine .skip (.seq (.rgn [] (by simp only [go_sem, seval, ac_, ab_, T2_, T1_, an_]; rfl) ?_ ?_))
    ·(first | trivial | (simp; done) | (simp [bn_]; done))
    refine .can (Can.slotLe 2 (.sl false []) (by simp only [go_sem, seval, ac_, ab_, T2_, T1_, an_] <;> trivial) (by simp only [go_sem, seval, ac_, ab_, T2_, T1_, an_] <;> rfl)) ?_
    refine .ret ⟨.inr rfl, ?_⟩
    exact Out.plain (by simp only [Tryz.results84]; rfl) (by simp only [az_, bj_, go_sem, seval, ac_, ab_, T2_, T1_, an_] <;> (split <;> rfl)) (by simp only [bg_, go_sem, seval, ac_, ab_, T2_, T1_, an_] <;> (have k : s.kind = 0 := (by simp_all); simp [sw', k, b6_])) (by simp only [go_sem, seval, ac_, ab_, T2_, T1_, an_])
theorem q5_ (s : Sl) (hs : gz_ s = true) : ACall En 81 [.ag (sC s)] [] [.b (sok s)] [] := by
 obtain ⟨s1, s1', s2, s3⟩ := hl_ hs
 refine al_ (fn := Tryz.f81) [] Tryz.func81 rfl rfl (by simp) fun C => ?_
 rw [ay_]
 simp only [Tryz.ntmps81, T7_, List.length_nil, Nat.reduceAdd, Nat.reduceSub, List.replicate_succ, List.replicate_zero, List.cons_append, List.nil_append, bs_]
 refine .seq (.rgn [] (by simp only [go_sem, seval, an_, ab_]; rfl) ?_ ?_)
 ·(first | trivial | (simp; done) | exact hJ.symm | exact ⟨hJ.symm, hJ.symm⟩)
 refine .seq (.rgn [] (by simp only [go_sem, seval, an_, ab_]; rfl) ?_ ?_)
 ·(first | trivial | (simp; done) | exact hJ.symm | exact ⟨hJ.symm, hJ.symm⟩)
 refine .seqJ (fun q : Bool => ⟨[.no, .pt 11 11 0 0, .no, .b q, .no, .no, .no, .no, .no, .no, .no, .no, .no, .no, .no, .no, .no, .no, .no, .no, .no, .no, .no, .no, .no, .no, .no, .no, .no, .no, .no, .no, .no, .no, .no, .no, .no, .no, .no, .no, .no, .no, .no, .no, .no, .no, .no, .no, .no, .no, .no, .no, .no, .no, .no, .no, .no, .no, .no, .no, .no, .no, .no, .no, .no, .no, .no, .no, .no, .no, .no, .no, .no, .no, .no, .no, .no, .no, .no, .no, .no, .no, .no, .no, .no, .no, .no, .no, .no, .no, .no, .no, .no, .no], a7_ [(11, ⟨35, 11, [sC s]⟩)], us [11]⟩) (fun q : Bool => q = cz_ s) ?_ (fun q hJ => ?_)
 ·refine .seq (.rgn [] (by simp only [go_sem, seval, an_, ab_]; rfl) ?_ ?_)
  ·(first | trivial | (simp; done) | exact hJ.symm | exact ⟨hJ.symm, hJ.symm⟩)
  refine .block (.seq (.rgn [] (by simp only [go_sem, seval, an_, ab_]; rfl) ?_ ?_))
  ·(first | trivial | (simp; done) | exact hJ.symm | exact ⟨hJ.symm, hJ.symm⟩)
  refine .condB (by simp only [go_sem, seval, an_, ab_]; rfl) (by simp only [go_sem, seval, an_, ab_]) (fun h6 => ?_) (fun h6 => ?_)
  ·refine .rgn [a9_ (mb_ s.expr s2), a9_ (mb_ s.thn s3)] (by simp only [go_sem, seval, an_, ab_]; rfl) ?_ ?_
   ·(first | trivial | (simp; done) | exact hJ.symm | exact ⟨hJ.symm, hJ.symm⟩)
   refine Exists.intro (cz_ s) ⟨?_, ?_⟩
   ·rfl
   exact Can.weak (Weak.lit (by simp only [go_sem, seval, an_, ab_, at_, leV, aq_, ar_, V.inn, us, T9_, Ta_] <;> ((unfold cz_; simp_all))) (by simp only [go_sem, seval, an_, ab_, at_, leV, aq_, ar_, V.inn, us, T9_, Ta_]) (by simp only [go_sem, seval, an_, ab_, at_, leV, aq_, ar_, V.inn, us, T9_, Ta_]))
  ·refine .seq (.rgn [] (by simp only [go_sem, seval, an_, ab_]; rfl) ?_ ?_)
   ·(first | trivial | (simp; done) | exact hJ.symm | exact ⟨hJ.symm, hJ.symm⟩)
   refine .condB (by simp only [go_sem, seval, an_, ab_]; rfl) (by simp only [go_sem, seval, an_, ab_]) (fun h26 => ?_) (fun h26 => ?_)
   ·refine .rgn [a9_ (oz_ s.name s1), a9_ (l8_ s.type), a9_ (h5_ s.expr s2), a9_ (mb_ s.thn s3)] (by simp only [go_sem, seval, an_, ab_]; rfl) ?_ ?_
    ·(first | trivial | (simp; done) | exact hJ.symm | exact ⟨hJ.symm, hJ.symm⟩)
    refine Exists.intro (cz_ s) ⟨?_, ?_⟩
    ·rfl
    exact Can.weak (Weak.lit (by simp only [go_sem, seval, an_, ab_, at_, leV, aq_, ar_, V.inn, us, T9_, Ta_] <;> ((unfold cz_; simp_all))) (by simp only [go_sem, seval, an_, ab_, at_, leV, aq_, ar_, V.inn, us, T9_, Ta_]) (by simp only [go_sem, seval, an_, ab_, at_, leV, aq_, ar_, V.inn, us, T9_, Ta_]))
   ·refine .seq (.rgn [] (by simp only [go_sem, seval, an_, ab_]; rfl) ?_ ?_)
    ·(first | trivial | (simp; done) | exact hJ.symm | exact ⟨hJ.symm, hJ.symm⟩)
    refine .condB (by simp only [go_sem, seval, an_, ab_]; rfl) (by simp only [go_sem, seval, an_, ab_]) (fun h46 => ?_) (fun h46 => ?_)
    ·refine .rgn [a9_ (h5_ s.expr s2), a9_ (mb_ s.thn s3)] (by simp only [go_sem, seval, an_, ab_]; rfl) ?_ ?_
     ·(first | trivial | (simp; done) | exact hJ.symm | exact ⟨hJ.symm, hJ.symm⟩)
     refine Exists.intro (cz_ s) ⟨?_, ?_⟩
     ·rfl
     exact Can.weak (Weak.lit (by simp only [go_sem, seval, an_, ab_, at_, leV, aq_, ar_, V.inn, us, T9_, Ta_] <;> ((unfold cz_; simp_all))) (by simp only [go_sem, seval, an_, ab_, at_, leV, aq_, ar_, V.inn, us, T9_, Ta_]) (by simp only [go_sem, seval, an_, ab_, at_, leV, aq_, ar_, V.inn, us, T9_, Ta_]))
    ·refine .seq (.rgn [] (by simp only [go_sem, seval, an_, ab_]; rfl) ?_ ?_)
     ·(first | trivial | (simp; done) | exact hJ.symm | exact ⟨hJ.symm, hJ.symm⟩)
     refine .condB (by simp only [go_sem, seval, an_, ab_]; rfl) (by simp only [go_sem, seval, an_, ab_]) (fun h66 => ?_) (fun h66 => ?_)
     ·refine .rgn [a9_ (h5_ s.expr s2), a9_ (h5_ s.thn s3)] (by simp only [go_sem, seval, an_, ab_]; rfl) ?_ ?_
      ·(first | trivial | (simp; done) | exact hJ.symm | exact ⟨hJ.symm, hJ.symm⟩)
      refine Exists.intro (cz_ s) ⟨?_, ?_⟩
      ·rfl
      exact Can.weak (Weak.lit (by simp only [go_sem, seval, an_, ab_, at_, leV, aq_, ar_, V.inn, us, T9_, Ta_] <;> ((unfold cz_; simp_all))) (by simp only [go_sem, seval, an_, ab_, at_, leV, aq_, ar_, V.inn, us, T9_, Ta_]) (by simp only [go_sem, seval, an_, ab_, at_, leV, aq_, ar_, V.inn, us, T9_, Ta_]))
     ·refine .skip ?_
      refine Exists.intro (cz_ s) ⟨?_, ?_⟩
      ·rfl
      exact Can.weak (Weak.lit (by simp only [go_sem, seval, an_, ab_, at_, leV, aq_, ar_, V.inn, us, T9_, Ta_] <;> ((unfold cz_; simp_all))) (by simp only [go_sem, seval, an_, ab_, at_, leV, aq_, ar_, V.inn, us, T9_, Ta_]) (by simp only [go_sem, seval, an_, ab_, at_, leV, aq_, ar_, V.inn, us, T9_, Ta_]))
 cases q
 ·refine .seq (.rgn [cw_ (cz_ s = true) (fun h => jy_ s h hs), cw_ (cz_ s = true) (fun h => iv_ (sw' s) (by have := (nh_ h).1; omega) (by have := n6_ h; omega))] (by simp only [go_sem, seval, an_, ab_]; rfl) ?_ ?_)
  ·(first | trivial | (simp; done) | exact hJ.symm | exact ⟨hJ.symm, hJ.symm⟩)
  refine .ret ⟨.inr rfl, ?_⟩
  exact Out.plain (by simp only [Tryz.results81]; rfl) (by simp only [az_, bj_, go_sem, seval, an_, ab_] <;> (split <;> rfl)) (by simp only [bg_, go_sem, seval, an_, ab_] <;> (rw [sok, ← hJ]; first | rfl | (rw [Bool.true_and, h3_]; rfl))) (by simp only [go_sem, seval, an_, ab_])
 ·refine .seq (.rgn [cw_ (cz_ s = true) (fun h => jy_ s h hs), cw_ (cz_ s = true) (fun h => iv_ (sw' s) (by have := (nh_ h).1; omega) (by have := n6_ h; omega))] (by simp only [go_sem, seval, an_, ab_]; rfl) ?_ ?_)
  ·(first | trivial | (simp; done) | exact hJ.symm | exact ⟨hJ.symm, hJ.symm⟩)
  refine .ret ⟨.inr rfl, ?_⟩
  exact Out.plain (by simp only [Tryz.results81]; rfl) (by simp only [az_, bj_, go_sem, seval, an_, ab_] <;> (split <;> rfl)) (by simp only [bg_, go_sem, seval, an_, ab_] <;> (rw [sok, ← hJ]; first | rfl | (rw [Bool.true_and, h3_]; rfl))) (by simp only [go_sem, seval, an_, ab_])
end
section
set_option maxRecDepth 100000
set_option maxHeartbeats 4000000
theorem ys_ {s : Sl} (h : cz_ s = true) : wf s.expr = true ∧ wf s.thn = true := by
 unfold cz_ at h
 by_cases k0 : s.kind = 0
 ·simp [k0, dp_] at h; rw [h.1.2, h.2]; exact ⟨zx_, zx_⟩
 by_cases k1 : s.kind = 1
 ·simp [k1, dp_] at h; rw [h.2]; exact ⟨mq_ h.1.2, zx_⟩
 by_cases k2 : s.kind = 2
 ·simp [k2, dp_] at h; rw [h.2]; exact ⟨mq_ h.1.2, zx_⟩
 by_cases k3 : s.kind = 3
 ·simp [k3] at h; exact ⟨mq_ h.1.2, mq_ h.2⟩
 ·simp [k0, k1, k2, k3] at h
theorem af4_ (s : Sl) (hs : gz_ s = true) (w1 : wf s.expr = true) (w2 : wf s.thn = true) : ACall En 110 [.ag (sC s)] [] [.ag (bC (bof s))] [] := by
 obtain ⟨s1, s2, s3, s4⟩ := hl_ hs
 refine al_ (fn := Tryz.f110) [] Tryz.func110 rfl rfl (by simp) fun C => ?_
 rw [ay_]
 simp only [Tryz.ntmps110, T7_, List.length_nil, Nat.reduceAdd, Nat.reduceSub, List.replicate_succ, List.replicate_zero, List.cons_append, List.nil_append, bs_]
 refine .seq (.rgn [] (by simp only [go_sem, seval, an_, bv_]; rfl) ?_ ?_)
 ·first | trivial | simp
 refine .seq (.rgn [] (by simp only [go_sem, seval, an_, bv_]; rfl) ?_ ?_)
 ·first | trivial | simp
 refine .seq (.seq (.rgn [] (by simp only [go_sem, seval, an_, bv_]; rfl) ?_ ?_))
 ·first | trivial | simp
 refine .condB (by simp only [go_sem, seval, an_, bv_]; rfl) (by simp only [go_sem, seval, an_, bv_]) (fun h11 => ?_) (fun h11 => ?_)
 ·refine .rgn [a9_ (st_ s.expr w1 s3)] (by simp only [go_sem, seval, an_, bv_]; rfl) ?_ ?_
  ·first | trivial | simp
  refine .seq (.seq (.rgn [] (by simp only [go_sem, seval, an_, bv_]; rfl) ?_ ?_))
  ·first | trivial | simp
  refine .condB (by simp only [go_sem, seval, an_, bv_]; rfl) (by simp only [go_sem, seval, an_, bv_]) (fun h18 => ?_) (fun h18 => ?_)
  ·refine .rgn [a9_ (st_ s.thn w2 s4)] (by simp only [go_sem, seval, an_, bv_]; rfl) ?_ ?_
   ·first | trivial | simp
   refine .seq (.rgn [] (by simp only [go_sem, seval, an_, bv_]; rfl) ?_ ?_)
   ·first | trivial | simp
   refine .ret ⟨.inr rfl, ?_⟩
   exact Out.plainL (by simp only [Tryz.results110]; rfl) (by simp only [az_, bj_, go_sem, seval, an_, bv_] <;> (split <;> rfl)) (by simp only [bg_, go_sem, seval, an_, bv_] <;> (simp at h11 h18; simp [bof, h11, h18, bv_, k1_, ky_, k2_, eg_, fj_, ler, ap_])) (by simp only [go_sem, seval, an_, bv_])
  ·refine .skip (.seq (.rgn [] (by simp only [go_sem, seval, an_, bv_]; rfl) ?_ ?_))
   ·first | trivial | simp
   refine .ret ⟨.inr rfl, ?_⟩
   exact Out.plainL (by simp only [Tryz.results110]; rfl) (by simp only [az_, bj_, go_sem, seval, an_, bv_] <;> (split <;> rfl)) (by simp only [bg_, go_sem, seval, an_, bv_] <;> (simp at h11 h18; simp [bof, h11, h18, bv_, k1_, ky_, k2_, eg_, fj_, ler, ap_])) (by simp only [go_sem, seval, an_, bv_])
 ·refine .skip (.seq (.seq (.rgn [] (by simp only [go_sem, seval, an_, bv_]; rfl) ?_ ?_)))
  ·first | trivial | simp
  refine .condB (by simp only [go_sem, seval, an_, bv_]; rfl) (by simp only [go_sem, seval, an_, bv_]) (fun h18 => ?_) (fun h18 => ?_)
  ·refine .rgn [a9_ (st_ s.thn w2 s4)] (by simp only [go_sem, seval, an_, bv_]; rfl) ?_ ?_
   ·first | trivial | simp
   refine .seq (.rgn [] (by simp only [go_sem, seval, an_, bv_]; rfl) ?_ ?_)
   ·first | trivial | simp
   refine .ret ⟨.inr rfl, ?_⟩
   exact Out.plainL (by simp only [Tryz.results110]; rfl) (by simp only [az_, bj_, go_sem, seval, an_, bv_] <;> (split <;> rfl)) (by simp only [bg_, go_sem, seval, an_, bv_] <;> (simp at h11 h18; omega)) (by simp only [go_sem, seval, an_, bv_])
  ·refine .skip (.seq (.rgn [] (by simp only [go_sem, seval, an_, bv_]; rfl) ?_ ?_))
   ·first | trivial | simp
   refine .ret ⟨.inr rfl, ?_⟩
   exact Out.plainL (by simp only [Tryz.results110]; rfl) (by simp only [az_, bj_, go_sem, seval, an_, bv_] <;> (split <;> rfl)) (by simp only [bg_, go_sem, seval, an_, bv_] <;> (simp at h11 h18; simp [bof, h11, h18, bv_, k1_, ky_, k2_, eg_, fj_, ler, ap_])) (by simp only [go_sem, seval, an_, bv_])
end
section
set_option maxRecDepth 100000
set_option maxHeartbeats 4000000
end
end Go.Proofs.YtcigkafioinfoaaGreatDoor
