/- Lines with types: words, text, ok: the program's and the reference's; without types. Conditions: none. -/
import Derived.Test.YtcigkafioinfoaaGreatDoorKj
set_option linter.unusedVariables false
set_option linter.unusedSimpArgs false
namespace Go.Proofs.YtcigkafioinfoaaGreatDoor
section
set_option maxRecDepth 100000
set_option maxHeartbeats 4000000
def dm_ (s : Sl) : Wd :=
 if s.kind = 1 then (hh_, 100) :: (s.name, 101) :: (cb_, -1) :: (s.type, -1) :: (wEq, 102) :: src s.expr 0 0
 else if s.kind = 2 then (bw_, 103) :: src s.expr 0 0
 else if s.kind = 3 then ((di_, 100) :: src s.expr 0 0 ++ [(bw_, 103)]) ++ src s.thn 0 (cnt s.expr)
 else []
theorem fx_ {s : Sl} (h : cr_ s = true) : (s.kind = 0 ∨ s.kind = 1 ∨ s.kind = 2 ∨ s.kind = 3) ∧ (s.kind = 1 ∨ s.kind = 2 ∨ s.kind = 3 → eok s.expr = true) ∧ (s.kind = 3 → eok s.thn = true) := by
 unfold cr_ at h
 by_cases k0 : s.kind = 0
 ·simp [k0]
 by_cases k1 : s.kind = 1
 ·simp [k1] at h; simp [k1]; exact h.1.2
 by_cases k2 : s.kind = 2
 ·simp [k2] at h; simp [k2]; exact h.1.2
 by_cases k3 : s.kind = 3
 ·simp [k3] at h; simp [k3]; exact ⟨h.1.2, h.2⟩
 ·simp [k0, k1, k2, k3] at h
theorem n3_ {s : Sl} (h : cr_ s = true) : (dm_ s).map (·.1) = sw' s := by
 obtain ⟨h0, h1, h2⟩ := fx_ h
 unfold dm_ sw'
 rcases h0 with k | k | k | k
 ·simp [k]
 ·simp [k, ef_, ev_ (bq_ (h1 (.inl k)))]
 ·simp [k, ef_, ev_ (bq_ (h1 (.inr (.inl k))))]
 ·simp [k, ef_, ev_ (bq_ (h1 (.inr (.inr k)))), ev_ (bq_ (h2 k))]
theorem vr_ (s : Sl) (h : cr_ s = true) (hs : ea_ s = true) : ACall En 152 [.ag (sC s)] [] [.sl false (wdR (dm_ s))] [] := by
 obtain ⟨h0, h1, h2⟩ := fx_ h
 obtain ⟨s1, s1', s2, s3⟩ := gf_ hs
 have W : s.kind = 1 ∨ s.kind = 2 ∨ s.kind = 3 → _ := fun hk => lq_ 5 s.expr 0 0 (bq_ (h1 hk)) s2 (hs_ (h1 hk)) (by decide) (by have := kd_ (h1 hk); omega) (by decide)
 have W3 : s.kind = 3 → _ := fun hk => lq_ 5 s.thn 0 (0 + cnt s.expr) (bq_ (h2 hk)) s3 (hs_ (h2 hk)) (by have := kd_ (h1 (.inr (.inr hk))); omega) (by have := kd_ (h1 (.inr (.inr hk))); have := kd_ (h2 hk); omega) (by decide)
 refine aj_ (fn := Tryz.f152) [] Tryz.func152 rfl rfl (by simp) fun C => ?_
 rw [ay_]
 simp only [Tryz.ntmps152, T7_, List.length_nil, Nat.reduceAdd, Nat.reduceSub, List.replicate_succ, List.replicate_zero, List.cons_append, List.nil_append, bu_]
 refine .seq (.rgn [] (by simp only [go_sem, seval, af_, ad_, T2_, T1_, ag_]; rfl) ?_ ?_)
 ·(first | trivial | (simp; done) | (simp [b6_, List.forall_mem_append, bm_]; done))
 refine .seq (.rgn [] (by simp only [go_sem, seval, af_, ad_, T2_, T1_, ag_]; rfl) ?_ ?_)
 ·(first | trivial | (simp; done) | (simp [b6_, List.forall_mem_append, bm_]; done))
 refine .seq (.seq (.rgn [] (by simp only [go_sem, seval, af_, ad_, T2_, T1_, ag_]; rfl) ?_ ?_))
 ·(first | trivial | (simp; done) | (simp [b6_, List.forall_mem_append, bm_]; done))
 refine .block (.seq (.rgn [] (by simp only [go_sem, seval, af_, ad_, T2_, T1_, ag_]; rfl) ?_ ?_))
 ·(first | trivial | (simp; done) | (simp [b6_, List.forall_mem_append, bm_]; done))
 refine .condB (by simp only [go_sem, seval, af_, ad_, T2_, T1_, ag_]; rfl) (by simp only [go_sem, seval, af_, ad_, T2_, T1_, ag_]) (fun h7 => ?_) (fun h7 => ?_)
 ·refine .seq (.rgnD [bx_ [13] [31] (W (.inl (by simpa using h7)))] enM (by simp only [go_sem, seval, af_, ad_, T2_, T1_, ag_, ai_, ao_]; rfl) (by rfl) ?_ ?_)
  ·have q := h1 (.inl (by simpa using h7)); have q2 := (gk_ q 0 0); have q3 : src s.expr 0 0 ≠ [] := (fun e => by have := (ci_ q 0).1; rw [← il_ s.expr 0 0, e] at this; simp at this); simp [b6_, bm_, q3, e3_]; omega
  refine .frz 32 (by simp only [go_sem, seval, af_, ad_, T2_, T1_, ag_]; rfl) (by simp only [go_sem, seval, af_, ad_, T2_, T1_, ag_]) (by simp only [go_sem, seval, af_, ad_, T2_, T1_, ag_]; rfl) (by simp only [go_sem, seval, af_, ad_, T2_, T1_, ag_]; rfl) ?_
  refine .ret ⟨.inr rfl, ?_⟩
  exact Out.plain (by simp only [Tryz.results152]; rfl) (by simp only [az_, bc_, go_sem, seval, af_, ad_, T2_, T1_, ag_] <;> (split <;> rfl)) (by simp only [bb_, go_sem, seval, af_, ad_, T2_, T1_, ag_] <;> (have k : s.kind = 1 := (by simpa using h7); rw [if_pos (by omega), T1_ (by simp [af_]; omega)]; simp [dm_, k, wdR, peel, wEq, hh_, cb_])) (by simp only [go_sem, seval, af_, ad_, T2_, T1_, ag_])
 ·refine .seq (.rgn [] (by simp only [go_sem, seval, af_, ad_, T2_, T1_, ag_]; rfl) ?_ ?_)
  ·(first | trivial | (simp; done) | (simp [b6_, List.forall_mem_append, bm_]; done))
  refine .condB (by simp only [go_sem, seval, af_, ad_, T2_, T1_, ag_]; rfl) (by simp only [go_sem, seval, af_, ad_, T2_, T1_, ag_]) (fun h23 => ?_) (fun h23 => ?_)
  ·refine .seq (.rgn [bx_ [13] [39] (W (.inr (.inl (by simpa using h23))))] (by simp only [go_sem, seval, af_, ad_, T2_, T1_, ag_, ai_, ao_]; rfl) ?_ ?_)
   ·have q := h1 (.inr (.inl (by simpa using h23))); have q2 := (gk_ q 0 0); have q3 : src s.expr 0 0 ≠ [] := (fun e => by have := (ci_ q 0).1; rw [← il_ s.expr 0 0, e] at this; simp at this); simp [b6_, bm_, q3, e3_]; omega
   refine .frz 40 (by simp only [go_sem, seval, af_, ad_, T2_, T1_, ag_]; rfl) (by simp only [go_sem, seval, af_, ad_, T2_, T1_, ag_]) (by simp only [go_sem, seval, af_, ad_, T2_, T1_, ag_]; rfl) (by simp only [go_sem, seval, af_, ad_, T2_, T1_, ag_]; rfl) ?_
   refine .ret ⟨.inr rfl, ?_⟩
   exact Out.plain (by simp only [Tryz.results152]; rfl) (by simp only [az_, bc_, go_sem, seval, af_, ad_, T2_, T1_, ag_] <;> (split <;> rfl)) (by simp only [bb_, go_sem, seval, af_, ad_, T2_, T1_, ag_] <;> (have k : s.kind = 2 := (by simpa using h23); rw [if_pos (by omega), T1_ (by simp [af_]; omega)]; simp [dm_, k, wdR, peel, bw_])) (by simp only [go_sem, seval, af_, ad_, T2_, T1_, ag_])
  ·refine .seq (.rgn [] (by simp only [go_sem, seval, af_, ad_, T2_, T1_, ag_]; rfl) ?_ ?_)
   ·(first | trivial | (simp; done) | (simp [b6_, List.forall_mem_append, bm_]; done))
   refine .condB (by simp only [go_sem, seval, af_, ad_, T2_, T1_, ag_]; rfl) (by simp only [go_sem, seval, af_, ad_, T2_, T1_, ag_]) (fun h31 => ?_) (fun h31 => ?_)
   ·refine .seq (.rgn [bx_ [13] [47] (W (.inr (.inr (by simpa using h31))))] (by simp only [go_sem, seval, af_, ad_, T2_, T1_, ag_, ai_, ao_]; rfl) ?_ ?_)
    ·have q := h1 (.inr (.inr (by simpa using h31))); have q2 := (gk_ q 0 0); have q3 : src s.expr 0 0 ≠ [] := (fun e => by have := (ci_ q 0).1; rw [← il_ s.expr 0 0, e] at this; simp at this); simp [b6_, bm_, q3, e3_]; omega
    refine .seq (.rgn [] (by simp only [go_sem, seval, af_, ad_, T2_, T1_, ag_]; rfl) ?_ ?_)
    ·have q := h1 (.inr (.inr (by simpa using h31))); have q2 := (gk_ q 0 0); simp [b6_, bm_]; omega
    refine .seq (.rgn [bx_ [13] [56] (W3 (by simpa using h31))] (by simp only [go_sem, seval, af_, ad_, T2_, T1_, ag_, ai_, ao_]; rfl) ?_ ?_)
    ·have q := h1 (.inr (.inr (by simpa using h31))); have q2 := (gk_ q 0 0); have q4 := gk_ (h2 (by simpa using h31)) 0 (0 + cnt s.expr); simp at q4; simp [b6_, bm_]; omega
    refine .frz 57 (by simp only [go_sem, seval, af_, ad_, T2_, T1_, ag_]; rfl) (by simp only [go_sem, seval, af_, ad_, T2_, T1_, ag_]) (by simp only [go_sem, seval, af_, ad_, T2_, T1_, ag_]; rfl) (by simp only [go_sem, seval, af_, ad_, T2_, T1_, ag_]; rfl) ?_
    refine .ret ⟨.inr rfl, ?_⟩
    exact Out.plain (by simp only [Tryz.results152]; rfl) (by simp only [az_, bc_, go_sem, seval, af_, ad_, T2_, T1_, ag_] <;> (split <;> rfl)) (by simp only [bb_, go_sem, seval, af_, ad_, T2_, T1_, ag_] <;> (have k : s.kind = 3 := (by simpa using h31); rw [if_pos (by omega), T1_ (by simp [af_]; omega)]; simp [dm_, k, wdR, peel, bw_, di_])) (by simp only [go_sem, seval, af_, ad_, T2_, T1_, ag_])
   ·refine .skip (.seq (.rgn [] (by simp only [go_sem, seval, af_, ad_, T2_, T1_, ag_]; rfl) ?_ ?_))
    ·(first | trivial | (simp; done) | (simp [b6_, List.forall_mem_append, bm_]; done))
    refine .can (Can.slotLe 2 (.sl false []) (by simp only [go_sem, seval, af_, ad_, T2_, T1_, ag_] <;> trivial) (by simp only [go_sem, seval, af_, ad_, T2_, T1_, ag_] <;> rfl)) ?_
    refine .ret ⟨.inr rfl, ?_⟩
    exact Out.plain (by simp only [Tryz.results152]; rfl) (by simp only [az_, bc_, go_sem, seval, af_, ad_, T2_, T1_, ag_] <;> (split <;> rfl)) (by simp only [bb_, go_sem, seval, af_, ad_, T2_, T1_, ag_] <;> (have k : s.kind = 0 := (by simp_all); simp [dm_, k, wdR])) (by simp only [go_sem, seval, af_, ad_, T2_, T1_, ag_])
theorem li_ {s : Sl} (h : cr_ s = true) : (bz_ (sw' s)).length ≤ 1000 := by
 have := k5_ h
 have h2 := p1_ (fun s hs => (this.2 s hs).2)
 omega
theorem tn_ (s : Sl) (h : cr_ s = true) (hs : ea_ s = true) : ACall En 138 [.ag (sC s)] [] [.s (bz_ (sw' s))] [] := by
 have h1 := li_ h
 have h2 := (k5_ h).1
 have h3 := n3_ h
 have h4 : (dm_ s).length = (sw' s).length := by rw [← h3, List.length_map]
 refine aj_ (fn := Tryz.f138) [] Tryz.func138 rfl rfl (by simp) fun C => ?_
 rw [ay_]
 simp only [Tryz.ntmps138, T7_, List.length_nil, Nat.reduceAdd, Nat.reduceSub, List.replicate_succ, List.replicate_zero, List.cons_append, List.nil_append, bu_]
 refine .seq (.rgn [] (by simp only [go_sem, seval, ag_, ad_, h3]; rfl) ?_ ?_)
 ·simp
 refine .seq (.rgn [a8_ (vr_ s h hs), a8_ (jk_ (dm_ s) (by omega)), a8_ (k9_ (sw' s) (by omega) (by omega))] (by simp only [go_sem, seval, ag_, ad_, h3]; rfl) ?_ ?_)
 ·simp
 refine .ret ⟨.inr rfl, ?_⟩
 exact Out.plain (by simp only [Tryz.results138]; rfl) (by simp only [az_, bc_, go_sem, seval, ag_, ad_, h3] <;> (split <;> rfl)) (by simp only [bb_, go_sem, seval, ag_, ad_, h3] <;> (rfl)) (by simp only [go_sem, seval, ag_, ad_, h3])
theorem mz_ (s : Sl) (hs : ea_ s = true) : ACall En 75 [.ag (sC s)] [] [.b (sok s)] [] := by
 obtain ⟨s1, s1', s2, s3⟩ := gf_ hs
 refine aj_ (fn := Tryz.f75) [] Tryz.func75 rfl rfl (by simp) fun C => ?_
 rw [ay_]
 simp only [Tryz.ntmps75, T7_, List.length_nil, Nat.reduceAdd, Nat.reduceSub, List.replicate_succ, List.replicate_zero, List.cons_append, List.nil_append, bu_]
 refine .seq (.rgn [] (by simp only [go_sem, seval, ag_]; rfl) ?_ ?_)
 ·(first | trivial | (simp; done) | exact hJ.symm)
 refine .seq (.rgn [] (by simp only [go_sem, seval, ag_]; rfl) ?_ ?_)
 ·(first | trivial | (simp; done) | exact hJ.symm)
 refine .seqJ (fun q : Bool => ⟨[.no, .pt 11 11 0 0, .no, .b q, .no, .no, .no, .no, .no, .no, .no, .no, .no, .no, .no, .no, .no, .no, .no, .no, .no, .no, .no, .no, .no, .no, .no, .no, .no, .no, .no, .no, .no, .no, .no, .no, .no, .no, .no, .no, .no, .no, .no, .no, .no, .no, .no, .no, .no, .no, .no, .no, .no, .no, .no, .no, .no, .no, .no, .no, .no, .no, .no, .no, .no, .no, .no, .no, .no, .no, .no, .no, .no, .no, .no, .no, .no, .no, .no, .no, .no, .no, .no, .no, .no, .no, .no, .no, .no, .no, .no, .no, .no], bh_ [(11, ⟨35, 11, [sC s]⟩)], us [11]⟩) (fun q : Bool => q = cr_ s) ?_ (fun q hJ => ?_)
 ·refine .seq (.rgn [] (by simp only [go_sem, seval, ag_]; rfl) ?_ ?_)
  ·(first | trivial | (simp; done) | exact hJ.symm)
  refine .block (.seq (.rgn [] (by simp only [go_sem, seval, ag_]; rfl) ?_ ?_))
  ·(first | trivial | (simp; done) | exact hJ.symm)
  refine .condB (by simp only [go_sem, seval, ag_]; rfl) (by simp only [go_sem, seval, ag_]) (fun h6 => ?_) (fun h6 => ?_)
  ·refine .rgn [a8_ (fe_ s.expr s2), a8_ (fe_ s.thn s3)] (by simp only [go_sem, seval, ag_]; rfl) ?_ ?_
   ·(first | trivial | (simp; done) | exact hJ.symm)
   refine Exists.intro (cr_ s) ⟨?_, ?_⟩
   ·rfl
   exact Can.weak (Weak.lit (by simp only [go_sem, seval, ag_, ar_, leV, ap_, aq_, V.inn, us, T9_, Ta_] <;> ((unfold cr_; simp_all))) (by simp only [go_sem, seval, ag_, ar_, leV, ap_, aq_, V.inn, us, T9_, Ta_]) (by simp only [go_sem, seval, ag_, ar_, leV, ap_, aq_, V.inn, us, T9_, Ta_]))
  ·refine .seq (.rgn [] (by simp only [go_sem, seval, ag_]; rfl) ?_ ?_)
   ·(first | trivial | (simp; done) | exact hJ.symm)
   refine .condB (by simp only [go_sem, seval, ag_]; rfl) (by simp only [go_sem, seval, ag_]) (fun h26 => ?_) (fun h26 => ?_)
   ·refine .rgn [a8_ (k8_ s.name s1), a8_ (vu_ s.type), a8_ (f5_ s.expr s2), a8_ (fe_ s.thn s3)] (by simp only [go_sem, seval, ag_]; rfl) ?_ ?_
    ·(first | trivial | (simp; done) | exact hJ.symm)
    refine Exists.intro (cr_ s) ⟨?_, ?_⟩
    ·rfl
    exact Can.weak (Weak.lit (by simp only [go_sem, seval, ag_, ar_, leV, ap_, aq_, V.inn, us, T9_, Ta_] <;> ((unfold cr_; simp_all))) (by simp only [go_sem, seval, ag_, ar_, leV, ap_, aq_, V.inn, us, T9_, Ta_]) (by simp only [go_sem, seval, ag_, ar_, leV, ap_, aq_, V.inn, us, T9_, Ta_]))
   ·refine .seq (.rgn [] (by simp only [go_sem, seval, ag_]; rfl) ?_ ?_)
    ·(first | trivial | (simp; done) | exact hJ.symm)
    refine .condB (by simp only [go_sem, seval, ag_]; rfl) (by simp only [go_sem, seval, ag_]) (fun h46 => ?_) (fun h46 => ?_)
    ·refine .rgn [a8_ (f5_ s.expr s2), a8_ (fe_ s.thn s3)] (by simp only [go_sem, seval, ag_]; rfl) ?_ ?_
     ·(first | trivial | (simp; done) | exact hJ.symm)
     refine Exists.intro (cr_ s) ⟨?_, ?_⟩
     ·rfl
     exact Can.weak (Weak.lit (by simp only [go_sem, seval, ag_, ar_, leV, ap_, aq_, V.inn, us, T9_, Ta_] <;> ((unfold cr_; simp_all))) (by simp only [go_sem, seval, ag_, ar_, leV, ap_, aq_, V.inn, us, T9_, Ta_]) (by simp only [go_sem, seval, ag_, ar_, leV, ap_, aq_, V.inn, us, T9_, Ta_]))
    ·refine .seq (.rgn [] (by simp only [go_sem, seval, ag_]; rfl) ?_ ?_)
     ·(first | trivial | (simp; done) | exact hJ.symm)
     refine .condB (by simp only [go_sem, seval, ag_]; rfl) (by simp only [go_sem, seval, ag_]) (fun h66 => ?_) (fun h66 => ?_)
     ·refine .rgn [a8_ (f5_ s.expr s2), a8_ (f5_ s.thn s3)] (by simp only [go_sem, seval, ag_]; rfl) ?_ ?_
      ·(first | trivial | (simp; done) | exact hJ.symm)
      refine Exists.intro (cr_ s) ⟨?_, ?_⟩
      ·rfl
      exact Can.weak (Weak.lit (by simp only [go_sem, seval, ag_, ar_, leV, ap_, aq_, V.inn, us, T9_, Ta_] <;> ((unfold cr_; simp_all))) (by simp only [go_sem, seval, ag_, ar_, leV, ap_, aq_, V.inn, us, T9_, Ta_]) (by simp only [go_sem, seval, ag_, ar_, leV, ap_, aq_, V.inn, us, T9_, Ta_]))
     ·refine .skip ?_
      refine Exists.intro (cr_ s) ⟨?_, ?_⟩
      ·rfl
      exact Can.weak (Weak.lit (by simp only [go_sem, seval, ag_, ar_, leV, ap_, aq_, V.inn, us, T9_, Ta_] <;> ((unfold cr_; simp_all))) (by simp only [go_sem, seval, ag_, ar_, leV, ap_, aq_, V.inn, us, T9_, Ta_]) (by simp only [go_sem, seval, ag_, ar_, leV, ap_, aq_, V.inn, us, T9_, Ta_]))
 cases q
 ·refine .seq (.rgn [ce_ (cr_ s = true) (fun h => tn_ s h hs)] (by simp only [go_sem, seval, ag_]; rfl) ?_ ?_)
  ·(first | trivial | (simp; done) | exact hJ.symm)
  refine .ret ⟨.inr rfl, ?_⟩
  exact Out.plain (by simp only [Tryz.results75]; rfl) (by simp only [az_, bc_, go_sem, seval, ag_] <;> (split <;> rfl)) (by simp only [bb_, go_sem, seval, ag_] <;> (rw [sok, ← hJ]; first | rfl | (rw [Bool.true_and, e0_]; rfl))) (by simp only [go_sem, seval, ag_])
 ·refine .seq (.rgn [ce_ (cr_ s = true) (fun h => tn_ s h hs)] (by simp only [go_sem, seval, ag_]; rfl) ?_ ?_)
  ·(first | trivial | (simp; done) | exact hJ.symm)
  refine .ret ⟨.inr rfl, ?_⟩
  exact Out.plain (by simp only [Tryz.results75]; rfl) (by simp only [az_, bc_, go_sem, seval, ag_] <;> (split <;> rfl)) (by simp only [bb_, go_sem, seval, ag_] <;> (rw [sok, ← hJ]; first | rfl | (rw [Bool.true_and, e0_]; rfl))) (by simp only [go_sem, seval, ag_])
theorem dk_ {s : Sl} (h : sok s = true) : cr_ s = true := by simp only [sok, T5_] at h; exact h.1
def ec_ (s : Sl) : Str := if sok s then bz_ (sw' s) else []
theorem w6_ (s : Sl) (hs : ea_ s = true) : ACall En 76 [.ag (sC s)] [] [.s (ec_ s)] [] := by
 refine aj_ (fn := Tryz.f76) [] Tryz.func76 rfl rfl (by simp) fun C => ?_
 rw [ay_]
 simp only [Tryz.ntmps76, T7_, List.length_nil, Nat.reduceAdd, Nat.reduceSub, List.replicate_succ, List.replicate_zero, List.cons_append, List.nil_append, bu_]
 refine .seq (.rgn [] (by simp only [go_sem, seval, ag_]; rfl) ?_ ?_)
 ·first | trivial | simp
 refine .seq (.seq (.rgn [a8_ (mz_ s hs)] (by simp only [go_sem, seval, ag_]; rfl) ?_ ?_))
 ·simp
 refine .condB (by simp only [go_sem, seval, ag_]; rfl) (by simp only [go_sem, seval, ag_]) (fun h5 => ?_) (fun h5 => ?_)
 ·refine .seq (.rgn [] (by simp only [go_sem, seval, ag_]; rfl) ?_ ?_)
  ·first | trivial | simp
  refine .ret ⟨.inr rfl, ?_⟩
  exact Out.plain (by simp only [Tryz.results76]; rfl) (by simp only [az_, bc_, go_sem, seval, ag_] <;> (split <;> rfl)) (by simp only [bb_, go_sem, seval, ag_] <;> (simp at h5; simp [ec_, h5])) (by simp only [go_sem, seval, ag_])
 ·refine .skip (.seq (.rgn [ce_ (sok s = true) (fun h => tn_ s (dk_ h) hs)] (by simp only [go_sem, seval, ag_]; rfl) ?_ ?_))
  ·simpa using h5
  refine .ret ⟨.inr rfl, ?_⟩
  exact Out.plain (by simp only [Tryz.results76]; rfl) (by simp only [az_, bc_, go_sem, seval, ag_] <;> (split <;> rfl)) (by simp only [bb_, go_sem, seval, ag_] <;> (simp at h5; simp [ec_, h5])) (by simp only [go_sem, seval, ag_])
theorem h6_ (s : Sl) (h : cr_ s = true) (hs : ea_ s = true) : ACall En 84 [.ag (sC s)] [] [.sl false (bo_ (sw' s))] [] := by
 obtain ⟨h0, h1, h2⟩ := fx_ h
 obtain ⟨s1, s1', s2, s3⟩ := gf_ hs
 have W : s.kind = 1 ∨ s.kind = 2 ∨ s.kind = 3 → _ := fun hk => ib_ 5 s.expr 1 (bq_ (h1 hk)) s2 (hs_ (h1 hk)) (by decide) (by decide)
 have W3 : s.kind = 3 → _ := fun hk => ib_ 5 s.thn 1 (bq_ (h2 hk)) s3 (hs_ (h2 hk)) (by decide) (by decide)
 refine aj_ (fn := Tryz.f84) [] Tryz.func84 rfl rfl (by simp) fun C => ?_
 rw [ay_]
 simp only [Tryz.ntmps84, T7_, List.length_nil, Nat.reduceAdd, Nat.reduceSub, List.replicate_succ, List.replicate_zero, List.cons_append, List.nil_append, bu_]
 refine .seq (.rgn [] (by simp only [go_sem, seval, ab_, aa_, T2_, T1_, ag_]; rfl) ?_ ?_)
 ·(first | trivial | (simp; done) | (simp [a7_]; done))
 refine .seq (.seq (.rgn [] (by simp only [go_sem, seval, ab_, aa_, T2_, T1_, ag_]; rfl) ?_ ?_))
 ·(first | trivial | (simp; done) | (simp [a7_]; done))
 refine .block (.seq (.rgn [] (by simp only [go_sem, seval, ab_, aa_, T2_, T1_, ag_]; rfl) ?_ ?_))
 ·(first | trivial | (simp; done) | (simp [a7_]; done))
 refine .condB (by simp only [go_sem, seval, ab_, aa_, T2_, T1_, ag_]; rfl) (by simp only [go_sem, seval, ab_, aa_, T2_, T1_, ag_]) (fun h6 => ?_) (fun h6 => ?_)
 ·refine .seq (.rgnD [a8_ (W (.inl (by simpa using h6)))] enM (by simp only [go_sem, seval, ab_, aa_, T2_, T1_, ag_]; rfl) (by rfl) ?_ ?_)
  ·have q := h1 (.inl (by simpa using h6)); have q2 := (ci_ q 1); have q3 := y9_ q 1; simp [b6_, a7_, q3, j3_]; omega
  refine .frz 26 (by simp only [go_sem, seval, ab_, aa_, T2_, T1_, ag_]; rfl) (by simp only [go_sem, seval, ab_, aa_, T2_, T1_, ag_]) (by simp only [go_sem, seval, ab_, aa_, T2_, T1_, ag_]; rfl) (by simp only [go_sem, seval, ab_, aa_, T2_, T1_, ag_]; rfl) ?_
  refine .ret ⟨.inr rfl, ?_⟩
  exact Out.plain (by simp only [Tryz.results84]; rfl) (by simp only [az_, bc_, go_sem, seval, ab_, aa_, T2_, T1_, ag_] <;> (split <;> rfl)) (by simp only [bb_, go_sem, seval, ab_, aa_, T2_, T1_, ag_] <;> (have k : s.kind = 1 := (by simpa using h6); rw [if_pos (by omega), T1_ (by simp [ab_]; omega)]; simp [sw', k, bo_, peel, wEq, hh_, cb_])) (by simp only [go_sem, seval, ab_, aa_, T2_, T1_, ag_])
 ·refine .seq (.rgn [] (by simp only [go_sem, seval, ab_, aa_, T2_, T1_, ag_]; rfl) ?_ ?_)
  ·(first | trivial | (simp; done) | (simp [a7_]; done))
  refine .condB (by simp only [go_sem, seval, ab_, aa_, T2_, T1_, ag_]; rfl) (by simp only [go_sem, seval, ab_, aa_, T2_, T1_, ag_]) (fun h17 => ?_) (fun h17 => ?_)
  ·refine .seq (.rgn [a8_ (W (.inr (.inl (by simpa using h17))))] (by simp only [go_sem, seval, ab_, aa_, T2_, T1_, ag_]; rfl) ?_ ?_)
   ·have q := h1 (.inr (.inl (by simpa using h17))); have q2 := (ci_ q 1); have q3 := y9_ q 1; simp [b6_, a7_, q3, j3_]; omega
   refine .frz 33 (by simp only [go_sem, seval, ab_, aa_, T2_, T1_, ag_]; rfl) (by simp only [go_sem, seval, ab_, aa_, T2_, T1_, ag_]) (by simp only [go_sem, seval, ab_, aa_, T2_, T1_, ag_]; rfl) (by simp only [go_sem, seval, ab_, aa_, T2_, T1_, ag_]; rfl) ?_
   refine .ret ⟨.inr rfl, ?_⟩
   exact Out.plain (by simp only [Tryz.results84]; rfl) (by simp only [az_, bc_, go_sem, seval, ab_, aa_, T2_, T1_, ag_] <;> (split <;> rfl)) (by simp only [bb_, go_sem, seval, ab_, aa_, T2_, T1_, ag_] <;> (have k : s.kind = 2 := (by simpa using h17); rw [if_pos (by omega), T1_ (by simp [ab_]; omega)]; simp [sw', k, bo_, peel, bw_])) (by simp only [go_sem, seval, ab_, aa_, T2_, T1_, ag_])
  ·refine .seq (.rgn [] (by simp only [go_sem, seval, ab_, aa_, T2_, T1_, ag_]; rfl) ?_ ?_)
   ·(first | trivial | (simp; done) | (simp [a7_]; done))
   refine .condB (by simp only [go_sem, seval, ab_, aa_, T2_, T1_, ag_]; rfl) (by simp only [go_sem, seval, ab_, aa_, T2_, T1_, ag_]) (fun h24 => ?_) (fun h24 => ?_)
   ·refine .seq (.rgn [a8_ (W (.inr (.inr (by simpa using h24))))] (by simp only [go_sem, seval, ab_, aa_, T2_, T1_, ag_]; rfl) ?_ ?_)
    ·have q := h1 (.inr (.inr (by simpa using h24))); have q2 := (ci_ q 1); have q3 := y9_ q 1; simp [b6_, a7_, q3, j3_]; omega
    refine .seq (.rgnD [a8_ (W3 (by simpa using h24))] enM (by simp only [go_sem, seval, ab_, aa_, T2_, T1_, ag_]; rfl) (by rfl) ?_ ?_)
    ·have q := h1 (.inr (.inr (by simpa using h24))); have q2 := (ci_ q 1); have q4 := ci_ (h2 (by simpa using h24)) 1; simp [b6_, a7_]; omega
    refine .frz 47 (by simp only [go_sem, seval, ab_, aa_, T2_, T1_, ag_]; rfl) (by simp only [go_sem, seval, ab_, aa_, T2_, T1_, ag_]) (by simp only [go_sem, seval, ab_, aa_, T2_, T1_, ag_]; rfl) (by simp only [go_sem, seval, ab_, aa_, T2_, T1_, ag_]; rfl) ?_
    refine .ret ⟨.inr rfl, ?_⟩
    exact Out.plain (by simp only [Tryz.results84]; rfl) (by simp only [az_, bc_, go_sem, seval, ab_, aa_, T2_, T1_, ag_] <;> (split <;> rfl)) (by simp only [bb_, go_sem, seval, ab_, aa_, T2_, T1_, ag_] <;> (have k : s.kind = 3 := (by simpa using h24); rw [if_pos (by omega), T1_ (by simp [ab_]; omega)]; simp [sw', k, bo_, peel, bw_, di_])) (by simp only [go_sem, seval, ab_, aa_, T2_, T1_, ag_])
   ·refine .skip (.seq (.rgn [] (by simp only [go_sem, seval, ab_, aa_, T2_, T1_, ag_]; rfl) ?_ ?_))
    ·(first | trivial | (simp; done) | (simp [a7_]; done))
    refine .can (Can.slotLe 2 (.sl false []) (by simp only [go_sem, seval, ab_, aa_, T2_, T1_, ag_] <;> trivial) (by simp only [go_sem, seval, ab_, aa_, T2_, T1_, ag_] <;> rfl)) ?_
    refine .ret ⟨.inr rfl, ?_⟩
    exact Out.plain (by simp only [Tryz.results84]; rfl) (by simp only [az_, bc_, go_sem, seval, ab_, aa_, T2_, T1_, ag_] <;> (split <;> rfl)) (by simp only [bb_, go_sem, seval, ab_, aa_, T2_, T1_, ag_] <;> (have k : s.kind = 0 := (by simp_all); simp [sw', k, bo_])) (by simp only [go_sem, seval, ab_, aa_, T2_, T1_, ag_])
theorem m3_ (s : Sl) (hs : ea_ s = true) : ACall En 81 [.ag (sC s)] [] [.b (sok s)] [] := by
 obtain ⟨s1, s1', s2, s3⟩ := gf_ hs
 refine aj_ (fn := Tryz.f81) [] Tryz.func81 rfl rfl (by simp) fun C => ?_
 rw [ay_]
 simp only [Tryz.ntmps81, T7_, List.length_nil, Nat.reduceAdd, Nat.reduceSub, List.replicate_succ, List.replicate_zero, List.cons_append, List.nil_append, bu_]
 refine .seq (.rgn [] (by simp only [go_sem, seval, ag_, aa_]; rfl) ?_ ?_)
 ·(first | trivial | (simp; done) | exact hJ.symm | exact ⟨hJ.symm, hJ.symm⟩)
 refine .seq (.rgn [] (by simp only [go_sem, seval, ag_, aa_]; rfl) ?_ ?_)
 ·(first | trivial | (simp; done) | exact hJ.symm | exact ⟨hJ.symm, hJ.symm⟩)
 refine .seqJ (fun q : Bool => ⟨[.no, .pt 11 11 0 0, .no, .b q, .no, .no, .no, .no, .no, .no, .no, .no, .no, .no, .no, .no, .no, .no, .no, .no, .no, .no, .no, .no, .no, .no, .no, .no, .no, .no, .no, .no, .no, .no, .no, .no, .no, .no, .no, .no, .no, .no, .no, .no, .no, .no, .no, .no, .no, .no, .no, .no, .no, .no, .no, .no, .no, .no, .no, .no, .no, .no, .no, .no, .no, .no, .no, .no, .no, .no, .no, .no, .no, .no, .no, .no, .no, .no, .no, .no, .no, .no, .no, .no, .no, .no, .no, .no, .no, .no, .no, .no, .no, .no], bh_ [(11, ⟨35, 11, [sC s]⟩)], us [11]⟩) (fun q : Bool => q = cr_ s) ?_ (fun q hJ => ?_)
 ·refine .seq (.rgn [] (by simp only [go_sem, seval, ag_, aa_]; rfl) ?_ ?_)
  ·(first | trivial | (simp; done) | exact hJ.symm | exact ⟨hJ.symm, hJ.symm⟩)
  refine .block (.seq (.rgn [] (by simp only [go_sem, seval, ag_, aa_]; rfl) ?_ ?_))
  ·(first | trivial | (simp; done) | exact hJ.symm | exact ⟨hJ.symm, hJ.symm⟩)
  refine .condB (by simp only [go_sem, seval, ag_, aa_]; rfl) (by simp only [go_sem, seval, ag_, aa_]) (fun h6 => ?_) (fun h6 => ?_)
  ·refine .rgn [a8_ (l2_ s.expr s2), a8_ (l2_ s.thn s3)] (by simp only [go_sem, seval, ag_, aa_]; rfl) ?_ ?_
   ·(first | trivial | (simp; done) | exact hJ.symm | exact ⟨hJ.symm, hJ.symm⟩)
   refine Exists.intro (cr_ s) ⟨?_, ?_⟩
   ·rfl
   exact Can.weak (Weak.lit (by simp only [go_sem, seval, ag_, aa_, ar_, leV, ap_, aq_, V.inn, us, T9_, Ta_] <;> ((unfold cr_; simp_all))) (by simp only [go_sem, seval, ag_, aa_, ar_, leV, ap_, aq_, V.inn, us, T9_, Ta_]) (by simp only [go_sem, seval, ag_, aa_, ar_, leV, ap_, aq_, V.inn, us, T9_, Ta_]))
  ·refine .seq (.rgn [] (by simp only [go_sem, seval, ag_, aa_]; rfl) ?_ ?_)
   ·(first | trivial | (simp; done) | exact hJ.symm | exact ⟨hJ.symm, hJ.symm⟩)
   refine .condB (by simp only [go_sem, seval, ag_, aa_]; rfl) (by simp only [go_sem, seval, ag_, aa_]) (fun h26 => ?_) (fun h26 => ?_)
   ·refine .rgn [a8_ (qi_ s.name s1), a8_ (lg_ s.type), a8_ (g1_ s.expr s2), a8_ (l2_ s.thn s3)] (by simp only [go_sem, seval, ag_, aa_]; rfl) ?_ ?_
    ·(first | trivial | (simp; done) | exact hJ.symm | exact ⟨hJ.symm, hJ.symm⟩)
    refine Exists.intro (cr_ s) ⟨?_, ?_⟩
    ·rfl
    exact Can.weak (Weak.lit (by simp only [go_sem, seval, ag_, aa_, ar_, leV, ap_, aq_, V.inn, us, T9_, Ta_] <;> ((unfold cr_; simp_all))) (by simp only [go_sem, seval, ag_, aa_, ar_, leV, ap_, aq_, V.inn, us, T9_, Ta_]) (by simp only [go_sem, seval, ag_, aa_, ar_, leV, ap_, aq_, V.inn, us, T9_, Ta_]))
   ·refine .seq (.rgn [] (by simp only [go_sem, seval, ag_, aa_]; rfl) ?_ ?_)
    ·(first | trivial | (simp; done) | exact hJ.symm | exact ⟨hJ.symm, hJ.symm⟩)
    refine .condB (by simp only [go_sem, seval, ag_, aa_]; rfl) (by simp only [go_sem, seval, ag_, aa_]) (fun h46 => ?_) (fun h46 => ?_)
    ·refine .rgn [a8_ (g1_ s.expr s2), a8_ (l2_ s.thn s3)] (by simp only [go_sem, seval, ag_, aa_]; rfl) ?_ ?_
     ·(first | trivial | (simp; done) | exact hJ.symm | exact ⟨hJ.symm, hJ.symm⟩)
     refine Exists.intro (cr_ s) ⟨?_, ?_⟩
     ·rfl
     exact Can.weak (Weak.lit (by simp only [go_sem, seval, ag_, aa_, ar_, leV, ap_, aq_, V.inn, us, T9_, Ta_] <;> ((unfold cr_; simp_all))) (by simp only [go_sem, seval, ag_, aa_, ar_, leV, ap_, aq_, V.inn, us, T9_, Ta_]) (by simp only [go_sem, seval, ag_, aa_, ar_, leV, ap_, aq_, V.inn, us, T9_, Ta_]))
    ·refine .seq (.rgn [] (by simp only [go_sem, seval, ag_, aa_]; rfl) ?_ ?_)
     ·(first | trivial | (simp; done) | exact hJ.symm | exact ⟨hJ.symm, hJ.symm⟩)
     refine .condB (by simp only [go_sem, seval, ag_, aa_]; rfl) (by simp only [go_sem, seval, ag_, aa_]) (fun h66 => ?_) (fun h66 => ?_)
     ·refine .rgn [a8_ (g1_ s.expr s2), a8_ (g1_ s.thn s3)] (by simp only [go_sem, seval, ag_, aa_]; rfl) ?_ ?_
      ·(first | trivial | (simp; done) | exact hJ.symm | exact ⟨hJ.symm, hJ.symm⟩)
      refine Exists.intro (cr_ s) ⟨?_, ?_⟩
      ·rfl
      exact Can.weak (Weak.lit (by simp only [go_sem, seval, ag_, aa_, ar_, leV, ap_, aq_, V.inn, us, T9_, Ta_] <;> ((unfold cr_; simp_all))) (by simp only [go_sem, seval, ag_, aa_, ar_, leV, ap_, aq_, V.inn, us, T9_, Ta_]) (by simp only [go_sem, seval, ag_, aa_, ar_, leV, ap_, aq_, V.inn, us, T9_, Ta_]))
     ·refine .skip ?_
      refine Exists.intro (cr_ s) ⟨?_, ?_⟩
      ·rfl
      exact Can.weak (Weak.lit (by simp only [go_sem, seval, ag_, aa_, ar_, leV, ap_, aq_, V.inn, us, T9_, Ta_] <;> ((unfold cr_; simp_all))) (by simp only [go_sem, seval, ag_, aa_, ar_, leV, ap_, aq_, V.inn, us, T9_, Ta_]) (by simp only [go_sem, seval, ag_, aa_, ar_, leV, ap_, aq_, V.inn, us, T9_, Ta_]))
 cases q
 ·refine .seq (.rgn [ce_ (cr_ s = true) (fun h => h6_ s h hs), ce_ (cr_ s = true) (fun h => g7_ (sw' s) (by have := (k5_ h).1; omega) (by have := li_ h; omega))] (by simp only [go_sem, seval, ag_, aa_]; rfl) ?_ ?_)
  ·(first | trivial | (simp; done) | exact hJ.symm | exact ⟨hJ.symm, hJ.symm⟩)
  refine .ret ⟨.inr rfl, ?_⟩
  exact Out.plain (by simp only [Tryz.results81]; rfl) (by simp only [az_, bc_, go_sem, seval, ag_, aa_] <;> (split <;> rfl)) (by simp only [bb_, go_sem, seval, ag_, aa_] <;> (rw [sok, ← hJ]; first | rfl | (rw [Bool.true_and, e0_]; rfl))) (by simp only [go_sem, seval, ag_, aa_])
 ·refine .seq (.rgn [ce_ (cr_ s = true) (fun h => h6_ s h hs), ce_ (cr_ s = true) (fun h => g7_ (sw' s) (by have := (k5_ h).1; omega) (by have := li_ h; omega))] (by simp only [go_sem, seval, ag_, aa_]; rfl) ?_ ?_)
  ·(first | trivial | (simp; done) | exact hJ.symm | exact ⟨hJ.symm, hJ.symm⟩)
  refine .ret ⟨.inr rfl, ?_⟩
  exact Out.plain (by simp only [Tryz.results81]; rfl) (by simp only [az_, bc_, go_sem, seval, ag_, aa_] <;> (split <;> rfl)) (by simp only [bb_, go_sem, seval, ag_, aa_] <;> (rw [sok, ← hJ]; first | rfl | (rw [Bool.true_and, e0_]; rfl))) (by simp only [go_sem, seval, ag_, aa_])
end
section
set_option maxRecDepth 100000
set_option maxHeartbeats 4000000
theorem aan_ {s : Sl} (h : cr_ s = true) : wf s.expr = true ∧ wf s.thn = true := by
 unfold cr_ at h
 by_cases k0 : s.kind = 0
 ·simp [k0, dh_] at h; rw [h.1.2, h.2]; exact ⟨ne_, ne_⟩
 by_cases k1 : s.kind = 1
 ·simp [k1, dh_] at h; rw [h.2]; exact ⟨g4_ h.1.2, ne_⟩
 by_cases k2 : s.kind = 2
 ·simp [k2, dh_] at h; rw [h.2]; exact ⟨g4_ h.1.2, ne_⟩
 by_cases k3 : s.kind = 3
 ·simp [k3] at h; exact ⟨g4_ h.1.2, g4_ h.2⟩
 ·simp [k0, k1, k2, k3] at h
theorem alh_ : smb B0 = true := by decide
theorem af8_ (s : Sl) (hs : ea_ s = true) (w1 : wf s.expr = true) (w2 : wf s.thn = true) : ACall En 110 [.ag (sC s)] [] [.ag (bC (bof s))] [] := by
 obtain ⟨s1, s2, s3, s4⟩ := gf_ hs
 refine aj_ (fn := Tryz.f110) [] Tryz.func110 rfl rfl (by simp) fun C => ?_
 rw [ay_]
 simp only [Tryz.ntmps110, T7_, List.length_nil, Nat.reduceAdd, Nat.reduceSub, List.replicate_succ, List.replicate_zero, List.cons_append, List.nil_append, bu_]
 refine .seq (.rgn [] (by simp only [go_sem, seval, ag_, at_]; rfl) ?_ ?_)
 ·first | trivial | simp
 refine .seq (.rgn [] (by simp only [go_sem, seval, ag_, at_]; rfl) ?_ ?_)
 ·first | trivial | simp
 refine .seq (.seq (.rgn [] (by simp only [go_sem, seval, ag_, at_]; rfl) ?_ ?_))
 ·first | trivial | simp
 refine .condB (by simp only [go_sem, seval, ag_, at_]; rfl) (by simp only [go_sem, seval, ag_, at_]) (fun h11 => ?_) (fun h11 => ?_)
 ·refine .rgn [a8_ (n6_ s.expr w1 s3)] (by simp only [go_sem, seval, ag_, at_]; rfl) ?_ ?_
  ·first | trivial | simp
  refine .seq (.seq (.rgn [] (by simp only [go_sem, seval, ag_, at_]; rfl) ?_ ?_))
  ·first | trivial | simp
  refine .condB (by simp only [go_sem, seval, ag_, at_]; rfl) (by simp only [go_sem, seval, ag_, at_]) (fun h18 => ?_) (fun h18 => ?_)
  ·refine .rgn [a8_ (n6_ s.thn w2 s4)] (by simp only [go_sem, seval, ag_, at_]; rfl) ?_ ?_
   ·first | trivial | simp
   refine .seq (.rgn [] (by simp only [go_sem, seval, ag_, at_]; rfl) ?_ ?_)
   ·first | trivial | simp
   refine .ret ⟨.inr rfl, ?_⟩
   exact Out.plainL (by simp only [Tryz.results110]; rfl) (by simp only [az_, bc_, go_sem, seval, ag_, at_] <;> (split <;> rfl)) (by simp only [bb_, go_sem, seval, ag_, at_] <;> (simp at h11 h18; simp [bof, h11, h18, at_, gx_, gw_, gt_, cq_, de_, ler, be_])) (by simp only [go_sem, seval, ag_, at_])
  ·refine .skip (.seq (.rgn [] (by simp only [go_sem, seval, ag_, at_]; rfl) ?_ ?_))
   ·first | trivial | simp
   refine .ret ⟨.inr rfl, ?_⟩
   exact Out.plainL (by simp only [Tryz.results110]; rfl) (by simp only [az_, bc_, go_sem, seval, ag_, at_] <;> (split <;> rfl)) (by simp only [bb_, go_sem, seval, ag_, at_] <;> (simp at h11 h18; simp [bof, h11, h18, at_, gx_, gw_, gt_, cq_, de_, ler, be_])) (by simp only [go_sem, seval, ag_, at_])
 ·refine .skip (.seq (.seq (.rgn [] (by simp only [go_sem, seval, ag_, at_]; rfl) ?_ ?_)))
  ·first | trivial | simp
  refine .condB (by simp only [go_sem, seval, ag_, at_]; rfl) (by simp only [go_sem, seval, ag_, at_]) (fun h18 => ?_) (fun h18 => ?_)
  ·refine .rgn [a8_ (n6_ s.thn w2 s4)] (by simp only [go_sem, seval, ag_, at_]; rfl) ?_ ?_
   ·first | trivial | simp
   refine .seq (.rgn [] (by simp only [go_sem, seval, ag_, at_]; rfl) ?_ ?_)
   ·first | trivial | simp
   refine .ret ⟨.inr rfl, ?_⟩
   exact Out.plainL (by simp only [Tryz.results110]; rfl) (by simp only [az_, bc_, go_sem, seval, ag_, at_] <;> (split <;> rfl)) (by simp only [bb_, go_sem, seval, ag_, at_] <;> (simp at h11 h18; omega)) (by simp only [go_sem, seval, ag_, at_])
  ·refine .skip (.seq (.rgn [] (by simp only [go_sem, seval, ag_, at_]; rfl) ?_ ?_))
   ·first | trivial | simp
   refine .ret ⟨.inr rfl, ?_⟩
   exact Out.plainL (by simp only [Tryz.results110]; rfl) (by simp only [az_, bc_, go_sem, seval, ag_, at_] <;> (split <;> rfl)) (by simp only [bb_, go_sem, seval, ag_, at_] <;> (simp at h11 h18; simp [bof, h11, h18, at_, gx_, gw_, gt_, cq_, de_, ler, be_])) (by simp only [go_sem, seval, ag_, at_])
end
section
set_option maxRecDepth 100000
set_option maxHeartbeats 4000000
def iy_ (b : Str) (q k : Int) (x : Sl) : Sl × Int :=
 if k = 0 then ({ x with kind := xd_ b q [0, 4, 1, 2, 3] }, q + 1)
 else if k = 1 then ({ x with name := ofI b q [[120], [108, 101, 116], [88], []] }, q + 1)
 else if k = 2 then ({ x with type := ofI b q [[105, 110, 116], [116, 101, 120, 116], []] }, q + 1)
 else if k = 3 then ({ x with thn := (gg_ b q).1 }, (gg_ b q).2)
 else (x, q)
def dl5 (b : Str) (p : Int) : Sl × Int := iy_ b ((cg_ b p).2 + 1) (br_ b (cg_ b p).2 40) (cg_ b p).1
theorem adt_ (b : Str) {p : Int} (hp : 0 ≤ p) (hp2 : p < 100000000) : p ≤ (dl5 b p).2 ∧ (dl5 b p).2 ≤ p + 700 ∧ ea_ (dl5 b p).1 = true := by
 obtain ⟨h1, h2, h3, _⟩ := lj_ b hp hp2
 obtain ⟨s1, s2, s3, s4⟩ := gf_ h3
 have hB := aia_ b (p := (cg_ b p).2 + 1) (by omega) (by omega)
 unfold dl5 iy_
 split
 ·exact ⟨by dsimp only; omega, by dsimp only; omega, h3⟩
 ·split
  ·have l1 := hc_ (b := b) (p := (cg_ b p).2 + 1) (l := [[120], [108, 101, 116], [88], []]) (by decide) (by omega) (by omega) 5 (by decide)
   refine ⟨by dsimp only; omega, by dsimp only; omega, ?_⟩
   simp only [ea_, s2, s3, s4, decide_true, Bool.and_true, T3_]; omega
  ·split
   ·have l1 := hc_ (b := b) (p := (cg_ b p).2 + 1) (l := [[105, 110, 116], [116, 101, 120, 116], []]) (by decide) (by omega) (by omega) 5 (by decide)
    refine ⟨by dsimp only; omega, by dsimp only; omega, ?_⟩
    simp only [ea_, s1, s3, s4, decide_true, Bool.and_true, Bool.true_and, T3_]; omega
   ·split
    ·refine ⟨by dsimp only; omega, by dsimp only; omega, ?_⟩
     simp only [ea_, s1, s2, s3, hB.2.2, decide_true, Bool.and_true]
    ·exact ⟨by dsimp only; omega, by dsimp only; omega, h3⟩
theorem xv_ (b : Str) (p : Int) (hb : b.length ≤ 2000) (hp : 0 ≤ p) (hp2 : p < 100000000) : ACall En 175 [.pt 0 2 0 0] [rdB b p] [.ag (sC (dl5 b p).1)] [rdB b (dl5 b p).2] := by
 obtain ⟨h1, h2, h3, w1, w2, _⟩ := lj_ b hp hp2
 refine aj_ (fn := Tryz.f175) [0] Tryz.func175 rfl rfl (by simp) fun C => ?_
 rw [ay_]
 simp only [Tryz.ntmps175, T7_, List.length_nil, Nat.reduceAdd, Nat.reduceSub, List.replicate_succ, List.replicate_zero, List.cons_append, List.nil_append, bu_]
 refine .seq (.rgn [] (by simp only [go_sem, seval, ai_, ao_, ax_, as_, an_, ak_, ag_]; rfl) ?_ ?_)
 ·first | trivial | simp
 refine .seq (.rgn [bx_ [0] [] (xe_ b p hb hp hp2)] (by simp only [go_sem, seval, ai_, ao_, ax_, as_, an_, ak_, ag_]; rfl) ?_ ?_)
 ·first | trivial | simp
 refine .seq (.seq (.rgn [bx_ [0] [] (dx_ b (cg_ b p).2 40 hb (by omega) (by omega))] (by simp only [go_sem, seval, ai_, ao_, ax_, as_, an_, ak_, ag_]; rfl) ?_ ?_))
 ·first | trivial | simp
 refine .block (.seq (.rgn [] (by simp only [go_sem, seval, ai_, ao_, ax_, as_, an_, ak_, ag_]; rfl) ?_ ?_))
 ·first | trivial | simp
 refine .condB (by simp only [go_sem, seval, ai_, ao_, ax_, as_, an_, ak_, ag_]; rfl) (by simp only [go_sem, seval, ai_, ao_, ax_, as_, an_, ak_, ag_]) (fun h8 => ?_) (fun h8 => ?_)
 ·refine .rgn [bx_ [0] [] (q2_ b ((cg_ b p).2 + 1) [0, 4, 1, 2, 3] (by decide) hb (by omega) (by omega))] (by simp only [go_sem, seval, ai_, ao_, ax_, as_, an_, ak_, ag_]; rfl) ?_ ?_
  ·first | trivial | simp
  refine .seq (.rgn [] (by simp only [go_sem, seval, ai_, ao_, ax_, as_, an_, ak_, ag_]; rfl) ?_ ?_)
  ·first | trivial | simp
  refine .ret ⟨.inr rfl, ?_⟩
  exact Out.mem' (by simp only [Tryz.results175]; rfl) (by simp only [az_, bc_, go_sem, seval, ai_, ao_, ax_, as_, an_, ak_, ag_]) (by simp only [bb_, rns, rn, go_sem, seval, ai_, ao_, ax_, as_, an_, ak_, ag_] <;> (simp at h8; simp [dl5, iy_, h8])) (by simp) rfl (by decide) (by simp only [go_sem, seval, ai_, ao_, ax_, as_, an_, ak_, ag_]) (by simp only [ao_, go_sem, seval, ai_, ao_, ax_, as_, an_, ak_, ag_]) (by simp only [ai_, go_sem, seval, ai_, ao_, ax_, as_, an_, ak_, ag_] <;> (simp at h8; simp [dl5, iy_, h8]))
 ·refine .seq (.rgn [] (by simp only [go_sem, seval, ai_, ao_, ax_, as_, an_, ak_, ag_]; rfl) ?_ ?_)
  ·first | trivial | simp
  refine .condB (by simp only [go_sem, seval, ai_, ao_, ax_, as_, an_, ak_, ag_]; rfl) (by simp only [go_sem, seval, ai_, ao_, ax_, as_, an_, ak_, ag_]) (fun h14 => ?_) (fun h14 => ?_)
  ·refine .rgn [bx_ [0] [] (qy_ b ((cg_ b p).2 + 1) [[120], [108, 101, 116], [88], []] (by decide) hb (by omega) (by omega))] (by simp only [go_sem, seval, ai_, ao_, ax_, as_, an_, ak_, ag_]; rfl) ?_ ?_
   ·first | trivial | simp
   refine .seq (.rgn [] (by simp only [go_sem, seval, ai_, ao_, ax_, as_, an_, ak_, ag_]; rfl) ?_ ?_)
   ·first | trivial | simp
   refine .ret ⟨.inr rfl, ?_⟩
   exact Out.mem' (by simp only [Tryz.results175]; rfl) (by simp only [az_, bc_, go_sem, seval, ai_, ao_, ax_, as_, an_, ak_, ag_]) (by simp only [bb_, rns, rn, go_sem, seval, ai_, ao_, ax_, as_, an_, ak_, ag_] <;> (simp at h8 h14; simp [dl5, iy_, h8, h14])) (by simp) rfl (by decide) (by simp only [go_sem, seval, ai_, ao_, ax_, as_, an_, ak_, ag_]) (by simp only [ao_, go_sem, seval, ai_, ao_, ax_, as_, an_, ak_, ag_]) (by simp only [ai_, go_sem, seval, ai_, ao_, ax_, as_, an_, ak_, ag_] <;> (simp at h8 h14; simp [dl5, iy_, h8, h14]))
  ·refine .seq (.rgn [] (by simp only [go_sem, seval, ai_, ao_, ax_, as_, an_, ak_, ag_]; rfl) ?_ ?_)
   ·first | trivial | simp
   refine .condB (by simp only [go_sem, seval, ai_, ao_, ax_, as_, an_, ak_, ag_]; rfl) (by simp only [go_sem, seval, ai_, ao_, ax_, as_, an_, ak_, ag_]) (fun h20 => ?_) (fun h20 => ?_)
   ·refine .rgn [bx_ [0] [] (qy_ b ((cg_ b p).2 + 1) [[105, 110, 116], [116, 101, 120, 116], []] (by decide) hb (by omega) (by omega))] (by simp only [go_sem, seval, ai_, ao_, ax_, as_, an_, ak_, ag_]; rfl) ?_ ?_
    ·first | trivial | simp
    refine .seq (.rgn [] (by simp only [go_sem, seval, ai_, ao_, ax_, as_, an_, ak_, ag_]; rfl) ?_ ?_)
    ·first | trivial | simp
    refine .ret ⟨.inr rfl, ?_⟩
    exact Out.mem' (by simp only [Tryz.results175]; rfl) (by simp only [az_, bc_, go_sem, seval, ai_, ao_, ax_, as_, an_, ak_, ag_]) (by simp only [bb_, rns, rn, go_sem, seval, ai_, ao_, ax_, as_, an_, ak_, ag_] <;> (simp at h8 h14 h20; simp [dl5, iy_, h8, h14, h20])) (by simp) rfl (by decide) (by simp only [go_sem, seval, ai_, ao_, ax_, as_, an_, ak_, ag_]) (by simp only [ao_, go_sem, seval, ai_, ao_, ax_, as_, an_, ak_, ag_]) (by simp only [ai_, go_sem, seval, ai_, ao_, ax_, as_, an_, ak_, ag_] <;> (simp at h8 h14 h20; simp [dl5, iy_, h8, h14, h20]))
   ·refine .seq (.rgn [] (by simp only [go_sem, seval, ai_, ao_, ax_, as_, an_, ak_, ag_]; rfl) ?_ ?_)
    ·first | trivial | simp
    refine .condB (by simp only [go_sem, seval, ai_, ao_, ax_, as_, an_, ak_, ag_]; rfl) (by simp only [go_sem, seval, ai_, ao_, ax_, as_, an_, ak_, ag_]) (fun h26 => ?_) (fun h26 => ?_)
    ·refine .rgn [bx_ [0] [] (ad5_ b ((cg_ b p).2 + 1) hb (by omega) (by omega))] (by simp only [go_sem, seval, ai_, ao_, ax_, as_, an_, ak_, ag_]; rfl) ?_ ?_
     ·first | trivial | simp
     refine .seq (.rgn [] (by simp only [go_sem, seval, ai_, ao_, ax_, as_, an_, ak_, ag_]; rfl) ?_ ?_)
     ·first | trivial | simp
     refine .ret ⟨.inr rfl, ?_⟩
     exact Out.mem' (by simp only [Tryz.results175]; rfl) (by simp only [az_, bc_, go_sem, seval, ai_, ao_, ax_, as_, an_, ak_, ag_]) (by simp only [bb_, rns, rn, go_sem, seval, ai_, ao_, ax_, as_, an_, ak_, ag_] <;> (simp at h8 h14 h20 h26; simp [dl5, iy_, h8, h14, h20, h26])) (by simp) rfl (by decide) (by simp only [go_sem, seval, ai_, ao_, ax_, as_, an_, ak_, ag_]) (by simp only [ao_, go_sem, seval, ai_, ao_, ax_, as_, an_, ak_, ag_]) (by simp only [ai_, go_sem, seval, ai_, ao_, ax_, as_, an_, ak_, ag_] <;> (simp at h8 h14 h20 h26; simp [dl5, iy_, h8, h14, h20, h26]))
    ·refine .skip (.seq (.rgn [] (by simp only [go_sem, seval, ai_, ao_, ax_, as_, an_, ak_, ag_]; rfl) ?_ ?_))
     ·first | trivial | simp
     refine .ret ⟨.inr rfl, ?_⟩
     exact Out.mem' (by simp only [Tryz.results175]; rfl) (by simp only [az_, bc_, go_sem, seval, ai_, ao_, ax_, as_, an_, ak_, ag_]) (by simp only [bb_, rns, rn, go_sem, seval, ai_, ao_, ax_, as_, an_, ak_, ag_] <;> (simp at h8 h14 h20 h26; simp [dl5, iy_, h8, h14, h20, h26])) (by simp) rfl (by decide) (by simp only [go_sem, seval, ai_, ao_, ax_, as_, an_, ak_, ag_]) (by simp only [ao_, go_sem, seval, ai_, ao_, ax_, as_, an_, ak_, ag_]) (by simp only [ai_, go_sem, seval, ai_, ao_, ax_, as_, an_, ak_, ag_] <;> (simp at h8 h14 h20 h26; simp [dl5, iy_, h8, h14, h20, h26]))
end
end Go.Proofs.YtcigkafioinfoaaGreatDoor
