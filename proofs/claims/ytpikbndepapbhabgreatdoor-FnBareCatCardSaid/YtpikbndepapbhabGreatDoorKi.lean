/- Lines without types: words, text, ok: the program's. Conditions: none. -/
import Derived.Test.YtpikbndepapbhabGreatDoorKh
set_option linter.unusedVariables false
set_option linter.unusedSimpArgs false
namespace Go.Proofs.YtpikbndepapbhabGreatDoor
section
set_option maxRecDepth 100000
set_option maxHeartbeats 4000000
theorem tf_ {l : Wd} {k : Nat} (h : k < l.length) : (bn_ (l.map (·.1))).getD k [] = [.s (l.getD k ([], 0)).1] := by
 simp [bn_, T8_, T6_ h]
theorem k7_ {r : List V} {l : List Str} (h : r ∈ bn_ l) : r.length = 1 := by
 obtain ⟨s, _, rfl⟩ := List.mem_map.1 h; rfl
theorem a9_ (l : List Str) (k j : Nat) : ((fj_ (bn_ l) [.s []] k).getD j []).drop 1 = [] := by
 rw [T8_]
 cases h : (fj_ (bn_ l) [.s []] k)[j]? with
 | none => rfl
 | some r =>
  have hm := List.mem_of_getElem? h
  have : r.length = 1 := by
   rcases mt_ hm with hm | rfl
   ·exact k7_ hm
   ·rfl
  simp only [Option.getD_some]; exact List.drop_of_length_le (by omega)
theorem ll_ (l : Wd) (hl : l.length ≤ 1000000) : ACall En 116 [.sl false (wdR l)] [] [.sl false (bn_ (l.map (·.1)))] [] := by
 have hp : ∀ k, br_ (fj_ (bn_ (l.map (·.1))) [.s []] k) = true := fun k => o2_ (ag_ _) rfl
 have hll : (bn_ (l.map (·.1))).length = l.length := by simp [bn_]
 refine ap_ (fn := Tryz.f116) [] Tryz.func116 rfl rfl (by simp) fun C => ?_
 rw [ay_]
 simp only [Tryz.ntmps116, T7_, List.length_nil, Nat.reduceAdd, Nat.reduceSub, List.replicate_succ, List.replicate_zero, List.cons_append, List.nil_append, bl_]
 refine .seq (.rgn [] (by simp only [go_sem, seval, ar_, ao_, hp, a9_, bo_, hll]; rfl) ?_ ?_)
 ·(first | trivial | (simp; done) | (simp at h12; simp; omega))
 refine .seq (.rgn [] (by simp only [go_sem, seval, ar_, ao_, hp, a9_, bo_, hll]; rfl) ?_ ?_)
 ·simp; omega
 refine .seq (.seq (.rgn [] (by simp only [go_sem, seval, ar_, ao_, hp, a9_, bo_, hll]; rfl) ?_ ?_))
 ·(first | trivial | (simp; done) | (simp at h12; simp; omega))
 refine .block (.loopK (fun k : Nat => ⟨[.no, .no, .no, .ow 18 1 0 l.length, .no, .no, .no, .no, .no, .sl false (wdR l), .i .i64 l.length, .i .i64 k, .no, .no, .no, .no, .no, .no, .no, .no, .no, .no, .no], a1_ [(18, ⟨9, 1, fj_ (bn_ (l.map (·.1))) [.s []] k⟩)], us [18]⟩) (fun k : Nat => k ≤ l.length) (fun k : Nat => l.length - k) (0) ?_ ?_ (fun k hI => ?_))
 ·simp
 ·exact Can.weak (Weak.lit (by simp only [go_sem, seval, ar_, ao_, hp, a9_, bo_, hll, au_, leV, as_, at_, V.inn, us, T9_, Ta_] <;> (simp)) (by simp only [go_sem, seval, ar_, ao_, hp, a9_, bo_, hll, au_, leV, as_, at_, V.inn, us, T9_, Ta_]) (by simp only [go_sem, seval, ar_, ao_, hp, a9_, bo_, hll, au_, leV, as_, at_, V.inn, us, T9_, Ta_] <;> (simp [pm_, hll])))
 refine .seq (.rgn [] (by simp only [go_sem, seval, ar_, ao_, hp, a9_, bo_, hll]; rfl) ?_ ?_)
 ·(first | trivial | (simp; done) | (simp at h12; simp; omega))
 refine .seq (.condB (by simp only [go_sem, seval, ar_, ao_, hp, a9_, bo_, hll]; rfl) (by simp only [go_sem, seval, ar_, ao_, hp, a9_, bo_, hll]) (fun h12 => ?_) (fun h12 => ?_))
 ·refine .skip (.seq (.block (.seq (.rgn [] (by simp only [go_sem, seval, ar_, ao_, hp, a9_, bo_, hll, ul_ (show k < l.length by simpa using h12)]; rfl) ?_ ?_))))
  ·(first | trivial | (simp; done) | (simp at h12; simp; omega))
  refine .rgn [] (by simp only [go_sem, seval, ar_, ao_, hp, a9_, bo_, hll, l9_ (l := bn_ (l.map (·.1))) (show k < (bn_ (l.map (·.1))).length by rw [hll]; simpa using h12)]; rfl) ?_ ?_
  ·(first | trivial | (simp; done) | (simp at h12; simp; omega))
  refine .rgn [] (by simp only [go_sem, seval, ar_, ao_, hp, a9_, bo_, hll]; rfl) ?_ ?_
  ·(first | trivial | (simp; done) | (simp at h12; simp; omega))
  refine Exists.intro (k + 1) ⟨?_, ?_, ?_⟩
  ·simp at h12; omega
  ·simp at h12; omega
  exact Can.weak (Weak.lit (by simp only [go_sem, seval, ar_, ao_, hp, a9_, bo_, hll, au_, leV, as_, at_, V.inn, us, T9_, Ta_] <;> (rw [a8_ (by simp at h12; omega) (by simp at h12; omega)]; simp)) (by simp only [go_sem, seval, ar_, ao_, hp, a9_, bo_, hll, au_, leV, as_, at_, V.inn, us, T9_, Ta_]) (by simp only [go_sem, seval, ar_, ao_, hp, a9_, bo_, hll, au_, leV, as_, at_, V.inn, us, T9_, Ta_] <;> ((rw [← l9_ (by rw [hll]; simpa using h12), tf_ (by simpa using h12)]))))
 ·refine .exit (.seq (.rgn [] (by simp only [go_sem, seval, ar_, ao_, hp, a9_, bo_, hll]; rfl) ?_ ?_))
  ·(first | trivial | (simp; done) | (simp at h12; simp; omega))
  refine .frz 18 (by simp only [go_sem, seval, ar_, ao_, hp, a9_, bo_, hll]; rfl) (by simp only [go_sem, seval, ar_, ao_, hp, a9_, bo_, hll]) (by simp only [go_sem, seval, ar_, ao_, hp, a9_, bo_, hll]; rfl) (by simp only [go_sem, seval, ar_, ao_, hp, a9_, bo_, hll]; rfl) ?_
  refine .ret ⟨.inr rfl, ?_⟩
  exact Out.plain (by simp only [Tryz.results116]; rfl) (by simp only [aw_, a3_, go_sem, seval, ar_, ao_, hp, a9_, bo_, hll] <;> (split <;> rfl)) (by simp only [a2_, go_sem, seval, ar_, ao_, hp, a9_, bo_, hll] <;> (simp at h12; rw [q6_ (by omega)]; simp [← hll, T1_, peel])) (by simp only [go_sem, seval, ar_, ao_, hp, a9_, bo_, hll])
def bC (b : Bl) : List V := .i .i64 b.kind :: .s b.name :: (eC b.expr ++ eC b.thn)
theorem ae_ (b : Bl) : bC b = [.i .i64 b.kind, .s b.name, .i .i64 b.expr.kind, .i .i64 b.expr.n, .s b.expr.s, .sl false (eR b.expr.kids), .i .i64 b.thn.kind, .i .i64 b.thn.n, .s b.thn.s, .sl false (eR b.thn.kids)] := by
 simp only [bC, cy_]; rfl
def smb (b : Bl) : Bool := decide (b.name.length < 4611686018427387904) && sm b.expr && sm b.thn
theorem ep_ {b : Bl} (h : smb b = true) : b.name.length < 4611686018427387904 ∧ sm b.expr = true ∧ sm b.thn = true := by
 simp only [smb, T5_, T3_] at h; exact ⟨h.1.1, h.1.2, h.2⟩
def ju_ (b : Bl) : Wd :=
 if b.kind = 1 then (b.name, 101) :: (wEq, 102) :: src b.expr 0 0
 else if b.kind = 2 then (eq_, 103) :: src b.expr 0 0
 else if b.kind = 3 then ((wIf, 100) :: src b.expr 0 0 ++ [(s7_, -1), (eq_, 103)]) ++ src b.thn 0 (cnt b.expr)
 else []
theorem ga_ {b : Bl} (h : ca_ b = true) : (b.kind = 0 ∨ b.kind = 1 ∨ b.kind = 2 ∨ b.kind = 3) ∧ (b.kind = 1 ∨ b.kind = 2 ∨ b.kind = 3 → eok b.expr = true) ∧ (b.kind = 3 → eok b.thn = true) := by
 unfold ca_ at h
 by_cases k0 : b.kind = 0
 ·simp [k0]
 by_cases k1 : b.kind = 1
 ·simp [k1] at h; simp [k1]; exact df_ h.1.2
 by_cases k2 : b.kind = 2
 ·simp [k2] at h; simp [k2]; exact df_ h.1.2
 by_cases k3 : b.kind = 3
 ·simp [k3] at h; simp [k3]; exact ⟨df_ h.1.2, df_ h.2⟩
 ·simp [k0, k1, k2, k3] at h
theorem tq_ {b : Bl} (h : ca_ b = true) : (ju_ b).map (·.1) = bw b := by
 obtain ⟨h0, h1, h2⟩ := ga_ h
 unfold ju_ bw
 rcases h0 with k | k | k | k
 ·simp [k]
 ·simp [k, ee_, g6_ (b6_ (h1 (.inl k)))]
 ·simp [k, ee_, g6_ (b6_ (h1 (.inr (.inl k))))]
 ·simp [k, ee_, g6_ (b6_ (h1 (.inr (.inr k)))), g6_ (b6_ (h2 k))]
theorem kq_ {e : E} (h : eok e = true) : many e ((5 : Nat) : Int) ≤ 1000 := by have := hs_ h; show many e 5 ≤ 1000; omega
theorem n0_ {e : E} (h : eok e = true) : 1 ≤ cnt e ∧ cnt e ≤ 12 := by have := (cq_ 5 e 0 (b6_ h)).2.2.2; have h2 := hs_ h; have h3 : many e ((5 : Nat) : Int) = many e 5 := rfl; omega
theorem gd_ {e : E} (h : eok e = true) (must nx : Int) : (src e must nx).length ≤ 36 := by rw [hc_]; exact (cg_ h must).2.1
theorem h0_ (l : Wd) : wdR l = [] ↔ l = [] := by cases l <;> simp [wdR]
theorem q9_ (b : Bl) (h : ca_ b = true) (hs : smb b = true) : ACall En 117 [.ag (bC b)] [] [.sl false (wdR (ju_ b))] [] := by
 obtain ⟨h0, h1, h2⟩ := ga_ h
 obtain ⟨s1, s2, s3⟩ := ep_ hs
 have W : b.kind = 1 ∨ b.kind = 2 ∨ b.kind = 3 → _ := fun hk => ok_ 5 b.expr 0 0 (b6_ (h1 hk)) s2 (kq_ (h1 hk)) (by decide) (by have := n0_ (h1 hk); omega) (by decide)
 have W3 : b.kind = 3 → _ := fun hk => ok_ 5 b.thn 0 (0 + cnt b.expr) (b6_ (h2 hk)) s3 (kq_ (h2 hk)) (by have := n0_ (h1 (.inr (.inr hk))); omega) (by have := n0_ (h1 (.inr (.inr hk))); have := n0_ (h2 hk); omega) (by decide)
 refine ap_ (fn := Tryz.f117) [] Tryz.func117 rfl rfl (by simp) fun C => ?_
 rw [ay_]
 simp only [Tryz.ntmps117, T7_, List.length_nil, Nat.reduceAdd, Nat.reduceSub, List.replicate_succ, List.replicate_zero, List.cons_append, List.nil_append, bl_]
 refine .seq (.rgn [] (by simp only [go_sem, seval, ar_, ao_, T2_, T1_, ae_]; rfl) ?_ ?_)
 ·(first | trivial | (simp; done) | (simp [b5_, List.forall_mem_append, bj_]; done))
 refine .seq (.rgn [] (by simp only [go_sem, seval, ar_, ao_, T2_, T1_, ae_]; rfl) ?_ ?_)
 ·(first | trivial | (simp; done) | (simp [b5_, List.forall_mem_append, bj_]; done))
 refine .seq (.seq (.rgn [] (by simp only [go_sem, seval, ar_, ao_, T2_, T1_, ae_]; rfl) ?_ ?_))
 ·(first | trivial | (simp; done) | (simp [b5_, List.forall_mem_append, bj_]; done))
 refine .block (.seq (.rgn [] (by simp only [go_sem, seval, ar_, ao_, T2_, T1_, ae_]; rfl) ?_ ?_))
 ·(first | trivial | (simp; done) | (simp [b5_, List.forall_mem_append, bj_]; done))
 refine .condB (by simp only [go_sem, seval, ar_, ao_, T2_, T1_, ae_]; rfl) (by simp only [go_sem, seval, ar_, ao_, T2_, T1_, ae_]) (fun h7 => ?_) (fun h7 => ?_)
 ·refine .seq (.rgnD [bi_ [13] [26] (W (.inl (by simpa using h7)))] enM (by simp only [go_sem, seval, ar_, ao_, T2_, T1_, ae_, ak_, aq_]; rfl) (by rfl) ?_ ?_)
  ·have q := h1 (.inl (by simpa using h7)); have q2 := (gd_ q 0 0); have q3 : src b.expr 0 0 ≠ [] := (fun e => by have := (cg_ q 0).1; rw [← hc_ b.expr 0 0, e] at this; simp at this); simp [b5_, bj_, q3, h0_]; omega
  refine .frz 27 (by simp only [go_sem, seval, ar_, ao_, T2_, T1_, ae_]; rfl) (by simp only [go_sem, seval, ar_, ao_, T2_, T1_, ae_]) (by simp only [go_sem, seval, ar_, ao_, T2_, T1_, ae_]; rfl) (by simp only [go_sem, seval, ar_, ao_, T2_, T1_, ae_]; rfl) ?_
  refine .ret ⟨.inr rfl, ?_⟩
  exact Out.plain (by simp only [Tryz.results117]; rfl) (by simp only [aw_, a3_, go_sem, seval, ar_, ao_, T2_, T1_, ae_] <;> (split <;> rfl)) (by simp only [a2_, go_sem, seval, ar_, ao_, T2_, T1_, ae_] <;> (have k : b.kind = 1 := (by simpa using h7); rw [if_pos (by omega), T1_ (by simp [ar_]; omega)]; simp [ju_, k, wdR, peel, wEq])) (by simp only [go_sem, seval, ar_, ao_, T2_, T1_, ae_])
 ·refine .seq (.rgn [] (by simp only [go_sem, seval, ar_, ao_, T2_, T1_, ae_]; rfl) ?_ ?_)
  ·(first | trivial | (simp; done) | (simp [b5_, List.forall_mem_append, bj_]; done))
  refine .condB (by simp only [go_sem, seval, ar_, ao_, T2_, T1_, ae_]; rfl) (by simp only [go_sem, seval, ar_, ao_, T2_, T1_, ae_]) (fun h18 => ?_) (fun h18 => ?_)
  ·refine .seq (.rgn [bi_ [13] [34] (W (.inr (.inl (by simpa using h18))))] (by simp only [go_sem, seval, ar_, ao_, T2_, T1_, ae_, ak_, aq_]; rfl) ?_ ?_)
   ·have q := h1 (.inr (.inl (by simpa using h18))); have q2 := (gd_ q 0 0); have q3 : src b.expr 0 0 ≠ [] := (fun e => by have := (cg_ q 0).1; rw [← hc_ b.expr 0 0, e] at this; simp at this); simp [b5_, bj_, q3, h0_]; omega
   refine .frz 35 (by simp only [go_sem, seval, ar_, ao_, T2_, T1_, ae_]; rfl) (by simp only [go_sem, seval, ar_, ao_, T2_, T1_, ae_]) (by simp only [go_sem, seval, ar_, ao_, T2_, T1_, ae_]; rfl) (by simp only [go_sem, seval, ar_, ao_, T2_, T1_, ae_]; rfl) ?_
   refine .ret ⟨.inr rfl, ?_⟩
   exact Out.plain (by simp only [Tryz.results117]; rfl) (by simp only [aw_, a3_, go_sem, seval, ar_, ao_, T2_, T1_, ae_] <;> (split <;> rfl)) (by simp only [a2_, go_sem, seval, ar_, ao_, T2_, T1_, ae_] <;> (have k : b.kind = 2 := (by simpa using h18); rw [if_pos (by omega), T1_ (by simp [ar_]; omega)]; simp [ju_, k, wdR, peel, eq_])) (by simp only [go_sem, seval, ar_, ao_, T2_, T1_, ae_])
  ·refine .seq (.rgn [] (by simp only [go_sem, seval, ar_, ao_, T2_, T1_, ae_]; rfl) ?_ ?_)
   ·(first | trivial | (simp; done) | (simp [b5_, List.forall_mem_append, bj_]; done))
   refine .condB (by simp only [go_sem, seval, ar_, ao_, T2_, T1_, ae_]; rfl) (by simp only [go_sem, seval, ar_, ao_, T2_, T1_, ae_]) (fun h26 => ?_) (fun h26 => ?_)
   ·refine .seq (.rgn [bi_ [13] [42] (W (.inr (.inr (by simpa using h26))))] (by simp only [go_sem, seval, ar_, ao_, T2_, T1_, ae_, ak_, aq_]; rfl) ?_ ?_)
    ·have q := h1 (.inr (.inr (by simpa using h26))); have q2 := (gd_ q 0 0); have q3 : src b.expr 0 0 ≠ [] := (fun e => by have := (cg_ q 0).1; rw [← hc_ b.expr 0 0, e] at this; simp at this); simp [b5_, bj_, q3, h0_]; omega
    refine .seq (.rgn [] (by simp only [go_sem, seval, ar_, ao_, T2_, T1_, ae_]; rfl) ?_ ?_)
    ·have q := h1 (.inr (.inr (by simpa using h26))); have q2 := (gd_ q 0 0); simp [b5_, bj_]; omega
    refine .seq (.rgn [bi_ [13] [52] (W3 (by simpa using h26))] (by simp only [go_sem, seval, ar_, ao_, T2_, T1_, ae_, ak_, aq_]; rfl) ?_ ?_)
    ·have q := h1 (.inr (.inr (by simpa using h26))); have q2 := (gd_ q 0 0); have q4 := gd_ (h2 (by simpa using h26)) 0 (0 + cnt b.expr); simp at q4; simp [b5_, bj_]; omega
    refine .frz 53 (by simp only [go_sem, seval, ar_, ao_, T2_, T1_, ae_]; rfl) (by simp only [go_sem, seval, ar_, ao_, T2_, T1_, ae_]) (by simp only [go_sem, seval, ar_, ao_, T2_, T1_, ae_]; rfl) (by simp only [go_sem, seval, ar_, ao_, T2_, T1_, ae_]; rfl) ?_
    refine .ret ⟨.inr rfl, ?_⟩
    exact Out.plain (by simp only [Tryz.results117]; rfl) (by simp only [aw_, a3_, go_sem, seval, ar_, ao_, T2_, T1_, ae_] <;> (split <;> rfl)) (by simp only [a2_, go_sem, seval, ar_, ao_, T2_, T1_, ae_] <;> (have k : b.kind = 3 := (by simpa using h26); rw [if_pos (by omega), T1_ (by simp [ar_]; omega)]; simp [ju_, k, wdR, peel, eq_, wIf, s7_])) (by simp only [go_sem, seval, ar_, ao_, T2_, T1_, ae_])
   ·refine .skip (.seq (.rgn [] (by simp only [go_sem, seval, ar_, ao_, T2_, T1_, ae_]; rfl) ?_ ?_))
    ·(first | trivial | (simp; done) | (simp [b5_, List.forall_mem_append, bj_]; done))
    refine .can (Can.slotLe 2 (.sl false []) (by simp only [go_sem, seval, ar_, ao_, T2_, T1_, ae_] <;> trivial) (by simp only [go_sem, seval, ar_, ao_, T2_, T1_, ae_] <;> rfl)) ?_
    refine .ret ⟨.inr rfl, ?_⟩
    exact Out.plain (by simp only [Tryz.results117]; rfl) (by simp only [aw_, a3_, go_sem, seval, ar_, ao_, T2_, T1_, ae_] <;> (split <;> rfl)) (by simp only [a2_, go_sem, seval, ar_, ao_, T2_, T1_, ae_] <;> (have k : b.kind = 0 := (by simp_all); simp [ju_, k, wdR])) (by simp only [go_sem, seval, ar_, ao_, T2_, T1_, ae_])
end
section
set_option maxRecDepth 100000
set_option maxHeartbeats 4000000
theorem j3_ {b : Bl} (h : ca_ b = true) : (bt_ (bw b)).length ≤ 1000 := by
 have := ot_ h
 have h2 := ng_ (fun s hs => (this.2 s hs).2)
 omega
theorem n6_ (b : Bl) (h : ca_ b = true) (hs : smb b = true) : ACall En 67 [.ag (bC b)] [] [.s (bt_ (bw b))] [] := by
 have h1 := j3_ h
 have h2 := (ot_ h).1
 have h3 := tq_ h
 have h4 : (ju_ b).length = (bw b).length := by rw [← h3, List.length_map]
 refine ap_ (fn := Tryz.f67) [] Tryz.func67 rfl rfl (by simp) fun C => ?_
 rw [ay_]
 simp only [Tryz.ntmps67, T7_, List.length_nil, Nat.reduceAdd, Nat.reduceSub, List.replicate_succ, List.replicate_zero, List.cons_append, List.nil_append, bl_]
 refine .seq (.rgn [] (by simp only [go_sem, seval, ae_, ao_, h3]; rfl) ?_ ?_)
 ·simp
 refine .seq (.rgn [a4_ (q9_ b h hs), a4_ (ll_ (ju_ b) (by omega)), a4_ (kl_ (bw b) (by omega) (by omega))] (by simp only [go_sem, seval, ae_, ao_, h3]; rfl) ?_ ?_)
 ·simp
 refine .ret ⟨.inr rfl, ?_⟩
 exact Out.plain (by simp only [Tryz.results67]; rfl) (by simp only [aw_, a3_, go_sem, seval, ae_, ao_, h3] <;> (split <;> rfl)) (by simp only [a2_, go_sem, seval, ae_, ao_, h3] <;> (rfl)) (by simp only [go_sem, seval, ae_, ao_, h3])
theorem d6_ (a b : Nat) : decide (a ≤ b) = decide ((a : Int) ≤ (b : Int)) := decide_eq_decide.2 (by omega)
theorem pg_ (b : Bl) (hs : smb b = true) : ACall En 22 [.ag (bC b)] [] [.b (bok b)] [] := by
 obtain ⟨s1, s2, s3⟩ := ep_ hs
 refine ap_ (fn := Tryz.f22) [] Tryz.func22 rfl rfl (by simp) fun C => ?_
 rw [ay_]
 simp only [Tryz.ntmps22, T7_, List.length_nil, Nat.reduceAdd, Nat.reduceSub, List.replicate_succ, List.replicate_zero, List.cons_append, List.nil_append, bl_]
 refine .seq (.rgn [] (by simp only [go_sem, seval, ae_]; rfl) ?_ ?_)
 ·(first | trivial | (simp; done) | exact hJ.symm)
 refine .seq (.rgn [] (by simp only [go_sem, seval, ae_]; rfl) ?_ ?_)
 ·(first | trivial | (simp; done) | exact hJ.symm)
 refine .seqJ (fun q : Bool => ⟨[.no, .pt 11 10 0 0, .no, .b q, .no, .no, .no, .no, .no, .no, .no, .no, .no, .no, .no, .no, .no, .no, .no, .no, .no, .no, .no, .no, .no, .no, .no, .no, .no, .no, .no, .no, .no, .no, .no, .no, .no, .no, .no, .no, .no, .no, .no, .no, .no, .no, .no, .no, .no, .no, .no, .no, .no, .no, .no, .no, .no, .no, .no, .no, .no, .no, .no, .no, .no, .no, .no, .no, .no, .no, .no, .no, .no], a1_ [(11, ⟨35, 10, [bC b]⟩)], us [11]⟩) (fun q : Bool => q = ca_ b) ?_ (fun q hJ => ?_)
 ·refine .seq (.rgn [] (by simp only [go_sem, seval, ae_]; rfl) ?_ ?_)
  ·(first | trivial | (simp; done) | exact hJ.symm)
  refine .block (.seq (.rgn [] (by simp only [go_sem, seval, ae_]; rfl) ?_ ?_))
  ·(first | trivial | (simp; done) | exact hJ.symm)
  refine .condB (by simp only [go_sem, seval, ae_]; rfl) (by simp only [go_sem, seval, ae_]) (fun h6 => ?_) (fun h6 => ?_)
  ·refine .rgn [a4_ (ex_ b.expr s2), a4_ (ex_ b.thn s3)] (by simp only [go_sem, seval, ae_]; rfl) ?_ ?_
   ·(first | trivial | (simp; done) | exact hJ.symm)
   refine Exists.intro (ca_ b) ⟨?_, ?_⟩
   ·rfl
   exact Can.weak (Weak.lit (by simp only [go_sem, seval, ae_, au_, leV, as_, at_, V.inn, us, T9_, Ta_] <;> ((unfold ca_; simp_all))) (by simp only [go_sem, seval, ae_, au_, leV, as_, at_, V.inn, us, T9_, Ta_]) (by simp only [go_sem, seval, ae_, au_, leV, as_, at_, V.inn, us, T9_, Ta_]))
  ·refine .seq (.rgn [] (by simp only [go_sem, seval, ae_]; rfl) ?_ ?_)
   ·(first | trivial | (simp; done) | exact hJ.symm)
   refine .condB (by simp only [go_sem, seval, ae_]; rfl) (by simp only [go_sem, seval, ae_]) (fun h21 => ?_) (fun h21 => ?_)
   ·refine .rgn [a4_ (lm_ b.name s1), a4_ (g7_ b.expr s2), a4_ (ex_ b.thn s3)] (by simp only [go_sem, seval, ae_]; rfl) ?_ ?_
    ·(first | trivial | (simp; done) | exact hJ.symm)
    refine Exists.intro (ca_ b) ⟨?_, ?_⟩
    ·rfl
    exact Can.weak (Weak.lit (by simp only [go_sem, seval, ae_, au_, leV, as_, at_, V.inn, us, T9_, Ta_] <;> ((unfold ca_; simp_all))) (by simp only [go_sem, seval, ae_, au_, leV, as_, at_, V.inn, us, T9_, Ta_]) (by simp only [go_sem, seval, ae_, au_, leV, as_, at_, V.inn, us, T9_, Ta_]))
   ·refine .seq (.rgn [] (by simp only [go_sem, seval, ae_]; rfl) ?_ ?_)
    ·(first | trivial | (simp; done) | exact hJ.symm)
    refine .condB (by simp only [go_sem, seval, ae_]; rfl) (by simp only [go_sem, seval, ae_]) (fun h36 => ?_) (fun h36 => ?_)
    ·refine .rgn [a4_ (g7_ b.expr s2), a4_ (ex_ b.thn s3)] (by simp only [go_sem, seval, ae_]; rfl) ?_ ?_
     ·(first | trivial | (simp; done) | exact hJ.symm)
     refine Exists.intro (ca_ b) ⟨?_, ?_⟩
     ·rfl
     exact Can.weak (Weak.lit (by simp only [go_sem, seval, ae_, au_, leV, as_, at_, V.inn, us, T9_, Ta_] <;> ((unfold ca_; simp_all))) (by simp only [go_sem, seval, ae_, au_, leV, as_, at_, V.inn, us, T9_, Ta_]) (by simp only [go_sem, seval, ae_, au_, leV, as_, at_, V.inn, us, T9_, Ta_]))
    ·refine .seq (.rgn [] (by simp only [go_sem, seval, ae_]; rfl) ?_ ?_)
     ·(first | trivial | (simp; done) | exact hJ.symm)
     refine .condB (by simp only [go_sem, seval, ae_]; rfl) (by simp only [go_sem, seval, ae_]) (fun h51 => ?_) (fun h51 => ?_)
     ·refine .rgn [a4_ (g7_ b.expr s2), a4_ (g7_ b.thn s3)] (by simp only [go_sem, seval, ae_]; rfl) ?_ ?_
      ·(first | trivial | (simp; done) | exact hJ.symm)
      refine Exists.intro (ca_ b) ⟨?_, ?_⟩
      ·rfl
      exact Can.weak (Weak.lit (by simp only [go_sem, seval, ae_, au_, leV, as_, at_, V.inn, us, T9_, Ta_] <;> ((unfold ca_; simp_all))) (by simp only [go_sem, seval, ae_, au_, leV, as_, at_, V.inn, us, T9_, Ta_]) (by simp only [go_sem, seval, ae_, au_, leV, as_, at_, V.inn, us, T9_, Ta_]))
     ·refine .skip ?_
      refine Exists.intro (ca_ b) ⟨?_, ?_⟩
      ·rfl
      exact Can.weak (Weak.lit (by simp only [go_sem, seval, ae_, au_, leV, as_, at_, V.inn, us, T9_, Ta_] <;> ((unfold ca_; simp_all))) (by simp only [go_sem, seval, ae_, au_, leV, as_, at_, V.inn, us, T9_, Ta_]) (by simp only [go_sem, seval, ae_, au_, leV, as_, at_, V.inn, us, T9_, Ta_]))
 cases q
 ·refine .seq (.rgn [eu_ (ca_ b = true) (fun h => n6_ b h hs)] (by simp only [go_sem, seval, ae_]; rfl) ?_ ?_)
  ·(first | trivial | (simp; done) | exact hJ.symm)
  refine .ret ⟨.inr rfl, ?_⟩
  exact Out.plain (by simp only [Tryz.results22]; rfl) (by simp only [aw_, a3_, go_sem, seval, ae_] <;> (split <;> rfl)) (by simp only [a2_, go_sem, seval, ae_] <;> (rw [bok, ← hJ]; first | rfl | (rw [Bool.true_and, d6_]; rfl))) (by simp only [go_sem, seval, ae_])
 ·refine .seq (.rgn [eu_ (ca_ b = true) (fun h => n6_ b h hs)] (by simp only [go_sem, seval, ae_]; rfl) ?_ ?_)
  ·(first | trivial | (simp; done) | exact hJ.symm)
  refine .ret ⟨.inr rfl, ?_⟩
  exact Out.plain (by simp only [Tryz.results22]; rfl) (by simp only [aw_, a3_, go_sem, seval, ae_] <;> (split <;> rfl)) (by simp only [a2_, go_sem, seval, ae_] <;> (rw [bok, ← hJ]; first | rfl | (rw [Bool.true_and, d6_]; rfl))) (by simp only [go_sem, seval, ae_])
end
section
set_option maxRecDepth 100000
set_option maxHeartbeats 4000000
def lvl (e : E) : Int := if e.kind = 3 then (if e.s = [60] then 1 else if e.s = [42] then 3 else 2) else 4
theorem qv_ {e : E} (k : e.kind = 3) (h : ei_ e.s = true) : lvl e = bk_ e.s := by
 simp only [ei_, Bool.or_eq_true, beq_iff_eq] at h
 unfold lvl
 rw [if_pos k]
 rcases h with ((h | h) | h) | h <;> rw [h] <;> decide
theorem pr_ (e : E) : ACall En 168 [.ag (eC e)] [] [.i .i64 (lvl e)] [] := by
 refine ap_ (fn := Tryz.f168) [] Tryz.func168 rfl rfl (by simp) fun C => ?_
 rw [ay_]
 simp only [Tryz.ntmps168, T7_, List.length_nil, Nat.reduceAdd, Nat.reduceSub, List.replicate_succ, List.replicate_zero, List.cons_append, List.nil_append, bl_]
 refine .seq (.rgn [] (by simp only [go_sem, seval]; rfl) ?_ ?_)
 ·first | trivial | simp
 refine .seq (.seq (.rgn [] (by simp only [go_sem, seval]; rfl) ?_ ?_))
 ·first | trivial | simp
 refine .condB (by simp only [go_sem, seval]; rfl) (by simp only [go_sem, seval]) (fun h5 => ?_) (fun h5 => ?_)
 ·refine .seq (.rgn [] (by simp only [go_sem, seval]; rfl) ?_ ?_)
  ·first | trivial | simp
  refine .ret ⟨.inr rfl, ?_⟩
  exact Out.plain (by simp only [Tryz.results168]; rfl) (by simp only [aw_, a3_, go_sem, seval] <;> (split <;> rfl)) (by simp only [a2_, go_sem, seval] <;> (simp at h5; simp [lvl, h5])) (by simp only [go_sem, seval])
 ·refine .skip (.seq (.seq (.rgn [] (by simp only [go_sem, seval]; rfl) ?_ ?_)))
  ·first | trivial | simp
  refine .block (.seq (.rgn [] (by simp only [go_sem, seval]; rfl) ?_ ?_))
  ·first | trivial | simp
  refine .condB (by simp only [go_sem, seval]; rfl) (by simp only [go_sem, seval]) (fun h8 => ?_) (fun h8 => ?_)
  ·refine .seq (.rgn [] (by simp only [go_sem, seval]; rfl) ?_ ?_)
   ·first | trivial | simp
   refine .ret ⟨.inr rfl, ?_⟩
   exact Out.plain (by simp only [Tryz.results168]; rfl) (by simp only [aw_, a3_, go_sem, seval] <;> (split <;> rfl)) (by simp only [a2_, go_sem, seval] <;> (simp at h5 h8; simp [lvl, h5, h8])) (by simp only [go_sem, seval])
  ·refine .seq (.rgn [] (by simp only [go_sem, seval]; rfl) ?_ ?_)
   ·first | trivial | simp
   refine .condB (by simp only [go_sem, seval]; rfl) (by simp only [go_sem, seval]) (fun h10 => ?_) (fun h10 => ?_)
   ·refine .seq (.rgn [] (by simp only [go_sem, seval]; rfl) ?_ ?_)
    ·first | trivial | simp
    refine .ret ⟨.inr rfl, ?_⟩
    exact Out.plain (by simp only [Tryz.results168]; rfl) (by simp only [aw_, a3_, go_sem, seval] <;> (split <;> rfl)) (by simp only [a2_, go_sem, seval] <;> (simp at h5 h8 h10; simp [lvl, h5, h10])) (by simp only [go_sem, seval])
   ·refine .skip (.seq (.rgn [] (by simp only [go_sem, seval]; rfl) ?_ ?_))
    ·first | trivial | simp
    refine .ret ⟨.inr rfl, ?_⟩
    exact Out.plain (by simp only [Tryz.results168]; rfl) (by simp only [aw_, a3_, go_sem, seval] <;> (split <;> rfl)) (by simp only [a2_, go_sem, seval] <;> (simp at h5 h8 h10; simp [lvl, h5, h8, h10])) (by simp only [go_sem, seval])
theorem f1_ (e : E) (hs : sm e = true) : ACall En 77 [.ag (eC e)] [] [.b (pe e)] [] := by
 refine ap_ (fn := Tryz.f77) [] Tryz.func77 rfl rfl (by simp) fun C => ?_
 rw [ay_]
 simp only [Tryz.ntmps77, T7_, List.length_nil, Nat.reduceAdd, Nat.reduceSub, List.replicate_succ, List.replicate_zero, List.cons_append, List.nil_append, bl_]
 refine .seq (.rgn [] (by simp only [go_sem, seval]; rfl) ?_ ?_)
 ·first | trivial | simp
 refine .seq (.rgn [a4_ (jh_ e hs), a4_ (o4_ e hs)] (by simp only [go_sem, seval]; rfl) ?_ ?_)
 ·simp
 refine .ret ⟨.inr rfl, ?_⟩
 exact Out.plain (by simp only [Tryz.results77]; rfl) (by simp only [aw_, a3_, go_sem, seval] <;> (split <;> rfl)) (by simp only [a2_, go_sem, seval] <;> (rfl)) (by simp only [go_sem, seval])
theorem qt_ {n : Nat} (h : 9 < n) (o : Str) : Lib.decDigits n ++ o = Lib.decDigits (n / 10) ++ (UInt8.ofNat (48 + n % 10) :: o) := by
 rw [ev_ (by omega)]; simp
theorem uu_ {n : Int} (h1 : 0 ≤ n) (h2 : n < 256) : IntKind.u8.wrap n = n := by
 simp only [IntKind.wrap, IntKind.signed, IntKind.bits]; simp; omega
theorem cm_ (n : Nat) : (Lib.decDigits n).length ≤ n + 1 := by
 induction n using Nat.strongRecOn with
 | ind n ih =>
  by_cases h : n < 10
  ·rw [Lib.decDigits_one h]; simp
  ·rw [ev_ h]
   have := ih (n / 10) (by omega)
   simp; omega
theorem jb_ (n : Nat) (hn : n < 4611686018427387904) : ACall En 169 [.i .i64 n] [] [.s (Lib.decDigits n)] [] := by
 refine ap_ (fn := Tryz.f169) [] Tryz.func169 rfl rfl (by simp) fun C => ?_
 rw [ay_]
 simp only [Tryz.ntmps169, T7_, List.length_nil, Nat.reduceAdd, Nat.reduceSub, List.replicate_succ, List.replicate_zero, List.cons_append, List.nil_append, bl_]
 refine .seq (.rgn [] (by simp only [go_sem, seval]; rfl) ?_ ?_)
 ·(first | trivial | (simp; done) | (have q := cm_ n; rw [hI.2] at q; simp at q; simp; omega))
 refine .seq (.seq (.rgn [] (by simp only [go_sem, seval]; rfl) ?_ ?_))
 ·(first | trivial | (simp; done) | (have q := cm_ n; rw [hI.2] at q; simp at q; simp; omega))
 refine .condB (by simp only [go_sem, seval]; rfl) (by simp only [go_sem, seval]) (fun h5 => ?_) (fun h5 => ?_)
 ·simp at h5; omega
 ·refine .skip (.seq (.seq (.rgn [] (by simp only [go_sem, seval]; rfl) ?_ ?_)))
  ·(first | trivial | (simp; done) | (have q := cm_ n; rw [hI.2] at q; simp at q; simp; omega))
  refine .condB (by simp only [go_sem, seval]; rfl) (by simp only [go_sem, seval]) (fun h7 => ?_) (fun h7 => ?_)
  ·simp at h7; omega
  ·refine .skip (.seq (.rgn [] (by simp only [go_sem, seval]; rfl) ?_ ?_))
   ·(first | trivial | (simp; done) | (have q := cm_ n; rw [hI.2] at q; simp at q; simp; omega))
   refine .seq (.block (.loopK (fun k : Nat × Str => ⟨[.i .i64 k.1, .no, .no, .s k.2, .no, .no, .no, .no, .no, .no, .no, .no, .no, .no, .no, .no, .no, .no, .no, .no, .no, .no, .no, .no, .no, .no, .no, .no, .no, .no, .no], a1_ [], us []⟩) (fun k : Nat × Str => k.1 ≤ n ∧ Lib.decDigits n = Lib.decDigits k.1 ++ k.2) (fun k : Nat × Str => k.1) ((n, [])) ?_ ?_ (fun k hI => ?_)))
   ·simp
   ·exact Can.weak (Weak.lit (by simp only [go_sem, seval, au_, leV, as_, at_, V.inn, us, T9_, Ta_] <;> (simp)) (by simp only [go_sem, seval, au_, leV, as_, at_, V.inn, us, T9_, Ta_]) (by simp only [go_sem, seval, au_, leV, as_, at_, V.inn, us, T9_, Ta_]))
   refine .seq (.seq (.rgn [] (by simp only [go_sem, seval]; rfl) ?_ ?_))
   ·(first | trivial | (simp; done) | (have q := cm_ n; rw [hI.2] at q; simp at q; simp; omega))
   refine .condB (by simp only [go_sem, seval]; rfl) (by simp only [go_sem, seval]) (fun h13 => ?_) (fun h13 => ?_)
   ·refine .skip (.block (.seq (.rgnS [19] [cvO En] (by simp only [go_sem, seval]; rfl) ?_ ?_)))
    ·(first | trivial | (simp; done) | (have q := cm_ n; rw [hI.2] at q; simp at q; simp; omega))
    refine .rgn [] (by simp only [go_sem, seval]; rfl) ?_ ?_
    ·(first | trivial | (simp; done) | (have q := cm_ n; rw [hI.2] at q; simp at q; simp; omega))
    refine Exists.intro ((k.1 / 10, UInt8.ofNat (48 + k.1 % 10) :: k.2)) ⟨?_, ?_, ?_⟩
    ·simp at h13; refine ⟨by dsimp only; omega, ?_⟩; rw [hI.2]; exact qt_ (by omega) _
    ·simp at h13; simp; omega
    exact Can.weak (Weak.lit (by simp only [go_sem, seval, au_, leV, as_, at_, V.inn, us, T9_, Ta_] <;> (simp at h13; rw [Int.tdiv_eq_ediv_of_nonneg (by omega), Int.tmod_eq_emod_of_nonneg (by omega), a8_ (by omega) (by omega), a8_ (by omega) (by omega), uu_ (by omega) (by omega)]; refine ⟨by omega, ?_⟩; rw [show (48 + (k.1 : Int) % 10).toNat = 48 + k.1 % 10 by omega])) (by simp only [go_sem, seval, au_, leV, as_, at_, V.inn, us, T9_, Ta_]) (by simp only [go_sem, seval, au_, leV, as_, at_, V.inn, us, T9_, Ta_]))
   ·refine .exit (.seq (.rgnS [28] [cvO En] (by simp only [go_sem, seval]; rfl) ?_ ?_))
    ·(first | trivial | (simp; done) | (have q := cm_ n; rw [hI.2] at q; simp at q; simp; omega))
    refine .ret ⟨.inr rfl, ?_⟩
    exact Out.plain (by simp only [Tryz.results169]; rfl) (by simp only [aw_, a3_, go_sem, seval] <;> (split <;> rfl)) (by simp only [a2_, go_sem, seval] <;> (simp at h13; rw [hI.2, a8_ (by omega) (by omega), uu_ (by omega) (by omega), Lib.decDigits_one (by omega), show (48 + (k.1 : Int)).toNat = 48 + k.1 by omega]; rfl)) (by simp only [go_sem, seval])
theorem qb_ {n : Int} (h : n < 0) : Lib.itoa n = 45 :: Lib.decDigits (-n).toNat := by unfold Lib.itoa; rw [if_pos h, show n.natAbs = (-n).toNat by omega]
theorem qd_ (n : Int) (h1 : -4611686018427387904 < n) (h2 : n < 4611686018427387904) : ACall En 169 [.i .i64 n] [] [.s (Lib.itoa n)] [] := by
 by_cases h : 0 ≤ n
 ·obtain ⟨m, rfl⟩ := Int.eq_ofNat_of_zero_le h
  rw [dq_ h]
  exact jb_ m (by omega)
 have hm : ((-n).toNat : Int) = -n := by omega
 have A := jb_ (-n).toNat (by omega)
 rw [hm] at A
 have q := cm_ (-n).toNat
 refine ap_ (fn := Tryz.f169) [] Tryz.func169 rfl rfl (by simp) fun C => ?_
 rw [ay_]
 simp only [Tryz.ntmps169, T7_, List.length_nil, Nat.reduceAdd, Nat.reduceSub, List.replicate_succ, List.replicate_zero, List.cons_append, List.nil_append, bl_]
 refine .seq (.rgn [] (by simp only [go_sem, seval]; rfl) ?_ ?_)
 ·(first | trivial | (simp; done) | (rw [Int.zero_sub, a8_ (by omega) (by omega)]; omega))
 refine .seq (.seq (.rgn [] (by simp only [go_sem, seval]; rfl) ?_ ?_))
 ·(first | trivial | (simp; done) | (rw [Int.zero_sub, a8_ (by omega) (by omega)]; omega))
 refine .condB (by simp only [go_sem, seval]; rfl) (by simp only [go_sem, seval]) (fun h5 => ?_) (fun h5 => ?_)
 ·simp at h5; omega
 ·refine .skip (.seq (.seq (.rgn [] (by simp only [go_sem, seval]; rfl) ?_ ?_)))
  ·(first | trivial | (simp; done) | (rw [Int.zero_sub, a8_ (by omega) (by omega)]; omega))
  refine .condB (by simp only [go_sem, seval]; rfl) (by simp only [go_sem, seval]) (fun h7 => ?_) (fun h7 => ?_)
  ·refine .seq (.rgn [a4_ A] (by simp only [go_sem, seval, a8_ (show -9223372036854775808 ≤ -n by omega) (by omega)]; rfl) ?_ ?_)
   ·(first | trivial | (simp; done) | (rw [Int.zero_sub, a8_ (by omega) (by omega)]; omega))
   refine .ret ⟨.inr rfl, ?_⟩
   exact Out.plain (by simp only [Tryz.results169]; rfl) (by simp only [aw_, a3_, go_sem, seval] <;> (split <;> rfl)) (by simp only [a2_, go_sem, seval] <;> (rw [qb_ (by omega)])) (by simp only [go_sem, seval])
  ·simp at h7; omega
end
section
set_option maxRecDepth 100000
set_option maxHeartbeats 1000000
theorem qw_ (a b : List Str) : bn_ (a ++ b) = bn_ a ++ bn_ b := by simp [bn_]
theorem bh_ (l : List Str) : (∀ r, r ∈ bn_ l → r.length = 1) = True := eq_true fun r hr => k7_ hr
theorem e2_ (l : List Str) : bn_ l = [] ↔ l = [] := by cases l <;> simp [bn_]
theorem li_ {e : E} {d : Int} (h : form e d = true) (must : Int) : wds e must = if e.kind = 3 ∧ bk_ e.s < must then [40] :: (wds e 0 ++ [[41]]) else wds e 0 := by
 have := tv_ h must 0
 unfold wds
 rw [this, g9_]
 by_cases h1 : e.kind = 3 <;> by_cases h2 : bk_ e.s < must <;> simp [h1, h2]
theorem g3_ {e : E} {d : Nat} (h : form e d = true) (hm : many e d ≤ 1000) (must : Int) : (wds e must).length ≤ 3000 := by
 have := cq_ d e must h; omega
theorem k6_ {e : E} {d : Int} (h : form e d = true) (must : Int) (hm : must ≤ 4) : (lvl e < must) = (e.kind = 3 ∧ bk_ e.s < must) := by
 rcases (bd_ h).2 with ⟨k1, _⟩ | ⟨k1, _⟩ | ⟨k1, h1, h2, h3, h4, h5⟩ | ⟨k1, _⟩
 ·simp [lvl, k1]; omega
 ·simp [lvl, k1]; omega
 ·rw [qv_ k1 h2]; simp [k1]
 ·simp [lvl, k1]; omega
theorem i3_ (d : Nat) : ∀ (e : E) (t : Int), form e d = true → sm e = true → many e d ≤ 1000 → t ≤ 4 → -1000 ≤ t → ACall En 121 [.ag (eC e), .i .i64 t] [] [.sl false (bn_ (wds e t))] [] := by
 induction d with
 | zero => intro e t h; have := (bd_ h).1; omega
 | succ d ih =>
 intro e t h hs hm ht ht2
 obtain ⟨a1, a2, a3⟩ := cl_ hs
 have e1 : ((d + 1 : Nat) : Int) - 1 = (d : Int) := by omega
 have hd1 : (1 : Int) ≤ ((d + 1 : Nat) : Int) := by omega
 have g1 : e.kind = 1 → 0 ≤ e.n ∧ e.n ≤ 1000000 := fun hk => by
  rcases (bd_ h).2 with ⟨k1, h1, h2, h3, h4⟩ | ⟨k1, h1, h2, h3⟩ | ⟨k1, _⟩ | ⟨k1, _⟩ <;> omega
 have g3 : e.kind = 3 → e.kids.length = 2 ∧ 1 ≤ bk_ e.s ∧ bk_ e.s ≤ 3 ∧ form (e.kids.getD 0 E0) d = true ∧ form (e.kids.getD 1 E0) d = true ∧ many (e.kids.getD 0 E0) d ≤ 1000 ∧ many (e.kids.getD 1 E0) d ≤ 1000 ∧ lvl e = bk_ e.s := fun hk => by
  rcases (bd_ h).2 with ⟨k1, _⟩ | ⟨k1, _⟩ | ⟨k1, h1, h2, h3, h4, h5⟩ | ⟨k1, _⟩ <;> try omega
  rw [e1] at h4 h5
  have := eh_ h2
  have hm2 := ib_ hd1 h3
  rw [e1] at hm2
  have q1 := cq_ d _ 0 h4
  have q2 := cq_ d _ 0 h5
  exact ⟨h3, this.1, this.2, h4, h5, by omega, by omega, qv_ k1 h2⟩
 have g4 : e.kind = 4 → e.kids.length = 1 ∧ form (e.kids.getD 0 E0) d = true ∧ many (e.kids.getD 0 E0) d ≤ 1000 := fun hk => by
  rcases (bd_ h).2 with ⟨k1, _⟩ | ⟨k1, _⟩ | ⟨k1, _⟩ | ⟨k1, h1, h2, h3, h4⟩ <;> try omega
  rw [e1] at h4
  have hm2 := h9_ hd1 h3
  rw [e1] at hm2
  have q1 := cq_ d _ 0 h4
  exact ⟨h3, h4, by omega⟩
 have g0 : e.kind = 1 ∨ e.kind = 2 ∨ e.kind = 3 ∨ e.kind = 4 := by
  rcases (bd_ h).2 with ⟨k1, _⟩ | ⟨k1, _⟩ | ⟨k1, _⟩ | ⟨k1, _⟩ <;> omega
 have hT : e.kind = 3 → wds e 0 = wds (e.kids.getD 0 E0) (if lvl e = 1 then 2 else lvl e) ++ [e.s] ++ wds (e.kids.getD 1 E0) (lvl e + 1) := fun hk => by
  have q := g3 hk
  rw [g4_ hk q.1, if_neg (by omega), q.2.2.2.2.2.2.2, show max 2 (bk_ e.s) = if bk_ e.s = 1 then 2 else bk_ e.s by split <;> omega]
 have hL : ∀ k, k < e.kids.length → ∀ m, (wds (e.kids.getD k E0) m).length ≤ 3000 := fun k hk m => by
  rcases g0 with hk4 | hk4 | hk4 | hk4
  ·rcases (bd_ h).2 with ⟨k1, h1, h2, h3, h4⟩ | ⟨k1, _⟩ | ⟨k1, _⟩ | ⟨k1, _⟩ <;> try omega
   rw [h4] at hk; simp at hk
  ·rcases (bd_ h).2 with ⟨k1, _⟩ | ⟨k1, h1, h2, h3⟩ | ⟨k1, _⟩ | ⟨k1, _⟩ <;> try omega
   rw [h3] at hk; simp at hk
  ·have := g3 hk4
   have hk2 : k = 0 ∨ k = 1 := by omega
   rcases hk2 with rfl | rfl
   ·exact g3_ this.2.2.2.1 this.2.2.2.2.2.1 _
   ·exact g3_ this.2.2.2.2.1 this.2.2.2.2.2.2.1 _
  ·have := g4 hk4
   have hk2 : k = 0 := by omega
   subst hk2
   exact g3_ this.2.1 this.2.2 _
 have hW := g3_ h hm
 have hA : e.kind = 4 → wds e 0 = wds (e.kids.getD 0 E0) 4 ++ [[97, 115], e.s] := fun hk => j1_ hk (g4 hk).1 0
 refine ap_ (fn := Tryz.f121) [] Tryz.func121 rfl rfl (by simp) fun C => ?_
 rw [ay_]
 simp only [Tryz.ntmps121, T7_, List.length_nil, Nat.reduceAdd, Nat.reduceSub, List.replicate_succ, List.replicate_zero, List.cons_append, List.nil_append, bl_]
 refine .seq (.rgn [] (by simp only [go_sem, seval, am_, ag_, T2_, T1_]; rfl) ?_ ?_)
 ·(first | trivial | (simp; done) | (simp [bh_]; done))
 refine .seq (.rgn [] (by simp only [go_sem, seval, am_, ag_, T2_, T1_]; rfl) ?_ ?_)
 ·(first | trivial | (simp; done) | (simp [bh_]; done))
 refine .seq (.rgn [a4_ (pr_ e)] (by simp only [go_sem, seval, am_, ag_, T2_, T1_]; rfl) ?_ ?_)
 ·(first | trivial | (simp; done) | (simp [bh_]; done))
 refine .seqJ (fun u : Unit => ⟨[.no, .i .i64 t, .no, .no, .no, .ow 150 1 0 (wds e 0).length, .i .i64 (lvl e), .no, .no, .no, .no, .no, .no, .no, .no, .no, .no, .no, .no, .no, .no, .no, .no, .no, .no, .no, .no, .no, .no, .no, .no, .no, .no, .no, .no, .no, .no, .no, .no, .no, .no, .no, .no, .no, .no, .no, .no, .no, .no, .no, .no, .no, .no, .no, .no, .no, .no, .no, .no, .no, .no, .no, .no, .no, .no, .no, .no, .no, .no, .no, .no, .no, .no], a1_ [(150, ⟨9, 1, bn_ (wds e 0)⟩)], us [150]⟩) (fun u : Unit => True) ?_ (fun u hJ => ?_)
 ·refine .seq (.rgn [] (by simp only [go_sem, seval, am_, ag_, T2_, T1_]; rfl) ?_ ?_)
  ·(first | trivial | (simp; done) | (simp [bh_]; done))
  refine .block (.seq (.rgn [] (by simp only [go_sem, seval, am_, ag_, T2_, T1_]; rfl) ?_ ?_))
  ·(first | trivial | (simp; done) | (simp [bh_]; done))
  refine .condB (by simp only [go_sem, seval, am_, ag_, T2_, T1_]; rfl) (by simp only [go_sem, seval, am_, ag_, T2_, T1_]) (fun h24 => ?_) (fun h24 => ?_)
  ·refine .rgn [a4_ (qd_ e.n (by have := g1 (by simpa using h24); omega) (by have := g1 (by simpa using h24); omega))] (by simp only [go_sem, seval, am_, ag_, T2_, T1_]; rfl) ?_ ?_
   ·(first | trivial | (simp; done) | (simp [bh_]; done))
   refine Exists.intro (()) ⟨?_, ?_⟩
   ·trivial
   refine Can.trans (Can.swap 41 150 (by decide) (by decide) (by decide) (by decide) (by simp only [go_sem, seval, am_, ag_, T2_, T1_, V.cl]) (by simp only [go_sem, seval, am_, ag_, T2_, T1_, V.cl]) (by simp only [go_sem, seval, am_, ag_, T2_, T1_, a5_, sw, swM, rnB] <;> rfl) (by simp only [go_sem, seval, am_, ag_, T2_, T1_, a5_, sw, swM, rnB] <;> rfl) (by simp only [go_sem, seval, am_, ag_, T2_, T1_, a5_, sw, swM, rnB] <;> rfl)) ?_
   exact Can.weak (Weak.lit (by simp only [go_sem, seval, am_, ag_, T2_, T1_, au_, leV, as_, at_, V.inn, us, T9_, Ta_] <;> (first | (rw [cw_ (by simpa using h24)]; rfl) | (rw [ci_ (by simpa using h32)]; rfl) | (rw [hT (by simpa using h39), ← hJ]; simp; omega) | (rw [hA (by simp_all)]; simp))) (by simp only [go_sem, seval, am_, ag_, T2_, T1_, au_, leV, as_, at_, V.inn, us, T9_, Ta_]) (by simp only [go_sem, seval, am_, ag_, T2_, T1_, au_, leV, as_, at_, V.inn, us, T9_, Ta_] <;> (first | (rw [cw_ (by simpa using h24), dq_ (by have := g1 (by simpa using h24); omega)]; rfl) | (rw [ci_ (by simpa using h32)]; rfl) | (rw [hT (by simpa using h39), ← hJ]; simp [bn_, bv_]; done) | (rw [hA (by simp_all)]; simp [bn_]))))
  ·refine .seq (.rgn [] (by simp only [go_sem, seval, am_, ag_, T2_, T1_]; rfl) ?_ ?_)
   ·(first | trivial | (simp; done) | (simp [bh_]; done))
   refine .condB (by simp only [go_sem, seval, am_, ag_, T2_, T1_]; rfl) (by simp only [go_sem, seval, am_, ag_, T2_, T1_]) (fun h32 => ?_) (fun h32 => ?_)
   ·refine .rgn [] (by simp only [go_sem, seval, am_, ag_, T2_, T1_]; rfl) ?_ ?_
    ·(first | trivial | (simp; done) | (simp [bh_]; done))
    refine Exists.intro (()) ⟨?_, ?_⟩
    ·trivial
    refine Can.trans (Can.swap 48 150 (by decide) (by decide) (by decide) (by decide) (by simp only [go_sem, seval, am_, ag_, T2_, T1_, V.cl]) (by simp only [go_sem, seval, am_, ag_, T2_, T1_, V.cl]) (by simp only [go_sem, seval, am_, ag_, T2_, T1_, a5_, sw, swM, rnB] <;> rfl) (by simp only [go_sem, seval, am_, ag_, T2_, T1_, a5_, sw, swM, rnB] <;> rfl) (by simp only [go_sem, seval, am_, ag_, T2_, T1_, a5_, sw, swM, rnB] <;> rfl)) ?_
    exact Can.weak (Weak.lit (by simp only [go_sem, seval, am_, ag_, T2_, T1_, au_, leV, as_, at_, V.inn, us, T9_, Ta_] <;> (first | (rw [cw_ (by simpa using h24)]; rfl) | (rw [ci_ (by simpa using h32)]; rfl) | (rw [hT (by simpa using h39), ← hJ]; simp; omega) | (rw [hA (by simp_all)]; simp))) (by simp only [go_sem, seval, am_, ag_, T2_, T1_, au_, leV, as_, at_, V.inn, us, T9_, Ta_]) (by simp only [go_sem, seval, am_, ag_, T2_, T1_, au_, leV, as_, at_, V.inn, us, T9_, Ta_] <;> (first | (rw [cw_ (by simpa using h24), dq_ (by have := g1 (by simpa using h24); omega)]; rfl) | (rw [ci_ (by simpa using h32)]; rfl) | (rw [hT (by simpa using h39), ← hJ]; simp [bn_, bv_]; done) | (rw [hA (by simp_all)]; simp [bn_]))))
   ·refine .seq (.rgn [] (by simp only [go_sem, seval, am_, ag_, T2_, T1_]; rfl) ?_ ?_)
    ·(first | trivial | (simp; done) | (simp [bh_]; done))
    refine .condB (by simp only [go_sem, seval, am_, ag_, T2_, T1_]; rfl) (by simp only [go_sem, seval, am_, ag_, T2_, T1_]) (fun h39 => ?_) (fun h39 => ?_)
    ·refine .seq (.rgn [] (by simp only [go_sem, seval, am_, ag_, T2_, T1_]; rfl) ?_ ?_)
     ·(first | trivial | (simp; done) | (simp [bh_]; done))
     refine .seqJ (fun lf : Int => ⟨[.no, .i .i64 t, .pt 12 4 0 0, .no, .no, .sl true [], .i .i64 (lvl e), .i .i64 lf, .no, .no, .no, .no, .no, .no, .no, .no, .no, .no, .no, .no, .no, .no, .no, .no, .no, .no, .no, .no, .no, .no, .no, .no, .no, .no, .no, .no, .no, .no, .no, .no, .no, .no, .no, .no, .no, .no, .no, .no, .no, .no, .no, .no, .no, .no, .no, .no, .no, .no, .no, .no, .no, .no, .no, .no, .no, .no, .no, .no, .no, .no, .no, .no, .no], a1_ [(12, ⟨33, 4, [eC e]⟩)], us [12]⟩) (fun lf : Int => lf = if lvl e = 1 then 2 else lvl e) ?_ (fun lf hJ => ?_)
     ·refine .seq (.rgn [] (by simp only [go_sem, seval, am_, ag_, T2_, T1_]; rfl) ?_ ?_)
      ·(first | trivial | (simp; done) | (simp [bh_]; done))
      refine .condB (by simp only [go_sem, seval, am_, ag_, T2_, T1_]; rfl) (by simp only [go_sem, seval, am_, ag_, T2_, T1_]) (fun h43 => ?_) (fun h43 => ?_)
      ·refine .rgn [] (by simp only [go_sem, seval, am_, ag_, T2_, T1_]; rfl) ?_ ?_
       ·(first | trivial | (simp; done) | (simp [bh_]; done))
       refine Exists.intro (2) ⟨?_, ?_⟩
       ·simp_all
       exact Can.weak (Weak.lit (by simp only [go_sem, seval, am_, ag_, T2_, T1_, au_, leV, as_, at_, V.inn, us, T9_, Ta_] <;> (simp_all)) (by simp only [go_sem, seval, am_, ag_, T2_, T1_, au_, leV, as_, at_, V.inn, us, T9_, Ta_]) (by simp only [go_sem, seval, am_, ag_, T2_, T1_, au_, leV, as_, at_, V.inn, us, T9_, Ta_]))
      ·refine .skip ?_
       refine Exists.intro (lvl e) ⟨?_, ?_⟩
       ·simp_all
       exact Can.weak (Weak.lit (by simp only [go_sem, seval, am_, ag_, T2_, T1_, au_, leV, as_, at_, V.inn, us, T9_, Ta_] <;> (simp_all)) (by simp only [go_sem, seval, am_, ag_, T2_, T1_, au_, leV, as_, at_, V.inn, us, T9_, Ta_]) (by simp only [go_sem, seval, am_, ag_, T2_, T1_, au_, leV, as_, at_, V.inn, us, T9_, Ta_]))
     refine .rgnD [a4_ (ih (e.kids.getD 0 E0) lf (g3 (by simpa using h39)).2.2.2.1 (b1_ a3 _ (ba_ (by have := g3 (by simpa using h39); omega))) (g3 (by simpa using h39)).2.2.2.2.2.1 (by have := g3 (by simpa using h39); rw [hJ]; split <;> omega) (by have := g3 (by simpa using h39); rw [hJ]; split <;> omega)), a4_ (ih (e.kids.getD 1 E0) (lvl e + 1) (g3 (by simpa using h39)).2.2.2.2.1 (b1_ a3 _ (ba_ (by have := g3 (by simpa using h39); omega))) (g3 (by simpa using h39)).2.2.2.2.2.2.1 (by have := g3 (by simpa using h39); omega) (by have := g3 (by simpa using h39); omega))] enM (by simp only [go_sem, seval, am_, ag_, T2_, T1_, b4_ (show 0 < e.kids.length by have := g3 (by simpa using h39); omega), b4_ (show 1 < e.kids.length by have := g3 (by simpa using h39); omega), a8_ (show -9223372036854775808 ≤ lvl e + 1 by have := g3 (by simpa using h39); omega) (by have := g3 (by simpa using h39); omega)]; rfl) (by rfl) ?_ ?_
     ·have q := g3 (by simpa using h39); have q1 := hL 0 (by omega) lf; have q2 : 1 < e.kids.length := (by omega); have q3 := hL 1 (by omega) (lvl e + 1); simp [-List.getD_eq_getElem?_getD, b5_, q2, bh_]; omega
     refine Exists.intro (()) ⟨?_, ?_⟩
     ·trivial
     refine Can.trans (Can.swap 73 150 (by decide) (by decide) (by decide) (by decide) (by simp only [go_sem, seval, am_, ag_, T2_, T1_, V.cl]) (by simp only [go_sem, seval, am_, ag_, T2_, T1_, V.cl]) (by simp only [go_sem, seval, am_, ag_, T2_, T1_, a5_, sw, swM, rnB] <;> rfl) (by simp only [go_sem, seval, am_, ag_, T2_, T1_, a5_, sw, swM, rnB] <;> rfl) (by simp only [go_sem, seval, am_, ag_, T2_, T1_, a5_, sw, swM, rnB] <;> rfl)) ?_
     exact Can.weak (Weak.lit (by simp only [go_sem, seval, am_, ag_, T2_, T1_, au_, leV, as_, at_, V.inn, us, T9_, Ta_] <;> (first | (rw [cw_ (by simpa using h24)]; rfl) | (rw [ci_ (by simpa using h32)]; rfl) | (rw [hT (by simpa using h39), ← hJ]; simp; omega) | (rw [hA (by simp_all)]; simp))) (by simp only [go_sem, seval, am_, ag_, T2_, T1_, au_, leV, as_, at_, V.inn, us, T9_, Ta_]) (by simp only [go_sem, seval, am_, ag_, T2_, T1_, au_, leV, as_, at_, V.inn, us, T9_, Ta_] <;> (first | (rw [cw_ (by simpa using h24), dq_ (by have := g1 (by simpa using h24); omega)]; rfl) | (rw [ci_ (by simpa using h32)]; rfl) | (rw [hT (by simpa using h39), ← hJ]; simp [bn_, bv_]; done) | (rw [hA (by simp_all)]; simp [bn_]))))
    ·refine .rgnD [a4_ (ih (e.kids.getD 0 E0) 4 (g4 (by simp_all)).2.1 (b1_ a3 _ (ba_ (by have := g4 (by simp_all); omega))) (g4 (by simp_all)).2.2 (by decide) (by decide))] enM (by simp only [go_sem, seval, am_, ag_, T2_, T1_, b4_ (show 0 < e.kids.length by have := g4 (by simp_all); omega)]; rfl) (by rfl) ?_ ?_
     ·have q := g4 (by simp_all); have q1 := hL 0 (by omega) 4; have q2 : 0 < e.kids.length := (by omega); simp [-List.getD_eq_getElem?_getD, b5_, q2, bh_]; omega
     refine Exists.intro (()) ⟨?_, ?_⟩
     ·trivial
     refine Can.trans (Can.swap 33 150 (by decide) (by decide) (by decide) (by decide) (by simp only [go_sem, seval, am_, ag_, T2_, T1_, V.cl]) (by simp only [go_sem, seval, am_, ag_, T2_, T1_, V.cl]) (by simp only [go_sem, seval, am_, ag_, T2_, T1_, a5_, sw, swM, rnB] <;> rfl) (by simp only [go_sem, seval, am_, ag_, T2_, T1_, a5_, sw, swM, rnB] <;> rfl) (by simp only [go_sem, seval, am_, ag_, T2_, T1_, a5_, sw, swM, rnB] <;> rfl)) ?_
     exact Can.weak (Weak.lit (by simp only [go_sem, seval, am_, ag_, T2_, T1_, au_, leV, as_, at_, V.inn, us, T9_, Ta_] <;> (first | (rw [cw_ (by simpa using h24)]; rfl) | (rw [ci_ (by simpa using h32)]; rfl) | (rw [hT (by simpa using h39), ← hJ]; simp; omega) | (rw [hA (by simp_all)]; simp))) (by simp only [go_sem, seval, am_, ag_, T2_, T1_, au_, leV, as_, at_, V.inn, us, T9_, Ta_]) (by simp only [go_sem, seval, am_, ag_, T2_, T1_, au_, leV, as_, at_, V.inn, us, T9_, Ta_] <;> (first | (rw [cw_ (by simpa using h24), dq_ (by have := g1 (by simpa using h24); omega)]; rfl) | (rw [ci_ (by simpa using h32)]; rfl) | (rw [hT (by simpa using h39), ← hJ]; simp [bn_, bv_]; done) | (rw [hA (by simp_all)]; simp [bn_]))))
 refine .seq (.seq (.rgn [] (by simp only [go_sem, seval, am_, ag_, T2_, T1_]; rfl) ?_ ?_))
 ·(first | trivial | (simp; done) | (simp [bh_]; done))
 refine .condB (by simp only [go_sem, seval, am_, ag_, T2_, T1_]; rfl) (by simp only [go_sem, seval, am_, ag_, T2_, T1_]) (fun h66 => ?_) (fun h66 => ?_)
 ·refine .seq (.rgn [] (by simp only [go_sem, seval, am_, ag_, T2_, T1_]; rfl) ?_ ?_)
  ·have q := hW 0; simp [-List.getD_eq_getElem?_getD, b5_, bh_, e2_]; (first | omega | (refine ⟨⟨?_, by omega⟩, by omega, by omega⟩; intro e0; have := (cq_ (d + 1) e 0 h).1; rw [e0] at this; simp at this))
  refine .frz 81 (by simp only [go_sem, seval, am_, ag_, T2_, T1_]; rfl) (by simp only [go_sem, seval, am_, ag_, T2_, T1_]) (by simp only [go_sem, seval, am_, ag_, T2_, T1_]; rfl) (by simp only [go_sem, seval, am_, ag_, T2_, T1_]; rfl) ?_
  refine .ret ⟨.inr rfl, ?_⟩
  exact Out.plain (by simp only [Tryz.results121]; rfl) (by simp only [aw_, a3_, go_sem, seval, am_, ag_, T2_, T1_] <;> (split <;> rfl)) (by simp only [a2_, go_sem, seval, am_, ag_, T2_, T1_] <;> (have q : e.kind = 3 ∧ bk_ e.s < t := (by rw [← k6_ h t ht]; simpa using h66); rw [li_ h t, if_pos q]; (first | (rw [if_pos (by omega), T1_ (by simp [bn_]; omega)]; simp [bn_, peel])))) (by simp only [go_sem, seval, am_, ag_, T2_, T1_])
 ·refine .skip (.seq (.rgn [] (by simp only [go_sem, seval, am_, ag_, T2_, T1_]; rfl) ?_ ?_))
  ·(first | trivial | (simp; done) | (simp [bh_]; done))
  refine .frz 150 (by simp only [go_sem, seval, am_, ag_, T2_, T1_]; rfl) (by simp only [go_sem, seval, am_, ag_, T2_, T1_]) (by simp only [go_sem, seval, am_, ag_, T2_, T1_]; rfl) (by simp only [go_sem, seval, am_, ag_, T2_, T1_]; rfl) ?_
  refine .ret ⟨.inr rfl, ?_⟩
  exact Out.plain (by simp only [Tryz.results121]; rfl) (by simp only [aw_, a3_, go_sem, seval, am_, ag_, T2_, T1_] <;> (split <;> rfl)) (by simp only [a2_, go_sem, seval, am_, ag_, T2_, T1_] <;> (have q : ¬ (e.kind = 3 ∧ bk_ e.s < t) := (by rw [← k6_ h t ht]; simpa using h66); rw [li_ h t, if_neg q])) (by simp only [go_sem, seval, am_, ag_, T2_, T1_])
end
section
set_option maxRecDepth 100000
set_option maxHeartbeats 1000000
theorem m3_ {e : E} (h : eok e = true) (must : Int) : wds e must ≠ [] := fun e0 => by have := (cg_ h must).1; rw [e0] at this; simp at this
theorem jm_ (b : Bl) (h : ca_ b = true) (hs : smb b = true) : ACall En 71 [.ag (bC b)] [] [.sl false (bn_ (bw b))] [] := by
 obtain ⟨h0, h1, h2⟩ := ga_ h
 obtain ⟨s1, s2, s3⟩ := ep_ hs
 have W : b.kind = 1 ∨ b.kind = 2 ∨ b.kind = 3 → _ := fun hk => i3_ 5 b.expr 1 (b6_ (h1 hk)) s2 (kq_ (h1 hk)) (by decide) (by decide)
 have W3 : b.kind = 3 → _ := fun hk => i3_ 5 b.thn 1 (b6_ (h2 hk)) s3 (kq_ (h2 hk)) (by decide) (by decide)
 refine ap_ (fn := Tryz.f71) [] Tryz.func71 rfl rfl (by simp) fun C => ?_
 rw [ay_]
 simp only [Tryz.ntmps71, T7_, List.length_nil, Nat.reduceAdd, Nat.reduceSub, List.replicate_succ, List.replicate_zero, List.cons_append, List.nil_append, bl_]
 refine .seq (.rgn [] (by simp only [go_sem, seval, am_, ag_, T2_, T1_, ae_]; rfl) ?_ ?_)
 ·(first | trivial | (simp; done) | (simp [bh_]; done))
 refine .seq (.seq (.rgn [] (by simp only [go_sem, seval, am_, ag_, T2_, T1_, ae_]; rfl) ?_ ?_))
 ·(first | trivial | (simp; done) | (simp [bh_]; done))
 refine .block (.seq (.rgn [] (by simp only [go_sem, seval, am_, ag_, T2_, T1_, ae_]; rfl) ?_ ?_))
 ·(first | trivial | (simp; done) | (simp [bh_]; done))
 refine .condB (by simp only [go_sem, seval, am_, ag_, T2_, T1_, ae_]; rfl) (by simp only [go_sem, seval, am_, ag_, T2_, T1_, ae_]) (fun h6 => ?_) (fun h6 => ?_)
 ·refine .seq (.rgnD [a4_ (W (.inl (by simpa using h6)))] enM (by simp only [go_sem, seval, am_, ag_, T2_, T1_, ae_]; rfl) (by rfl) ?_ ?_)
  ·have q := h1 (.inl (by simpa using h6)); have q2 := (cg_ q 1); have q3 := m3_ q 1; simp [b5_, bh_, q3, e2_]; omega
  refine .frz 24 (by simp only [go_sem, seval, am_, ag_, T2_, T1_, ae_]; rfl) (by simp only [go_sem, seval, am_, ag_, T2_, T1_, ae_]) (by simp only [go_sem, seval, am_, ag_, T2_, T1_, ae_]; rfl) (by simp only [go_sem, seval, am_, ag_, T2_, T1_, ae_]; rfl) ?_
  refine .ret ⟨.inr rfl, ?_⟩
  exact Out.plain (by simp only [Tryz.results71]; rfl) (by simp only [aw_, a3_, go_sem, seval, am_, ag_, T2_, T1_, ae_] <;> (split <;> rfl)) (by simp only [a2_, go_sem, seval, am_, ag_, T2_, T1_, ae_] <;> (have k : b.kind = 1 := (by simpa using h6); rw [if_pos (by omega), T1_ (by simp [am_]; omega)]; simp [bw, k, bn_, peel, wEq])) (by simp only [go_sem, seval, am_, ag_, T2_, T1_, ae_])
 ·refine .seq (.rgn [] (by simp only [go_sem, seval, am_, ag_, T2_, T1_, ae_]; rfl) ?_ ?_)
  ·(first | trivial | (simp; done) | (simp [bh_]; done))
  refine .condB (by simp only [go_sem, seval, am_, ag_, T2_, T1_, ae_]; rfl) (by simp only [go_sem, seval, am_, ag_, T2_, T1_, ae_]) (fun h15 => ?_) (fun h15 => ?_)
  ·refine .seq (.rgn [a4_ (W (.inr (.inl (by simpa using h15))))] (by simp only [go_sem, seval, am_, ag_, T2_, T1_, ae_]; rfl) ?_ ?_)
   ·have q := h1 (.inr (.inl (by simpa using h15))); have q2 := (cg_ q 1); have q3 := m3_ q 1; simp [b5_, bh_, q3, e2_]; omega
   refine .frz 31 (by simp only [go_sem, seval, am_, ag_, T2_, T1_, ae_]; rfl) (by simp only [go_sem, seval, am_, ag_, T2_, T1_, ae_]) (by simp only [go_sem, seval, am_, ag_, T2_, T1_, ae_]; rfl) (by simp only [go_sem, seval, am_, ag_, T2_, T1_, ae_]; rfl) ?_
   refine .ret ⟨.inr rfl, ?_⟩
   exact Out.plain (by simp only [Tryz.results71]; rfl) (by simp only [aw_, a3_, go_sem, seval, am_, ag_, T2_, T1_, ae_] <;> (split <;> rfl)) (by simp only [a2_, go_sem, seval, am_, ag_, T2_, T1_, ae_] <;> (have k : b.kind = 2 := (by simpa using h15); rw [if_pos (by omega), T1_ (by simp [am_]; omega)]; simp [bw, k, bn_, peel, eq_])) (by simp only [go_sem, seval, am_, ag_, T2_, T1_, ae_])
  ·refine .seq (.rgn [] (by simp only [go_sem, seval, am_, ag_, T2_, T1_, ae_]; rfl) ?_ ?_)
   ·(first | trivial | (simp; done) | (simp [bh_]; done))
   refine .condB (by simp only [go_sem, seval, am_, ag_, T2_, T1_, ae_]; rfl) (by simp only [go_sem, seval, am_, ag_, T2_, T1_, ae_]) (fun h22 => ?_) (fun h22 => ?_)
   ·refine .seq (.rgn [a4_ (W (.inr (.inr (by simpa using h22))))] (by simp only [go_sem, seval, am_, ag_, T2_, T1_, ae_]; rfl) ?_ ?_)
    ·have q := h1 (.inr (.inr (by simpa using h22))); have q2 := (cg_ q 1); have q3 := m3_ q 1; simp [b5_, bh_, q3, e2_]; omega
    refine .seq (.rgnD [a4_ (W3 (by simpa using h22))] enM (by simp only [go_sem, seval, am_, ag_, T2_, T1_, ae_]; rfl) (by rfl) ?_ ?_)
    ·have q := h1 (.inr (.inr (by simpa using h22))); have q2 := (cg_ q 1); have q4 := cg_ (h2 (by simpa using h22)) 1; simp [b5_, bh_]; omega
    refine .frz 45 (by simp only [go_sem, seval, am_, ag_, T2_, T1_, ae_]; rfl) (by simp only [go_sem, seval, am_, ag_, T2_, T1_, ae_]) (by simp only [go_sem, seval, am_, ag_, T2_, T1_, ae_]; rfl) (by simp only [go_sem, seval, am_, ag_, T2_, T1_, ae_]; rfl) ?_
    refine .ret ⟨.inr rfl, ?_⟩
    exact Out.plain (by simp only [Tryz.results71]; rfl) (by simp only [aw_, a3_, go_sem, seval, am_, ag_, T2_, T1_, ae_] <;> (split <;> rfl)) (by simp only [a2_, go_sem, seval, am_, ag_, T2_, T1_, ae_] <;> (have k : b.kind = 3 := (by simpa using h22); rw [if_pos (by omega), T1_ (by simp [am_]; omega)]; simp [bw, k, bn_, peel, eq_, wIf, s7_])) (by simp only [go_sem, seval, am_, ag_, T2_, T1_, ae_])
   ·refine .skip (.seq (.rgn [] (by simp only [go_sem, seval, am_, ag_, T2_, T1_, ae_]; rfl) ?_ ?_))
    ·(first | trivial | (simp; done) | (simp [bh_]; done))
    refine .can (Can.slotLe 2 (.sl false []) (by simp only [go_sem, seval, am_, ag_, T2_, T1_, ae_] <;> trivial) (by simp only [go_sem, seval, am_, ag_, T2_, T1_, ae_] <;> rfl)) ?_
    refine .ret ⟨.inr rfl, ?_⟩
    exact Out.plain (by simp only [Tryz.results71]; rfl) (by simp only [aw_, a3_, go_sem, seval, am_, ag_, T2_, T1_, ae_] <;> (split <;> rfl)) (by simp only [a2_, go_sem, seval, am_, ag_, T2_, T1_, ae_] <;> (have k : b.kind = 0 := (by simp_all); simp [bw, k, bn_])) (by simp only [go_sem, seval, am_, ag_, T2_, T1_, ae_])
theorem mg_ {l : List Str} {k : Nat} (h : k < l.length) : bt_ (l.take (k + 1)) = (if 0 < k then bt_ (l.take k) ++ [32] else []) ++ l.getD k [] := by
 have snoc : ∀ (a : List Str) (s : Str), a ≠ [] → bt_ (a ++ [s]) = bt_ a ++ 32 :: s := fun a s ha => by
  induction a with
  | nil => exact absurd rfl ha
  | cons x a ih =>
   cases a with
   | nil => rw [d0_]; show bt_ [x, s] = _; rw [dl_, d0_]
   | cons y a => rw [List.cons_append, List.cons_append, dl_, dl_, ← List.cons_append, ih (by simp)]; simp
 rw [List.take_add_one, T6_ h, T8_, T6_ h]
 simp only [Option.toList_some, Option.getD_some]
 by_cases hk : 0 < k
 ·rw [snoc _ _ (by intro e; have := congrArg List.length e; rw [List.length_take] at this; simp only [List.length_nil] at this; omega), if_pos hk]; simp
 ·have : k = 0 := by omega
  subst this; simp [d0_]
theorem ov_ {l : List Str} (k : Nat) : (bt_ (l.take k)).length ≤ (bt_ l).length := by
 by_cases h : l.take k = []
 ·rw [h]; simp [da_]
 ·have h1 := dz_ _ h
  have h2 : l ≠ [] := fun e => h (by rw [e]; simp)
  have h3 := dz_ _ h2
  have h4 : ((l.take k).map List.length).sum + (l.take k).length ≤ (l.map List.length).sum + l.length := by
   conv => rhs; rw [← List.take_append_drop k l]
   rw [List.map_append, List.sum_append, T2_]; omega
  omega
theorem hk_ (l : List Str) (hl : l.length < 1099511627776) (hb : (bt_ l).length < 1099511627776) : ACall En 70 [.sl false (bn_ l)] [] [.s (bt_ l)] [] := by
 refine ap_ (fn := Tryz.f70) [] Tryz.func70 rfl rfl (by simp) fun C => ?_
 rw [ay_]
 simp only [Tryz.ntmps70, T7_, List.length_nil, Nat.reduceAdd, Nat.reduceSub, List.replicate_succ, List.replicate_zero, List.cons_append, List.nil_append, bl_]
 refine .seq (.rgn [] (by simp only [go_sem, seval, am_, ag_]; rfl) ?_ ?_)
 ·first | trivial | simp
 refine .seq (.rgn [] (by simp only [go_sem, seval, am_, ag_]; rfl) ?_ ?_)
 ·first | trivial | simp
 refine .seq (.seq (.rgn [] (by simp only [go_sem, seval, am_, ag_]; rfl) ?_ ?_))
 ·first | trivial | simp
 refine .block (.loopK (fun k : Nat => ⟨[.sl false (bn_ l), .no, .no, .s (bt_ (l.take k)), .i .i64 k, .no, .no, .no, .no, .no, .no, .no, .no, .no, .no, .no, .no, .no, .no, .no, .no, .no], a1_ [], us []⟩) (fun k : Nat => k ≤ l.length) (fun k : Nat => l.length - k) (0) ?_ ?_ (fun k hI => ?_))
 ·simp
 ·exact Can.weak (Weak.lit (by simp only [go_sem, seval, am_, ag_, au_, leV, as_, at_, V.inn, us, T9_, Ta_] <;> (simp [da_])) (by simp only [go_sem, seval, am_, ag_, au_, leV, as_, at_, V.inn, us, T9_, Ta_]) (by simp only [go_sem, seval, am_, ag_, au_, leV, as_, at_, V.inn, us, T9_, Ta_]))
 refine .seq (.seq (.rgn [] (by simp only [go_sem, seval, am_, ag_]; rfl) ?_ ?_))
 ·first | trivial | simp
 refine .condB (by simp only [go_sem, seval, am_, ag_]; rfl) (by simp only [go_sem, seval, am_, ag_]) (fun h8 => ?_) (fun h8 => ?_)
 ·refine .skip (.seq (.block (.seqJ (fun q : Str => ⟨[.sl false (bn_ l), .no, .no, .s q, .i .i64 k, .no, .no, .no, .no, .no, .no, .no, .no, .no, .no, .no, .no, .no, .no, .no, .no, .no], a1_ [], us []⟩) (fun q : Str => q = if 0 < k then bt_ (l.take k) ++ [32] else []) ?_ (fun q hJ => ?_))))
  ·refine .seq (.rgn [] (by simp only [go_sem, seval, am_, ag_]; rfl) ?_ ?_)
   ·first | trivial | simp
   refine .condB (by simp only [go_sem, seval, am_, ag_]; rfl) (by simp only [go_sem, seval, am_, ag_]) (fun h12 => ?_) (fun h12 => ?_)
   ·refine .rgn [] (by simp only [go_sem, seval, am_, ag_]; rfl) ?_ ?_
    ·have q := ov_ (l := l) k; simp; omega
    refine Exists.intro (bt_ (l.take k) ++ [32]) ⟨?_, ?_⟩
    ·simp at h12; simp [h12]
    exact Can.weak (Weak.lit (by simp only [go_sem, seval, am_, ag_, au_, leV, as_, at_, V.inn, us, T9_, Ta_] <;> ((simp at h12; subst h12; simp [da_]))) (by simp only [go_sem, seval, am_, ag_, au_, leV, as_, at_, V.inn, us, T9_, Ta_]) (by simp only [go_sem, seval, am_, ag_, au_, leV, as_, at_, V.inn, us, T9_, Ta_]))
   ·refine .skip ?_
    refine Exists.intro ([]) ⟨?_, ?_⟩
    ·simp at h12; simp [h12]
    exact Can.weak (Weak.lit (by simp only [go_sem, seval, am_, ag_, au_, leV, as_, at_, V.inn, us, T9_, Ta_] <;> ((simp at h12; subst h12; simp [da_]))) (by simp only [go_sem, seval, am_, ag_, au_, leV, as_, at_, V.inn, us, T9_, Ta_]) (by simp only [go_sem, seval, am_, ag_, au_, leV, as_, at_, V.inn, us, T9_, Ta_]))
  refine .rgn [] (by simp only [go_sem, seval, am_, ag_, fi_ (show k < l.length by simpa using h8)]; rfl) ?_ ?_
  ·have q1 := ov_ (l := l) (k + 1); rw [mg_ (by simpa using h8), ← hJ, T2_] at q1; refine ⟨⟨by omega, by simpa using h8⟩, by omega⟩
  refine .rgn [] (by simp only [go_sem, seval, am_, ag_]; rfl) ?_ ?_
  ·first | trivial | simp
  refine Exists.intro (k + 1) ⟨?_, ?_, ?_⟩
  ·simp at h8; omega
  ·simp at h8; omega
  exact Can.weak (Weak.lit (by simp only [go_sem, seval, am_, ag_, au_, leV, as_, at_, V.inn, us, T9_, Ta_] <;> (rw [a8_ (by simp at h8; omega) (by simp at h8; omega)]; refine ⟨?_, by simp⟩; first | (rw [hJ, mg_ (by simpa using h8)]; done))) (by simp only [go_sem, seval, am_, ag_, au_, leV, as_, at_, V.inn, us, T9_, Ta_]) (by simp only [go_sem, seval, am_, ag_, au_, leV, as_, at_, V.inn, us, T9_, Ta_]))
 ·refine .exit (.seq (.rgn [] (by simp only [go_sem, seval, am_, ag_]; rfl) ?_ ?_))
  ·first | trivial | simp
  refine .ret ⟨.inr rfl, ?_⟩
  exact Out.plain (by simp only [Tryz.results70]; rfl) (by simp only [aw_, a3_, go_sem, seval, am_, ag_] <;> (split <;> rfl)) (by simp only [a2_, go_sem, seval, am_, ag_] <;> (simp at h8; rw [T1_ h8])) (by simp only [go_sem, seval, am_, ag_])
theorem iu_ (b : Bl) (hs : smb b = true) : ACall En 23 [.ag (bC b)] [] [.b (bok b)] [] := by
 obtain ⟨s1, s2, s3⟩ := ep_ hs
 refine ap_ (fn := Tryz.f23) [] Tryz.func23 rfl rfl (by simp) fun C => ?_
 rw [ay_]
 simp only [Tryz.ntmps23, T7_, List.length_nil, Nat.reduceAdd, Nat.reduceSub, List.replicate_succ, List.replicate_zero, List.cons_append, List.nil_append, bl_]
 refine .seq (.rgn [] (by simp only [go_sem, seval, ae_, ag_]; rfl) ?_ ?_)
 ·(first | trivial | (simp; done) | exact hJ.symm | exact ⟨hJ.symm, hJ.symm⟩)
 refine .seq (.rgn [] (by simp only [go_sem, seval, ae_, ag_]; rfl) ?_ ?_)
 ·(first | trivial | (simp; done) | exact hJ.symm | exact ⟨hJ.symm, hJ.symm⟩)
 refine .seqJ (fun q : Bool => ⟨[.no, .pt 11 10 0 0, .no, .b q, .no, .no, .no, .no, .no, .no, .no, .no, .no, .no, .no, .no, .no, .no, .no, .no, .no, .no, .no, .no, .no, .no, .no, .no, .no, .no, .no, .no, .no, .no, .no, .no, .no, .no, .no, .no, .no, .no, .no, .no, .no, .no, .no, .no, .no, .no, .no, .no, .no, .no, .no, .no, .no, .no, .no, .no, .no, .no, .no, .no, .no, .no, .no, .no, .no, .no, .no, .no, .no, .no], a1_ [(11, ⟨35, 10, [bC b]⟩)], us [11]⟩) (fun q : Bool => q = ca_ b) ?_ (fun q hJ => ?_)
 ·refine .seq (.rgn [] (by simp only [go_sem, seval, ae_, ag_]; rfl) ?_ ?_)
  ·(first | trivial | (simp; done) | exact hJ.symm | exact ⟨hJ.symm, hJ.symm⟩)
  refine .block (.seq (.rgn [] (by simp only [go_sem, seval, ae_, ag_]; rfl) ?_ ?_))
  ·(first | trivial | (simp; done) | exact hJ.symm | exact ⟨hJ.symm, hJ.symm⟩)
  refine .condB (by simp only [go_sem, seval, ae_, ag_]; rfl) (by simp only [go_sem, seval, ae_, ag_]) (fun h6 => ?_) (fun h6 => ?_)
  ·refine .rgn [a4_ (fw_ b.expr s2), a4_ (fw_ b.thn s3)] (by simp only [go_sem, seval, ae_, ag_]; rfl) ?_ ?_
   ·(first | trivial | (simp; done) | exact hJ.symm | exact ⟨hJ.symm, hJ.symm⟩)
   refine Exists.intro (ca_ b) ⟨?_, ?_⟩
   ·rfl
   exact Can.weak (Weak.lit (by simp only [go_sem, seval, ae_, ag_, au_, leV, as_, at_, V.inn, us, T9_, Ta_] <;> ((unfold ca_; simp_all))) (by simp only [go_sem, seval, ae_, ag_, au_, leV, as_, at_, V.inn, us, T9_, Ta_]) (by simp only [go_sem, seval, ae_, ag_, au_, leV, as_, at_, V.inn, us, T9_, Ta_]))
  ·refine .seq (.rgn [] (by simp only [go_sem, seval, ae_, ag_]; rfl) ?_ ?_)
   ·(first | trivial | (simp; done) | exact hJ.symm | exact ⟨hJ.symm, hJ.symm⟩)
   refine .condB (by simp only [go_sem, seval, ae_, ag_]; rfl) (by simp only [go_sem, seval, ae_, ag_]) (fun h21 => ?_) (fun h21 => ?_)
   ·refine .rgn [a4_ (mp_ b.name s1), a4_ (f1_ b.expr s2), a4_ (fw_ b.thn s3)] (by simp only [go_sem, seval, ae_, ag_]; rfl) ?_ ?_
    ·(first | trivial | (simp; done) | exact hJ.symm | exact ⟨hJ.symm, hJ.symm⟩)
    refine Exists.intro (ca_ b) ⟨?_, ?_⟩
    ·rfl
    exact Can.weak (Weak.lit (by simp only [go_sem, seval, ae_, ag_, au_, leV, as_, at_, V.inn, us, T9_, Ta_] <;> ((unfold ca_; simp_all))) (by simp only [go_sem, seval, ae_, ag_, au_, leV, as_, at_, V.inn, us, T9_, Ta_]) (by simp only [go_sem, seval, ae_, ag_, au_, leV, as_, at_, V.inn, us, T9_, Ta_]))
   ·refine .seq (.rgn [] (by simp only [go_sem, seval, ae_, ag_]; rfl) ?_ ?_)
    ·(first | trivial | (simp; done) | exact hJ.symm | exact ⟨hJ.symm, hJ.symm⟩)
    refine .condB (by simp only [go_sem, seval, ae_, ag_]; rfl) (by simp only [go_sem, seval, ae_, ag_]) (fun h36 => ?_) (fun h36 => ?_)
    ·refine .rgn [a4_ (f1_ b.expr s2), a4_ (fw_ b.thn s3)] (by simp only [go_sem, seval, ae_, ag_]; rfl) ?_ ?_
     ·(first | trivial | (simp; done) | exact hJ.symm | exact ⟨hJ.symm, hJ.symm⟩)
     refine Exists.intro (ca_ b) ⟨?_, ?_⟩
     ·rfl
     exact Can.weak (Weak.lit (by simp only [go_sem, seval, ae_, ag_, au_, leV, as_, at_, V.inn, us, T9_, Ta_] <;> ((unfold ca_; simp_all))) (by simp only [go_sem, seval, ae_, ag_, au_, leV, as_, at_, V.inn, us, T9_, Ta_]) (by simp only [go_sem, seval, ae_, ag_, au_, leV, as_, at_, V.inn, us, T9_, Ta_]))
    ·refine .seq (.rgn [] (by simp only [go_sem, seval, ae_, ag_]; rfl) ?_ ?_)
     ·(first | trivial | (simp; done) | exact hJ.symm | exact ⟨hJ.symm, hJ.symm⟩)
     refine .condB (by simp only [go_sem, seval, ae_, ag_]; rfl) (by simp only [go_sem, seval, ae_, ag_]) (fun h51 => ?_) (fun h51 => ?_)
     ·refine .rgn [a4_ (f1_ b.expr s2), a4_ (f1_ b.thn s3)] (by simp only [go_sem, seval, ae_, ag_]; rfl) ?_ ?_
      ·(first | trivial | (simp; done) | exact hJ.symm | exact ⟨hJ.symm, hJ.symm⟩)
      refine Exists.intro (ca_ b) ⟨?_, ?_⟩
      ·rfl
      exact Can.weak (Weak.lit (by simp only [go_sem, seval, ae_, ag_, au_, leV, as_, at_, V.inn, us, T9_, Ta_] <;> ((unfold ca_; simp_all))) (by simp only [go_sem, seval, ae_, ag_, au_, leV, as_, at_, V.inn, us, T9_, Ta_]) (by simp only [go_sem, seval, ae_, ag_, au_, leV, as_, at_, V.inn, us, T9_, Ta_]))
     ·refine .skip ?_
      refine Exists.intro (ca_ b) ⟨?_, ?_⟩
      ·rfl
      exact Can.weak (Weak.lit (by simp only [go_sem, seval, ae_, ag_, au_, leV, as_, at_, V.inn, us, T9_, Ta_] <;> ((unfold ca_; simp_all))) (by simp only [go_sem, seval, ae_, ag_, au_, leV, as_, at_, V.inn, us, T9_, Ta_]) (by simp only [go_sem, seval, ae_, ag_, au_, leV, as_, at_, V.inn, us, T9_, Ta_]))
 cases q
 ·refine .seq (.rgn [eu_ (ca_ b = true) (fun h => jm_ b h hs), eu_ (ca_ b = true) (fun h => hk_ (bw b) (by have := (ot_ h).1; omega) (by have := j3_ h; omega))] (by simp only [go_sem, seval, ae_, ag_]; rfl) ?_ ?_)
  ·(first | trivial | (simp; done) | exact hJ.symm | exact ⟨hJ.symm, hJ.symm⟩)
  refine .ret ⟨.inr rfl, ?_⟩
  exact Out.plain (by simp only [Tryz.results23]; rfl) (by simp only [aw_, a3_, go_sem, seval, ae_, ag_] <;> (split <;> rfl)) (by simp only [a2_, go_sem, seval, ae_, ag_] <;> (rw [bok, ← hJ]; first | rfl | (rw [Bool.true_and, d6_]; rfl))) (by simp only [go_sem, seval, ae_, ag_])
 ·refine .seq (.rgn [eu_ (ca_ b = true) (fun h => jm_ b h hs), eu_ (ca_ b = true) (fun h => hk_ (bw b) (by have := (ot_ h).1; omega) (by have := j3_ h; omega))] (by simp only [go_sem, seval, ae_, ag_]; rfl) ?_ ?_)
  ·(first | trivial | (simp; done) | exact hJ.symm | exact ⟨hJ.symm, hJ.symm⟩)
  refine .ret ⟨.inr rfl, ?_⟩
  exact Out.plain (by simp only [Tryz.results23]; rfl) (by simp only [aw_, a3_, go_sem, seval, ae_, ag_] <;> (split <;> rfl)) (by simp only [a2_, go_sem, seval, ae_, ag_] <;> (rw [bok, ← hJ]; first | rfl | (rw [Bool.true_and, d6_]; rfl))) (by simp only [go_sem, seval, ae_, ag_])
end
end Go.Proofs.YtpikbndepapbhabGreatDoor
