/- Lines without types: words, text, ok: the program's. Conditions: none. -/
import Derived.Test.YtcigkafioinfoaaGreatDoorKh
set_option linter.unusedVariables false
set_option linter.unusedSimpArgs false
namespace Go.Proofs.YtcigkafioinfoaaGreatDoor
section
set_option maxRecDepth 100000
set_option maxHeartbeats 4000000
theorem abl_ {l : Wd} {k : Nat} (h : k < l.length) : (b8_ (l.map (·.1))).getD k [] = [.s (l.getD k ([], 0)).1] := by
 simp [b8_, T8_, T6_ h]
theorem qg_ {r : List V} {l : List Str} (h : r ∈ b8_ l) : r.length = 1 := by
 obtain ⟨s, _, rfl⟩ := List.mem_map.1 h; rfl
theorem by_ (l : List Str) (k j : Nat) : ((cr_ (b8_ l) [.s []] k).getD j []).drop 1 = [] := by
 rw [T8_]
 cases h : (cr_ (b8_ l) [.s []] k)[j]? with
 | none => rfl
 | some r =>
  have hm := List.mem_of_getElem? h
  have : r.length = 1 := by
   rcases gs_ hm with hm | rfl
   ·exact qg_ hm
   ·rfl
  simp only [Option.getD_some]; exact List.drop_of_length_le (by omega)
theorem kp_ (l : Wd) (hl : l.length ≤ 1000000) : ACall En 193 [.sl false (wdR l)] [] [.sl false (b8_ (l.map (·.1)))] [] := by
 have hp : ∀ k, cf_ (cr_ (b8_ (l.map (·.1))) [.s []] k) = true := fun k => gk_ (ab_ _) rfl
 have hll : (b8_ (l.map (·.1))).length = l.length := by simp [b8_]
 refine am_ (fn := Tryz.f193) [] Tryz.func193 rfl rfl (by simp) fun C => ?_
 rw [a2_]
 simp only [Tryz.ntmps193, T7_, List.length_nil, Nat.reduceAdd, Nat.reduceSub, List.replicate_succ, List.replicate_zero, List.cons_append, List.nil_append, bn_]
 refine .seq (.rgn [] (by simp only [go_sem, seval, af_, ad_, hp, by_, aq_, hll]; rfl) ?_ ?_)
 ·(first | trivial | (simp; done) | (simp at h12; simp; omega))
 refine .seq (.rgn [] (by simp only [go_sem, seval, af_, ad_, hp, by_, aq_, hll]; rfl) ?_ ?_)
 ·simp; omega
 refine .seq (.seq (.rgn [] (by simp only [go_sem, seval, af_, ad_, hp, by_, aq_, hll]; rfl) ?_ ?_))
 ·(first | trivial | (simp; done) | (simp at h12; simp; omega))
 refine .block (.loopK (fun k : Nat => ⟨[.no, .no, .no, .ow 18 1 0 l.length, .no, .no, .no, .no, .no, .sl false (wdR l), .i .i64 l.length, .i .i64 k, .no, .no, .no, .no, .no, .no, .no, .no, .no, .no, .no], be_ [(18, ⟨9, 1, cr_ (b8_ (l.map (·.1))) [.s []] k⟩)], us [18]⟩) (fun k : Nat => k ≤ l.length) (fun k : Nat => l.length - k) (0) ?_ ?_ (fun k hI => ?_))
 ·simp
 ·exact Can.weak (Weak.lit (by simp only [go_sem, seval, af_, ad_, hp, by_, aq_, hll, at_, leV, as_, ar_, V.inn, us, T9_, Ta_] <;> (simp)) (by simp only [go_sem, seval, af_, ad_, hp, by_, aq_, hll, at_, leV, as_, ar_, V.inn, us, T9_, Ta_]) (by simp only [go_sem, seval, af_, ad_, hp, by_, aq_, hll, at_, leV, as_, ar_, V.inn, us, T9_, Ta_] <;> (simp [fp_, hll])))
 refine .seq (.rgn [] (by simp only [go_sem, seval, af_, ad_, hp, by_, aq_, hll]; rfl) ?_ ?_)
 ·(first | trivial | (simp; done) | (simp at h12; simp; omega))
 refine .seq (.condB (by simp only [go_sem, seval, af_, ad_, hp, by_, aq_, hll]; rfl) (by simp only [go_sem, seval, af_, ad_, hp, by_, aq_, hll]) (fun h12 => ?_) (fun h12 => ?_))
 ·refine .skip (.seq (.block (.seq (.rgn [] (by simp only [go_sem, seval, af_, ad_, hp, by_, aq_, hll, f7_ (show k < l.length by simpa using h12)]; rfl) ?_ ?_))))
  ·(first | trivial | (simp; done) | (simp at h12; simp; omega))
  refine .rgn [] (by simp only [go_sem, seval, af_, ad_, hp, by_, aq_, hll, fu_ (l := b8_ (l.map (·.1))) (show k < (b8_ (l.map (·.1))).length by rw [hll]; simpa using h12)]; rfl) ?_ ?_
  ·(first | trivial | (simp; done) | (simp at h12; simp; omega))
  refine .rgn [] (by simp only [go_sem, seval, af_, ad_, hp, by_, aq_, hll]; rfl) ?_ ?_
  ·(first | trivial | (simp; done) | (simp at h12; simp; omega))
  refine Exists.intro (k + 1) ⟨?_, ?_, ?_⟩
  ·simp at h12; omega
  ·simp at h12; omega
  exact Can.weak (Weak.lit (by simp only [go_sem, seval, af_, ad_, hp, by_, aq_, hll, at_, leV, as_, ar_, V.inn, us, T9_, Ta_] <;> (rw [bm_ (by simp at h12; omega) (by simp at h12; omega)]; simp)) (by simp only [go_sem, seval, af_, ad_, hp, by_, aq_, hll, at_, leV, as_, ar_, V.inn, us, T9_, Ta_]) (by simp only [go_sem, seval, af_, ad_, hp, by_, aq_, hll, at_, leV, as_, ar_, V.inn, us, T9_, Ta_] <;> ((rw [← fu_ (by rw [hll]; simpa using h12), abl_ (by simpa using h12)]))))
 ·refine .exit (.seq (.rgn [] (by simp only [go_sem, seval, af_, ad_, hp, by_, aq_, hll]; rfl) ?_ ?_))
  ·(first | trivial | (simp; done) | (simp at h12; simp; omega))
  refine .frz 18 (by simp only [go_sem, seval, af_, ad_, hp, by_, aq_, hll]; rfl) (by simp only [go_sem, seval, af_, ad_, hp, by_, aq_, hll]) (by simp only [go_sem, seval, af_, ad_, hp, by_, aq_, hll]; rfl) (by simp only [go_sem, seval, af_, ad_, hp, by_, aq_, hll]; rfl) ?_
  refine .ret ⟨.inr rfl, ?_⟩
  exact Out.plain (by simp only [Tryz.results193]; rfl) (by simp only [ax_, bj_, go_sem, seval, af_, ad_, hp, by_, aq_, hll] <;> (split <;> rfl)) (by simp only [bi_, go_sem, seval, af_, ad_, hp, by_, aq_, hll] <;> (simp at h12; rw [fx_ (by omega)]; simp [← hll, T1_, peel])) (by simp only [go_sem, seval, af_, ad_, hp, by_, aq_, hll])
def bC (b : Bl) : List V := .i .i64 b.kind :: .s b.name :: (eC b.expr ++ eC b.thn)
theorem ai_ (b : Bl) : bC b = [.i .i64 b.kind, .s b.name, .i .i64 b.expr.kind, .i .i64 b.expr.n, .s b.expr.s, .sl false (eR b.expr.kids), .i .i64 b.thn.kind, .i .i64 b.thn.n, .s b.thn.s, .sl false (eR b.thn.kids)] := by
 simp only [bC, bq_]; rfl
def smb (b : Bl) : Bool := decide (b.name.length < 4611686018427387904) && sm b.expr && sm b.thn
theorem eu_ {b : Bl} (h : smb b = true) : b.name.length < 4611686018427387904 ∧ sm b.expr = true ∧ sm b.thn = true := by
 simp only [smb, T5_, T3_] at h; exact ⟨h.1.1, h.1.2, h.2⟩
def dj_ (b : Bl) : Wd :=
 if b.kind = 1 then (b.name, 101) :: (wEq, 102) :: src b.expr 0 0
 else if b.kind = 2 then (d6_, 103) :: src b.expr 0 0
 else if b.kind = 3 then ((wIf, 100) :: src b.expr 0 0 ++ [(jv_, -1), (d6_, 103)]) ++ src b.thn 0 (cnt b.expr)
 else []
theorem js_ {b : Bl} (h : cz_ b = true) : (b.kind = 0 ∨ b.kind = 1 ∨ b.kind = 2 ∨ b.kind = 3) ∧ (b.kind = 1 ∨ b.kind = 2 ∨ b.kind = 3 → eok b.expr = true) ∧ (b.kind = 3 → eok b.thn = true) := by
 unfold cz_ at h
 by_cases k0 : b.kind = 0
 ·simp [k0]
 by_cases k1 : b.kind = 1
 ·simp [k1] at h; simp [k1]; exact e2_ h.1.2
 by_cases k2 : b.kind = 2
 ·simp [k2] at h; simp [k2]; exact e2_ h.1.2
 by_cases k3 : b.kind = 3
 ·simp [k3] at h; simp [k3]; exact ⟨e2_ h.1.2, e2_ h.2⟩
 ·simp [k0, k1, k2, k3] at h
theorem tk_ {b : Bl} (h : cz_ b = true) : (dj_ b).map (·.1) = bw b := by
 obtain ⟨h0, h1, h2⟩ := js_ h
 unfold dj_ bw
 rcases h0 with k | k | k | k
 ·simp [k]
 ·simp [k, dz_, ff_ (b1_ (h1 (.inl k)))]
 ·simp [k, dz_, ff_ (b1_ (h1 (.inr (.inl k))))]
 ·simp [k, dz_, ff_ (b1_ (h1 (.inr (.inr k)))), ff_ (b1_ (h2 k))]
theorem e7_ {e : E} (h : eok e = true) : many e ((5 : Nat) : Int) ≤ 1000 := by have := iv_ h; show many e 5 ≤ 1000; omega
theorem h9_ {e : E} (h : eok e = true) : 1 ≤ cnt e ∧ cnt e ≤ 12 := by have := (cx_ 5 e 0 (b1_ h)).2.2.2; have h2 := iv_ h; have h3 : many e ((5 : Nat) : Int) = many e 5 := rfl; omega
theorem e6_ {e : E} (h : eok e = true) (must nx : Int) : (src e must nx).length ≤ 36 := by rw [gw_]; exact (cg_ h must).2.1
theorem dw_ (l : Wd) : wdR l = [] ↔ l = [] := by cases l <;> simp [wdR]
theorem p4_ (b : Bl) (h : cz_ b = true) (hs : smb b = true) : ACall En 154 [.ag (bC b)] [] [.sl false (wdR (dj_ b))] [] := by
 obtain ⟨h0, h1, h2⟩ := js_ h
 obtain ⟨s1, s2, s3⟩ := eu_ hs
 have W : b.kind = 1 ∨ b.kind = 2 ∨ b.kind = 3 → _ := fun hk => k4_ 5 b.expr 0 0 (b1_ (h1 hk)) s2 (e7_ (h1 hk)) (by decide) (by have := h9_ (h1 hk); omega) (by decide)
 have W3 : b.kind = 3 → _ := fun hk => k4_ 5 b.thn 0 (0 + cnt b.expr) (b1_ (h2 hk)) s3 (e7_ (h2 hk)) (by have := h9_ (h1 (.inr (.inr hk))); omega) (by have := h9_ (h1 (.inr (.inr hk))); have := h9_ (h2 hk); omega) (by decide)
 refine am_ (fn := Tryz.f154) [] Tryz.func154 rfl rfl (by simp) fun C => ?_
 rw [a2_]
 simp only [Tryz.ntmps154, T7_, List.length_nil, Nat.reduceAdd, Nat.reduceSub, List.replicate_succ, List.replicate_zero, List.cons_append, List.nil_append, bn_]
 refine .seq (.rgn [] (by simp only [go_sem, seval, af_, ad_, T2_, T1_, ai_]; rfl) ?_ ?_)
 ·(first | trivial | (simp; done) | (simp [b7_, List.forall_mem_append, bk_]; done))
 refine .seq (.rgn [] (by simp only [go_sem, seval, af_, ad_, T2_, T1_, ai_]; rfl) ?_ ?_)
 ·(first | trivial | (simp; done) | (simp [b7_, List.forall_mem_append, bk_]; done))
 refine .seq (.seq (.rgn [] (by simp only [go_sem, seval, af_, ad_, T2_, T1_, ai_]; rfl) ?_ ?_))
 ·(first | trivial | (simp; done) | (simp [b7_, List.forall_mem_append, bk_]; done))
 refine .block (.seq (.rgn [] (by simp only [go_sem, seval, af_, ad_, T2_, T1_, ai_]; rfl) ?_ ?_))
 ·(first | trivial | (simp; done) | (simp [b7_, List.forall_mem_append, bk_]; done))
 refine .condB (by simp only [go_sem, seval, af_, ad_, T2_, T1_, ai_]; rfl) (by simp only [go_sem, seval, af_, ad_, T2_, T1_, ai_]) (fun h7 => ?_) (fun h7 => ?_)
 ·refine .seq (.rgnD [c7_ [13] [26] (W (.inl (by simpa using h7)))] enM (by simp only [go_sem, seval, af_, ad_, T2_, T1_, ai_, bh_, bl_]; rfl) (by rfl) ?_ ?_)
  ·have q := h1 (.inl (by simpa using h7)); have q2 := (e6_ q 0 0); have q3 : src b.expr 0 0 ≠ [] := (fun e => by have := (cg_ q 0).1; rw [← gw_ b.expr 0 0, e] at this; simp at this); simp [b7_, bk_, q3, dw_]; omega
  refine .frz 27 (by simp only [go_sem, seval, af_, ad_, T2_, T1_, ai_]; rfl) (by simp only [go_sem, seval, af_, ad_, T2_, T1_, ai_]) (by simp only [go_sem, seval, af_, ad_, T2_, T1_, ai_]; rfl) (by simp only [go_sem, seval, af_, ad_, T2_, T1_, ai_]; rfl) ?_
  refine .ret ⟨.inr rfl, ?_⟩
  exact Out.plain (by simp only [Tryz.results154]; rfl) (by simp only [ax_, bj_, go_sem, seval, af_, ad_, T2_, T1_, ai_] <;> (split <;> rfl)) (by simp only [bi_, go_sem, seval, af_, ad_, T2_, T1_, ai_] <;> (have k : b.kind = 1 := (by simpa using h7); rw [if_pos (by omega), T1_ (by simp [af_]; omega)]; simp [dj_, k, wdR, peel, wEq])) (by simp only [go_sem, seval, af_, ad_, T2_, T1_, ai_])
 ·refine .seq (.rgn [] (by simp only [go_sem, seval, af_, ad_, T2_, T1_, ai_]; rfl) ?_ ?_)
  ·(first | trivial | (simp; done) | (simp [b7_, List.forall_mem_append, bk_]; done))
  refine .condB (by simp only [go_sem, seval, af_, ad_, T2_, T1_, ai_]; rfl) (by simp only [go_sem, seval, af_, ad_, T2_, T1_, ai_]) (fun h18 => ?_) (fun h18 => ?_)
  ·refine .seq (.rgn [c7_ [13] [34] (W (.inr (.inl (by simpa using h18))))] (by simp only [go_sem, seval, af_, ad_, T2_, T1_, ai_, bh_, bl_]; rfl) ?_ ?_)
   ·have q := h1 (.inr (.inl (by simpa using h18))); have q2 := (e6_ q 0 0); have q3 : src b.expr 0 0 ≠ [] := (fun e => by have := (cg_ q 0).1; rw [← gw_ b.expr 0 0, e] at this; simp at this); simp [b7_, bk_, q3, dw_]; omega
   refine .frz 35 (by simp only [go_sem, seval, af_, ad_, T2_, T1_, ai_]; rfl) (by simp only [go_sem, seval, af_, ad_, T2_, T1_, ai_]) (by simp only [go_sem, seval, af_, ad_, T2_, T1_, ai_]; rfl) (by simp only [go_sem, seval, af_, ad_, T2_, T1_, ai_]; rfl) ?_
   refine .ret ⟨.inr rfl, ?_⟩
   exact Out.plain (by simp only [Tryz.results154]; rfl) (by simp only [ax_, bj_, go_sem, seval, af_, ad_, T2_, T1_, ai_] <;> (split <;> rfl)) (by simp only [bi_, go_sem, seval, af_, ad_, T2_, T1_, ai_] <;> (have k : b.kind = 2 := (by simpa using h18); rw [if_pos (by omega), T1_ (by simp [af_]; omega)]; simp [dj_, k, wdR, peel, d6_])) (by simp only [go_sem, seval, af_, ad_, T2_, T1_, ai_])
  ·refine .seq (.rgn [] (by simp only [go_sem, seval, af_, ad_, T2_, T1_, ai_]; rfl) ?_ ?_)
   ·(first | trivial | (simp; done) | (simp [b7_, List.forall_mem_append, bk_]; done))
   refine .condB (by simp only [go_sem, seval, af_, ad_, T2_, T1_, ai_]; rfl) (by simp only [go_sem, seval, af_, ad_, T2_, T1_, ai_]) (fun h26 => ?_) (fun h26 => ?_)
   ·refine .seq (.rgn [c7_ [13] [42] (W (.inr (.inr (by simpa using h26))))] (by simp only [go_sem, seval, af_, ad_, T2_, T1_, ai_, bh_, bl_]; rfl) ?_ ?_)
    ·have q := h1 (.inr (.inr (by simpa using h26))); have q2 := (e6_ q 0 0); have q3 : src b.expr 0 0 ≠ [] := (fun e => by have := (cg_ q 0).1; rw [← gw_ b.expr 0 0, e] at this; simp at this); simp [b7_, bk_, q3, dw_]; omega
    refine .seq (.rgn [] (by simp only [go_sem, seval, af_, ad_, T2_, T1_, ai_]; rfl) ?_ ?_)
    ·have q := h1 (.inr (.inr (by simpa using h26))); have q2 := (e6_ q 0 0); simp [b7_, bk_]; omega
    refine .seq (.rgn [c7_ [13] [52] (W3 (by simpa using h26))] (by simp only [go_sem, seval, af_, ad_, T2_, T1_, ai_, bh_, bl_]; rfl) ?_ ?_)
    ·have q := h1 (.inr (.inr (by simpa using h26))); have q2 := (e6_ q 0 0); have q4 := e6_ (h2 (by simpa using h26)) 0 (0 + cnt b.expr); simp at q4; simp [b7_, bk_]; omega
    refine .frz 53 (by simp only [go_sem, seval, af_, ad_, T2_, T1_, ai_]; rfl) (by simp only [go_sem, seval, af_, ad_, T2_, T1_, ai_]) (by simp only [go_sem, seval, af_, ad_, T2_, T1_, ai_]; rfl) (by simp only [go_sem, seval, af_, ad_, T2_, T1_, ai_]; rfl) ?_
    refine .ret ⟨.inr rfl, ?_⟩
    exact Out.plain (by simp only [Tryz.results154]; rfl) (by simp only [ax_, bj_, go_sem, seval, af_, ad_, T2_, T1_, ai_] <;> (split <;> rfl)) (by simp only [bi_, go_sem, seval, af_, ad_, T2_, T1_, ai_] <;> (have k : b.kind = 3 := (by simpa using h26); rw [if_pos (by omega), T1_ (by simp [af_]; omega)]; simp [dj_, k, wdR, peel, d6_, wIf, jv_])) (by simp only [go_sem, seval, af_, ad_, T2_, T1_, ai_])
   ·refine .skip (.seq (.rgn [] (by simp only [go_sem, seval, af_, ad_, T2_, T1_, ai_]; rfl) ?_ ?_))
    ·(first | trivial | (simp; done) | (simp [b7_, List.forall_mem_append, bk_]; done))
    refine .can (Can.slotLe 2 (.sl false []) (by simp only [go_sem, seval, af_, ad_, T2_, T1_, ai_] <;> trivial) (by simp only [go_sem, seval, af_, ad_, T2_, T1_, ai_] <;> rfl)) ?_
    refine .ret ⟨.inr rfl, ?_⟩
    exact Out.plain (by simp only [Tryz.results154]; rfl) (by simp only [ax_, bj_, go_sem, seval, af_, ad_, T2_, T1_, ai_] <;> (split <;> rfl)) (by simp only [bi_, go_sem, seval, af_, ad_, T2_, T1_, ai_] <;> (have k : b.kind = 0 := (by simp_all); simp [dj_, k, wdR])) (by simp only [go_sem, seval, af_, ad_, T2_, T1_, ai_])
end
section
set_option maxRecDepth 100000
set_option maxHeartbeats 4000000
theorem ln_ {b : Bl} (h : cz_ b = true) : (ce_ (bw b)).length ≤ 1000 := by
 have := kj_ h
 have h2 := ma_ (fun s hs => (this.2 s hs).2)
 omega
theorem or_ (b : Bl) (h : cz_ b = true) (hs : smb b = true) : ACall En 155 [.ag (bC b)] [] [.s (ce_ (bw b))] [] := by
 have h1 := ln_ h
 have h2 := (kj_ h).1
 have h3 := tk_ h
 have h4 : (dj_ b).length = (bw b).length := by rw [← h3, List.length_map]
 refine am_ (fn := Tryz.f155) [] Tryz.func155 rfl rfl (by simp) fun C => ?_
 rw [a2_]
 simp only [Tryz.ntmps155, T7_, List.length_nil, Nat.reduceAdd, Nat.reduceSub, List.replicate_succ, List.replicate_zero, List.cons_append, List.nil_append, bn_]
 refine .seq (.rgn [] (by simp only [go_sem, seval, ai_, ad_, h3]; rfl) ?_ ?_)
 ·simp
 refine .seq (.rgn [ba_ (p4_ b h hs), ba_ (kp_ (dj_ b) (by omega)), ba_ (i4_ (bw b) (by omega) (by omega))] (by simp only [go_sem, seval, ai_, ad_, h3]; rfl) ?_ ?_)
 ·simp
 refine .ret ⟨.inr rfl, ?_⟩
 exact Out.plain (by simp only [Tryz.results155]; rfl) (by simp only [ax_, bj_, go_sem, seval, ai_, ad_, h3] <;> (split <;> rfl)) (by simp only [bi_, go_sem, seval, ai_, ad_, h3] <;> (rfl)) (by simp only [go_sem, seval, ai_, ad_, h3])
theorem dv_ (a b : Nat) : decide (a ≤ b) = decide ((a : Int) ≤ (b : Int)) := decide_eq_decide.2 (by omega)
theorem vs_ (b : Bl) (hs : smb b = true) : ACall En 97 [.ag (bC b)] [] [.b (bok b)] [] := by
 obtain ⟨s1, s2, s3⟩ := eu_ hs
 refine am_ (fn := Tryz.f97) [] Tryz.func97 rfl rfl (by simp) fun C => ?_
 rw [a2_]
 simp only [Tryz.ntmps97, T7_, List.length_nil, Nat.reduceAdd, Nat.reduceSub, List.replicate_succ, List.replicate_zero, List.cons_append, List.nil_append, bn_]
 refine .seq (.rgn [] (by simp only [go_sem, seval, ai_]; rfl) ?_ ?_)
 ·(first | trivial | (simp; done) | exact hJ.symm)
 refine .seq (.rgn [] (by simp only [go_sem, seval, ai_]; rfl) ?_ ?_)
 ·(first | trivial | (simp; done) | exact hJ.symm)
 refine .seqJ (fun q : Bool => ⟨[.no, .pt 11 10 0 0, .no, .b q, .no, .no, .no, .no, .no, .no, .no, .no, .no, .no, .no, .no, .no, .no, .no, .no, .no, .no, .no, .no, .no, .no, .no, .no, .no, .no, .no, .no, .no, .no, .no, .no, .no, .no, .no, .no, .no, .no, .no, .no, .no, .no, .no, .no, .no, .no, .no, .no, .no, .no, .no, .no, .no, .no, .no, .no, .no, .no, .no, .no, .no, .no, .no, .no, .no, .no, .no, .no, .no], be_ [(11, ⟨83, 10, [bC b]⟩)], us [11]⟩) (fun q : Bool => q = cz_ b) ?_ (fun q hJ => ?_)
 ·refine .seq (.rgn [] (by simp only [go_sem, seval, ai_]; rfl) ?_ ?_)
  ·(first | trivial | (simp; done) | exact hJ.symm)
  refine .block (.seq (.rgn [] (by simp only [go_sem, seval, ai_]; rfl) ?_ ?_))
  ·(first | trivial | (simp; done) | exact hJ.symm)
  refine .condB (by simp only [go_sem, seval, ai_]; rfl) (by simp only [go_sem, seval, ai_]) (fun h6 => ?_) (fun h6 => ?_)
  ·refine .rgn [ba_ (d3_ b.expr s2), ba_ (d3_ b.thn s3)] (by simp only [go_sem, seval, ai_]; rfl) ?_ ?_
   ·(first | trivial | (simp; done) | exact hJ.symm)
   refine Exists.intro (cz_ b) ⟨?_, ?_⟩
   ·rfl
   exact Can.weak (Weak.lit (by simp only [go_sem, seval, ai_, at_, leV, as_, ar_, V.inn, us, T9_, Ta_] <;> ((unfold cz_; simp_all))) (by simp only [go_sem, seval, ai_, at_, leV, as_, ar_, V.inn, us, T9_, Ta_]) (by simp only [go_sem, seval, ai_, at_, leV, as_, ar_, V.inn, us, T9_, Ta_]))
  ·refine .seq (.rgn [] (by simp only [go_sem, seval, ai_]; rfl) ?_ ?_)
   ·(first | trivial | (simp; done) | exact hJ.symm)
   refine .condB (by simp only [go_sem, seval, ai_]; rfl) (by simp only [go_sem, seval, ai_]) (fun h21 => ?_) (fun h21 => ?_)
   ·refine .rgn [ba_ (lz_ b.name s1), ba_ (lc_ b.expr s2), ba_ (d3_ b.thn s3)] (by simp only [go_sem, seval, ai_]; rfl) ?_ ?_
    ·(first | trivial | (simp; done) | exact hJ.symm)
    refine Exists.intro (cz_ b) ⟨?_, ?_⟩
    ·rfl
    exact Can.weak (Weak.lit (by simp only [go_sem, seval, ai_, at_, leV, as_, ar_, V.inn, us, T9_, Ta_] <;> ((unfold cz_; simp_all))) (by simp only [go_sem, seval, ai_, at_, leV, as_, ar_, V.inn, us, T9_, Ta_]) (by simp only [go_sem, seval, ai_, at_, leV, as_, ar_, V.inn, us, T9_, Ta_]))
   ·refine .seq (.rgn [] (by simp only [go_sem, seval, ai_]; rfl) ?_ ?_)
    ·(first | trivial | (simp; done) | exact hJ.symm)
    refine .condB (by simp only [go_sem, seval, ai_]; rfl) (by simp only [go_sem, seval, ai_]) (fun h36 => ?_) (fun h36 => ?_)
    ·refine .rgn [ba_ (lc_ b.expr s2), ba_ (d3_ b.thn s3)] (by simp only [go_sem, seval, ai_]; rfl) ?_ ?_
     ·(first | trivial | (simp; done) | exact hJ.symm)
     refine Exists.intro (cz_ b) ⟨?_, ?_⟩
     ·rfl
     exact Can.weak (Weak.lit (by simp only [go_sem, seval, ai_, at_, leV, as_, ar_, V.inn, us, T9_, Ta_] <;> ((unfold cz_; simp_all))) (by simp only [go_sem, seval, ai_, at_, leV, as_, ar_, V.inn, us, T9_, Ta_]) (by simp only [go_sem, seval, ai_, at_, leV, as_, ar_, V.inn, us, T9_, Ta_]))
    ·refine .seq (.rgn [] (by simp only [go_sem, seval, ai_]; rfl) ?_ ?_)
     ·(first | trivial | (simp; done) | exact hJ.symm)
     refine .condB (by simp only [go_sem, seval, ai_]; rfl) (by simp only [go_sem, seval, ai_]) (fun h51 => ?_) (fun h51 => ?_)
     ·refine .rgn [ba_ (lc_ b.expr s2), ba_ (lc_ b.thn s3)] (by simp only [go_sem, seval, ai_]; rfl) ?_ ?_
      ·(first | trivial | (simp; done) | exact hJ.symm)
      refine Exists.intro (cz_ b) ⟨?_, ?_⟩
      ·rfl
      exact Can.weak (Weak.lit (by simp only [go_sem, seval, ai_, at_, leV, as_, ar_, V.inn, us, T9_, Ta_] <;> ((unfold cz_; simp_all))) (by simp only [go_sem, seval, ai_, at_, leV, as_, ar_, V.inn, us, T9_, Ta_]) (by simp only [go_sem, seval, ai_, at_, leV, as_, ar_, V.inn, us, T9_, Ta_]))
     ·refine .skip ?_
      refine Exists.intro (cz_ b) ⟨?_, ?_⟩
      ·rfl
      exact Can.weak (Weak.lit (by simp only [go_sem, seval, ai_, at_, leV, as_, ar_, V.inn, us, T9_, Ta_] <;> ((unfold cz_; simp_all))) (by simp only [go_sem, seval, ai_, at_, leV, as_, ar_, V.inn, us, T9_, Ta_]) (by simp only [go_sem, seval, ai_, at_, leV, as_, ar_, V.inn, us, T9_, Ta_]))
 cases q
 ·refine .seq (.rgn [c9_ (cz_ b = true) (fun h => or_ b h hs)] (by simp only [go_sem, seval, ai_]; rfl) ?_ ?_)
  ·(first | trivial | (simp; done) | exact hJ.symm)
  refine .ret ⟨.inr rfl, ?_⟩
  exact Out.plain (by simp only [Tryz.results97]; rfl) (by simp only [ax_, bj_, go_sem, seval, ai_] <;> (split <;> rfl)) (by simp only [bi_, go_sem, seval, ai_] <;> (rw [bok, ← hJ]; first | rfl | (rw [Bool.true_and, dv_]; rfl))) (by simp only [go_sem, seval, ai_])
 ·refine .seq (.rgn [c9_ (cz_ b = true) (fun h => or_ b h hs)] (by simp only [go_sem, seval, ai_]; rfl) ?_ ?_)
  ·(first | trivial | (simp; done) | exact hJ.symm)
  refine .ret ⟨.inr rfl, ?_⟩
  exact Out.plain (by simp only [Tryz.results97]; rfl) (by simp only [ax_, bj_, go_sem, seval, ai_] <;> (split <;> rfl)) (by simp only [bi_, go_sem, seval, ai_] <;> (rw [bok, ← hJ]; first | rfl | (rw [Bool.true_and, dv_]; rfl))) (by simp only [go_sem, seval, ai_])
end
section
set_option maxRecDepth 100000
set_option maxHeartbeats 4000000
def lvl (e : E) : Int := if e.kind = 3 then (if e.s = [60] then 1 else if e.s = [42] then 3 else 2) else 4
theorem si_ {e : E} (k : e.kind = 3) (h : g7_ e.s = true) : lvl e = bo_ e.s := by
 simp only [g7_, Bool.or_eq_true, beq_iff_eq] at h
 unfold lvl
 rw [if_pos k]
 rcases h with ((h | h) | h) | h <;> rw [h] <;> decide
theorem oi_ (e : E) : ACall En 201 [.ag (eC e)] [] [.i .i64 (lvl e)] [] := by
 refine am_ (fn := Tryz.f201) [] Tryz.func201 rfl rfl (by simp) fun C => ?_
 rw [a2_]
 simp only [Tryz.ntmps201, T7_, List.length_nil, Nat.reduceAdd, Nat.reduceSub, List.replicate_succ, List.replicate_zero, List.cons_append, List.nil_append, bn_]
 refine .seq (.rgn [] (by simp only [go_sem, seval]; rfl) ?_ ?_)
 ·first | trivial | simp
 refine .seq (.seq (.rgn [] (by simp only [go_sem, seval]; rfl) ?_ ?_))
 ·first | trivial | simp
 refine .condB (by simp only [go_sem, seval]; rfl) (by simp only [go_sem, seval]) (fun h5 => ?_) (fun h5 => ?_)
 ·refine .seq (.rgn [] (by simp only [go_sem, seval]; rfl) ?_ ?_)
  ·first | trivial | simp
  refine .ret ⟨.inr rfl, ?_⟩
  exact Out.plain (by simp only [Tryz.results201]; rfl) (by simp only [ax_, bj_, go_sem, seval] <;> (split <;> rfl)) (by simp only [bi_, go_sem, seval] <;> (simp at h5; simp [lvl, h5])) (by simp only [go_sem, seval])
 ·refine .skip (.seq (.seq (.rgn [] (by simp only [go_sem, seval]; rfl) ?_ ?_)))
  ·first | trivial | simp
  refine .block (.seq (.rgn [] (by simp only [go_sem, seval]; rfl) ?_ ?_))
  ·first | trivial | simp
  refine .condB (by simp only [go_sem, seval]; rfl) (by simp only [go_sem, seval]) (fun h8 => ?_) (fun h8 => ?_)
  ·refine .seq (.rgn [] (by simp only [go_sem, seval]; rfl) ?_ ?_)
   ·first | trivial | simp
   refine .ret ⟨.inr rfl, ?_⟩
   exact Out.plain (by simp only [Tryz.results201]; rfl) (by simp only [ax_, bj_, go_sem, seval] <;> (split <;> rfl)) (by simp only [bi_, go_sem, seval] <;> (simp at h5 h8; simp [lvl, h5, h8])) (by simp only [go_sem, seval])
  ·refine .seq (.rgn [] (by simp only [go_sem, seval]; rfl) ?_ ?_)
   ·first | trivial | simp
   refine .condB (by simp only [go_sem, seval]; rfl) (by simp only [go_sem, seval]) (fun h10 => ?_) (fun h10 => ?_)
   ·refine .seq (.rgn [] (by simp only [go_sem, seval]; rfl) ?_ ?_)
    ·first | trivial | simp
    refine .ret ⟨.inr rfl, ?_⟩
    exact Out.plain (by simp only [Tryz.results201]; rfl) (by simp only [ax_, bj_, go_sem, seval] <;> (split <;> rfl)) (by simp only [bi_, go_sem, seval] <;> (simp at h5 h8 h10; simp [lvl, h5, h10])) (by simp only [go_sem, seval])
   ·refine .skip (.seq (.rgn [] (by simp only [go_sem, seval]; rfl) ?_ ?_))
    ·first | trivial | simp
    refine .ret ⟨.inr rfl, ?_⟩
    exact Out.plain (by simp only [Tryz.results201]; rfl) (by simp only [ax_, bj_, go_sem, seval] <;> (split <;> rfl)) (by simp only [bi_, go_sem, seval] <;> (simp at h5 h8 h10; simp [lvl, h5, h8, h10])) (by simp only [go_sem, seval])
theorem i5_ (e : E) (hs : sm e = true) : ACall En 205 [.ag (eC e)] [] [.b (pe e)] [] := by
 refine am_ (fn := Tryz.f205) [] Tryz.func205 rfl rfl (by simp) fun C => ?_
 rw [a2_]
 simp only [Tryz.ntmps205, T7_, List.length_nil, Nat.reduceAdd, Nat.reduceSub, List.replicate_succ, List.replicate_zero, List.cons_append, List.nil_append, bn_]
 refine .seq (.rgn [] (by simp only [go_sem, seval]; rfl) ?_ ?_)
 ·first | trivial | simp
 refine .seq (.rgn [ba_ (gf_ e hs), ba_ (uu_ e hs)] (by simp only [go_sem, seval]; rfl) ?_ ?_)
 ·simp
 refine .ret ⟨.inr rfl, ?_⟩
 exact Out.plain (by simp only [Tryz.results205]; rfl) (by simp only [ax_, bj_, go_sem, seval] <;> (split <;> rfl)) (by simp only [bi_, go_sem, seval] <;> (rfl)) (by simp only [go_sem, seval])
theorem xj_ {n : Nat} (h : 9 < n) (o : Str) : Lib.decDigits n ++ o = Lib.decDigits (n / 10) ++ (UInt8.ofNat (48 + n % 10) :: o) := by
 rw [hp_ (by omega)]; simp
theorem ab5_ {n : Int} (h1 : 0 ≤ n) (h2 : n < 256) : IntKind.u8.wrap n = n := by
 simp only [IntKind.wrap, IntKind.signed, IntKind.bits]; simp; omega
theorem dr_ (n : Nat) : (Lib.decDigits n).length ≤ n + 1 := by
 induction n using Nat.strongRecOn with
 | ind n ih =>
  by_cases h : n < 10
  ·rw [Lib.decDigits_one h]; simp
  ·rw [hp_ h]
   have := ih (n / 10) (by omega)
   simp; omega
theorem nk_ (n : Nat) (hn : n < 4611686018427387904) : ACall En 202 [.i .i64 n] [] [.s (Lib.decDigits n)] [] := by
 refine am_ (fn := Tryz.f202) [] Tryz.func202 rfl rfl (by simp) fun C => ?_
 rw [a2_]
 simp only [Tryz.ntmps202, T7_, List.length_nil, Nat.reduceAdd, Nat.reduceSub, List.replicate_succ, List.replicate_zero, List.cons_append, List.nil_append, bn_]
 refine .seq (.rgn [] (by simp only [go_sem, seval]; rfl) ?_ ?_)
 ·(first | trivial | (simp; done) | (have q := dr_ n; rw [hI.2] at q; simp at q; simp; omega))
 refine .seq (.seq (.rgn [] (by simp only [go_sem, seval]; rfl) ?_ ?_))
 ·(first | trivial | (simp; done) | (have q := dr_ n; rw [hI.2] at q; simp at q; simp; omega))
 refine .condB (by simp only [go_sem, seval]; rfl) (by simp only [go_sem, seval]) (fun h5 => ?_) (fun h5 => ?_)
 ·simp at h5; omega
 ·refine .skip (.seq (.seq (.rgn [] (by simp only [go_sem, seval]; rfl) ?_ ?_)))
  ·(first | trivial | (simp; done) | (have q := dr_ n; rw [hI.2] at q; simp at q; simp; omega))
  refine .condB (by simp only [go_sem, seval]; rfl) (by simp only [go_sem, seval]) (fun h7 => ?_) (fun h7 => ?_)
  ·simp at h7; omega
  ·refine .skip (.seq (.rgn [] (by simp only [go_sem, seval]; rfl) ?_ ?_))
   ·(first | trivial | (simp; done) | (have q := dr_ n; rw [hI.2] at q; simp at q; simp; omega))
   refine .seq (.block (.loopK (fun k : Nat × Str => ⟨[.i .i64 k.1, .no, .no, .s k.2, .no, .no, .no, .no, .no, .no, .no, .no, .no, .no, .no, .no, .no, .no, .no, .no, .no, .no, .no, .no, .no, .no, .no, .no, .no, .no, .no], be_ [], us []⟩) (fun k : Nat × Str => k.1 ≤ n ∧ Lib.decDigits n = Lib.decDigits k.1 ++ k.2) (fun k : Nat × Str => k.1) ((n, [])) ?_ ?_ (fun k hI => ?_)))
   ·simp
   ·exact Can.weak (Weak.lit (by simp only [go_sem, seval, at_, leV, as_, ar_, V.inn, us, T9_, Ta_] <;> (simp)) (by simp only [go_sem, seval, at_, leV, as_, ar_, V.inn, us, T9_, Ta_]) (by simp only [go_sem, seval, at_, leV, as_, ar_, V.inn, us, T9_, Ta_]))
   refine .seq (.seq (.rgn [] (by simp only [go_sem, seval]; rfl) ?_ ?_))
   ·(first | trivial | (simp; done) | (have q := dr_ n; rw [hI.2] at q; simp at q; simp; omega))
   refine .condB (by simp only [go_sem, seval]; rfl) (by simp only [go_sem, seval]) (fun h13 => ?_) (fun h13 => ?_)
   ·refine .skip (.block (.seq (.rgnS [19] [cvO En] (by simp only [go_sem, seval]; rfl) ?_ ?_)))
    ·(first | trivial | (simp; done) | (have q := dr_ n; rw [hI.2] at q; simp at q; simp; omega))
    refine .rgn [] (by simp only [go_sem, seval]; rfl) ?_ ?_
    ·(first | trivial | (simp; done) | (have q := dr_ n; rw [hI.2] at q; simp at q; simp; omega))
    refine Exists.intro ((k.1 / 10, UInt8.ofNat (48 + k.1 % 10) :: k.2)) ⟨?_, ?_, ?_⟩
    ·simp at h13; refine ⟨by dsimp only; omega, ?_⟩; rw [hI.2]; exact xj_ (by omega) _
    ·simp at h13; simp; omega
    exact Can.weak (Weak.lit (by simp only [go_sem, seval, at_, leV, as_, ar_, V.inn, us, T9_, Ta_] <;> (simp at h13; rw [Int.tdiv_eq_ediv_of_nonneg (by omega), Int.tmod_eq_emod_of_nonneg (by omega), bm_ (by omega) (by omega), bm_ (by omega) (by omega), ab5_ (by omega) (by omega)]; refine ⟨by omega, ?_⟩; rw [show (48 + (k.1 : Int) % 10).toNat = 48 + k.1 % 10 by omega])) (by simp only [go_sem, seval, at_, leV, as_, ar_, V.inn, us, T9_, Ta_]) (by simp only [go_sem, seval, at_, leV, as_, ar_, V.inn, us, T9_, Ta_]))
   ·refine .exit (.seq (.rgnS [28] [cvO En] (by simp only [go_sem, seval]; rfl) ?_ ?_))
    ·(first | trivial | (simp; done) | (have q := dr_ n; rw [hI.2] at q; simp at q; simp; omega))
    refine .ret ⟨.inr rfl, ?_⟩
    exact Out.plain (by simp only [Tryz.results202]; rfl) (by simp only [ax_, bj_, go_sem, seval] <;> (split <;> rfl)) (by simp only [bi_, go_sem, seval] <;> (simp at h13; rw [hI.2, bm_ (by omega) (by omega), ab5_ (by omega) (by omega), Lib.decDigits_one (by omega), show (48 + (k.1 : Int)).toNat = 48 + k.1 by omega]; rfl)) (by simp only [go_sem, seval])
theorem wy_ {n : Int} (h : n < 0) : Lib.itoa n = 45 :: Lib.decDigits (-n).toNat := by unfold Lib.itoa; rw [if_pos h, show n.natAbs = (-n).toNat by omega]
theorem q0_ (n : Int) (h1 : -4611686018427387904 < n) (h2 : n < 4611686018427387904) : ACall En 202 [.i .i64 n] [] [.s (Lib.itoa n)] [] := by
 by_cases h : 0 ≤ n
 ·obtain ⟨m, rfl⟩ := Int.eq_ofNat_of_zero_le h
  rw [dy_ h]
  exact nk_ m (by omega)
 have hm : ((-n).toNat : Int) = -n := by omega
 have A := nk_ (-n).toNat (by omega)
 rw [hm] at A
 have q := dr_ (-n).toNat
 refine am_ (fn := Tryz.f202) [] Tryz.func202 rfl rfl (by simp) fun C => ?_
 rw [a2_]
 simp only [Tryz.ntmps202, T7_, List.length_nil, Nat.reduceAdd, Nat.reduceSub, List.replicate_succ, List.replicate_zero, List.cons_append, List.nil_append, bn_]
 refine .seq (.rgn [] (by simp only [go_sem, seval]; rfl) ?_ ?_)
 ·(first | trivial | (simp; done) | (rw [Int.zero_sub, bm_ (by omega) (by omega)]; omega))
 refine .seq (.seq (.rgn [] (by simp only [go_sem, seval]; rfl) ?_ ?_))
 ·(first | trivial | (simp; done) | (rw [Int.zero_sub, bm_ (by omega) (by omega)]; omega))
 refine .condB (by simp only [go_sem, seval]; rfl) (by simp only [go_sem, seval]) (fun h5 => ?_) (fun h5 => ?_)
 ·simp at h5; omega
 ·refine .skip (.seq (.seq (.rgn [] (by simp only [go_sem, seval]; rfl) ?_ ?_)))
  ·(first | trivial | (simp; done) | (rw [Int.zero_sub, bm_ (by omega) (by omega)]; omega))
  refine .condB (by simp only [go_sem, seval]; rfl) (by simp only [go_sem, seval]) (fun h7 => ?_) (fun h7 => ?_)
  ·refine .seq (.rgn [ba_ A] (by simp only [go_sem, seval, bm_ (show -9223372036854775808 ≤ -n by omega) (by omega)]; rfl) ?_ ?_)
   ·(first | trivial | (simp; done) | (rw [Int.zero_sub, bm_ (by omega) (by omega)]; omega))
   refine .ret ⟨.inr rfl, ?_⟩
   exact Out.plain (by simp only [Tryz.results202]; rfl) (by simp only [ax_, bj_, go_sem, seval] <;> (split <;> rfl)) (by simp only [bi_, go_sem, seval] <;> (rw [wy_ (by omega)])) (by simp only [go_sem, seval])
  ·simp at h7; omega
end
section
set_option maxRecDepth 100000
set_option maxHeartbeats 1000000
theorem qo_ (a b : List Str) : b8_ (a ++ b) = b8_ a ++ b8_ b := by simp [b8_]
theorem bx_ (l : List Str) : (∀ r, r ∈ b8_ l → r.length = 1) = True := eq_true fun r hr => qg_ hr
theorem eh_ (l : List Str) : b8_ l = [] ↔ l = [] := by cases l <;> simp [b8_]
theorem pv_ {e : E} {d : Int} (h : form e d = true) (must : Int) : wds e must = if e.kind = 3 ∧ bo_ e.s < must then [40] :: (wds e 0 ++ [[41]]) else wds e 0 := by
 have := uh_ h must 0
 unfold wds
 rw [this, k7_]
 by_cases h1 : e.kind = 3 <;> by_cases h2 : bo_ e.s < must <;> simp [h1, h2]
theorem k9_ {e : E} {d : Nat} (h : form e d = true) (hm : many e d ≤ 1000) (must : Int) : (wds e must).length ≤ 3000 := by
 have := cx_ d e must h; omega
theorem rh_ {e : E} {d : Int} (h : form e d = true) (must : Int) (hm : must ≤ 4) : (lvl e < must) = (e.kind = 3 ∧ bo_ e.s < must) := by
 rcases (bt_ h).2 with ⟨k1, _⟩ | ⟨k1, _⟩ | ⟨k1, h1, h2, h3, h4, h5⟩ | ⟨k1, _⟩
 ·simp [lvl, k1]; omega
 ·simp [lvl, k1]; omega
 ·rw [si_ k1 h2]; simp [k1]
 ·simp [lvl, k1]; omega
theorem fn_ (d : Nat) : ∀ (e : E) (t : Int), form e d = true → sm e = true → many e d ≤ 1000 → t ≤ 4 → -1000 ≤ t → ACall En 150 [.ag (eC e), .i .i64 t] [] [.sl false (b8_ (wds e t))] [] := by
 induction d with
 | zero => intro e t h; have := (bt_ h).1; omega
 | succ d ih =>
 intro e t h hs hm ht ht2
 obtain ⟨a1, a2, a3⟩ := c6_ hs
 have e1 : ((d + 1 : Nat) : Int) - 1 = (d : Int) := by omega
 have hd1 : (1 : Int) ≤ ((d + 1 : Nat) : Int) := by omega
 have g1 : e.kind = 1 → 0 ≤ e.n ∧ e.n ≤ 1000000 := fun hk => by
  rcases (bt_ h).2 with ⟨k1, h1, h2, h3, h4⟩ | ⟨k1, h1, h2, h3⟩ | ⟨k1, _⟩ | ⟨k1, _⟩ <;> omega
 have g3 : e.kind = 3 → e.kids.length = 2 ∧ 1 ≤ bo_ e.s ∧ bo_ e.s ≤ 3 ∧ form (e.kids.getD 0 E0) d = true ∧ form (e.kids.getD 1 E0) d = true ∧ many (e.kids.getD 0 E0) d ≤ 1000 ∧ many (e.kids.getD 1 E0) d ≤ 1000 ∧ lvl e = bo_ e.s := fun hk => by
  rcases (bt_ h).2 with ⟨k1, _⟩ | ⟨k1, _⟩ | ⟨k1, h1, h2, h3, h4, h5⟩ | ⟨k1, _⟩ <;> try omega
  rw [e1] at h4 h5
  have := d0_ h2
  have hm2 := gu_ hd1 h3
  rw [e1] at hm2
  have q1 := cx_ d _ 0 h4
  have q2 := cx_ d _ 0 h5
  exact ⟨h3, this.1, this.2, h4, h5, by omega, by omega, si_ k1 h2⟩
 have g4 : e.kind = 4 → e.kids.length = 1 ∧ form (e.kids.getD 0 E0) d = true ∧ many (e.kids.getD 0 E0) d ≤ 1000 := fun hk => by
  rcases (bt_ h).2 with ⟨k1, _⟩ | ⟨k1, _⟩ | ⟨k1, _⟩ | ⟨k1, h1, h2, h3, h4⟩ <;> try omega
  rw [e1] at h4
  have hm2 := hq_ hd1 h3
  rw [e1] at hm2
  have q1 := cx_ d _ 0 h4
  exact ⟨h3, h4, by omega⟩
 have g0 : e.kind = 1 ∨ e.kind = 2 ∨ e.kind = 3 ∨ e.kind = 4 := by
  rcases (bt_ h).2 with ⟨k1, _⟩ | ⟨k1, _⟩ | ⟨k1, _⟩ | ⟨k1, _⟩ <;> omega
 have hT : e.kind = 3 → wds e 0 = wds (e.kids.getD 0 E0) (if lvl e = 1 then 2 else lvl e) ++ [e.s] ++ wds (e.kids.getD 1 E0) (lvl e + 1) := fun hk => by
  have q := g3 hk
  rw [k6_ hk q.1, if_neg (by omega), q.2.2.2.2.2.2.2, show max 2 (bo_ e.s) = if bo_ e.s = 1 then 2 else bo_ e.s by split <;> omega]
 have hL : ∀ k, k < e.kids.length → ∀ m, (wds (e.kids.getD k E0) m).length ≤ 3000 := fun k hk m => by
  rcases g0 with hk4 | hk4 | hk4 | hk4
  ·rcases (bt_ h).2 with ⟨k1, h1, h2, h3, h4⟩ | ⟨k1, _⟩ | ⟨k1, _⟩ | ⟨k1, _⟩ <;> try omega
   rw [h4] at hk; simp at hk
  ·rcases (bt_ h).2 with ⟨k1, _⟩ | ⟨k1, h1, h2, h3⟩ | ⟨k1, _⟩ | ⟨k1, _⟩ <;> try omega
   rw [h3] at hk; simp at hk
  ·have := g3 hk4
   have hk2 : k = 0 ∨ k = 1 := by omega
   rcases hk2 with rfl | rfl
   ·exact k9_ this.2.2.2.1 this.2.2.2.2.2.1 _
   ·exact k9_ this.2.2.2.2.1 this.2.2.2.2.2.2.1 _
  ·have := g4 hk4
   have hk2 : k = 0 := by omega
   subst hk2
   exact k9_ this.2.1 this.2.2 _
 have hW := k9_ h hm
 have hA : e.kind = 4 → wds e 0 = wds (e.kids.getD 0 E0) 4 ++ [[97, 115], e.s] := fun hk => ox_ hk (g4 hk).1 0
 refine am_ (fn := Tryz.f150) [] Tryz.func150 rfl rfl (by simp) fun C => ?_
 rw [a2_]
 simp only [Tryz.ntmps150, T7_, List.length_nil, Nat.reduceAdd, Nat.reduceSub, List.replicate_succ, List.replicate_zero, List.cons_append, List.nil_append, bn_]
 refine .seq (.rgn [] (by simp only [go_sem, seval, ae_, ab_, T2_, T1_]; rfl) ?_ ?_)
 ·(first | trivial | (simp; done) | (simp [bx_]; done))
 refine .seq (.rgn [] (by simp only [go_sem, seval, ae_, ab_, T2_, T1_]; rfl) ?_ ?_)
 ·(first | trivial | (simp; done) | (simp [bx_]; done))
 refine .seq (.rgn [ba_ (oi_ e)] (by simp only [go_sem, seval, ae_, ab_, T2_, T1_]; rfl) ?_ ?_)
 ·(first | trivial | (simp; done) | (simp [bx_]; done))
 refine .seqJ (fun u : Unit => ⟨[.no, .i .i64 t, .no, .no, .no, .ow 150 1 0 (wds e 0).length, .i .i64 (lvl e), .no, .no, .no, .no, .no, .no, .no, .no, .no, .no, .no, .no, .no, .no, .no, .no, .no, .no, .no, .no, .no, .no, .no, .no, .no, .no, .no, .no, .no, .no, .no, .no, .no, .no, .no, .no, .no, .no, .no, .no, .no, .no, .no, .no, .no, .no, .no, .no, .no, .no, .no, .no, .no, .no, .no, .no, .no, .no, .no, .no, .no, .no, .no, .no, .no, .no], be_ [(150, ⟨9, 1, b8_ (wds e 0)⟩)], us [150]⟩) (fun u : Unit => True) ?_ (fun u hJ => ?_)
 ·refine .seq (.rgn [] (by simp only [go_sem, seval, ae_, ab_, T2_, T1_]; rfl) ?_ ?_)
  ·(first | trivial | (simp; done) | (simp [bx_]; done))
  refine .block (.seq (.rgn [] (by simp only [go_sem, seval, ae_, ab_, T2_, T1_]; rfl) ?_ ?_))
  ·(first | trivial | (simp; done) | (simp [bx_]; done))
  refine .condB (by simp only [go_sem, seval, ae_, ab_, T2_, T1_]; rfl) (by simp only [go_sem, seval, ae_, ab_, T2_, T1_]) (fun h24 => ?_) (fun h24 => ?_)
  ·refine .rgn [ba_ (q0_ e.n (by have := g1 (by simpa using h24); omega) (by have := g1 (by simpa using h24); omega))] (by simp only [go_sem, seval, ae_, ab_, T2_, T1_]; rfl) ?_ ?_
   ·(first | trivial | (simp; done) | (simp [bx_]; done))
   refine Exists.intro (()) ⟨?_, ?_⟩
   ·trivial
   refine Can.trans (Can.swap 41 150 (by decide) (by decide) (by decide) (by decide) (by simp only [go_sem, seval, ae_, ab_, T2_, T1_, V.cl]) (by simp only [go_sem, seval, ae_, ab_, T2_, T1_, V.cl]) (by simp only [go_sem, seval, ae_, ab_, T2_, T1_, bs_, sw, swM, rnB] <;> rfl) (by simp only [go_sem, seval, ae_, ab_, T2_, T1_, bs_, sw, swM, rnB] <;> rfl) (by simp only [go_sem, seval, ae_, ab_, T2_, T1_, bs_, sw, swM, rnB] <;> rfl)) ?_
   exact Can.weak (Weak.lit (by simp only [go_sem, seval, ae_, ab_, T2_, T1_, at_, leV, as_, ar_, V.inn, us, T9_, Ta_] <;> (first | (rw [d8_ (by simpa using h24)]; rfl) | (rw [do_ (by simpa using h32)]; rfl) | (rw [hT (by simpa using h39), ← hJ]; simp; omega) | (rw [hA (by simp_all)]; simp))) (by simp only [go_sem, seval, ae_, ab_, T2_, T1_, at_, leV, as_, ar_, V.inn, us, T9_, Ta_]) (by simp only [go_sem, seval, ae_, ab_, T2_, T1_, at_, leV, as_, ar_, V.inn, us, T9_, Ta_] <;> (first | (rw [d8_ (by simpa using h24), dy_ (by have := g1 (by simpa using h24); omega)]; rfl) | (rw [do_ (by simpa using h32)]; rfl) | (rw [hT (by simpa using h39), ← hJ]; simp [b8_, cn_]; done) | (rw [hA (by simp_all)]; simp [b8_]))))
  ·refine .seq (.rgn [] (by simp only [go_sem, seval, ae_, ab_, T2_, T1_]; rfl) ?_ ?_)
   ·(first | trivial | (simp; done) | (simp [bx_]; done))
   refine .condB (by simp only [go_sem, seval, ae_, ab_, T2_, T1_]; rfl) (by simp only [go_sem, seval, ae_, ab_, T2_, T1_]) (fun h32 => ?_) (fun h32 => ?_)
   ·refine .rgn [] (by simp only [go_sem, seval, ae_, ab_, T2_, T1_]; rfl) ?_ ?_
    ·(first | trivial | (simp; done) | (simp [bx_]; done))
    refine Exists.intro (()) ⟨?_, ?_⟩
    ·trivial
    refine Can.trans (Can.swap 48 150 (by decide) (by decide) (by decide) (by decide) (by simp only [go_sem, seval, ae_, ab_, T2_, T1_, V.cl]) (by simp only [go_sem, seval, ae_, ab_, T2_, T1_, V.cl]) (by simp only [go_sem, seval, ae_, ab_, T2_, T1_, bs_, sw, swM, rnB] <;> rfl) (by simp only [go_sem, seval, ae_, ab_, T2_, T1_, bs_, sw, swM, rnB] <;> rfl) (by simp only [go_sem, seval, ae_, ab_, T2_, T1_, bs_, sw, swM, rnB] <;> rfl)) ?_
    exact Can.weak (Weak.lit (by simp only [go_sem, seval, ae_, ab_, T2_, T1_, at_, leV, as_, ar_, V.inn, us, T9_, Ta_] <;> (first | (rw [d8_ (by simpa using h24)]; rfl) | (rw [do_ (by simpa using h32)]; rfl) | (rw [hT (by simpa using h39), ← hJ]; simp; omega) | (rw [hA (by simp_all)]; simp))) (by simp only [go_sem, seval, ae_, ab_, T2_, T1_, at_, leV, as_, ar_, V.inn, us, T9_, Ta_]) (by simp only [go_sem, seval, ae_, ab_, T2_, T1_, at_, leV, as_, ar_, V.inn, us, T9_, Ta_] <;> (first | (rw [d8_ (by simpa using h24), dy_ (by have := g1 (by simpa using h24); omega)]; rfl) | (rw [do_ (by simpa using h32)]; rfl) | (rw [hT (by simpa using h39), ← hJ]; simp [b8_, cn_]; done) | (rw [hA (by simp_all)]; simp [b8_]))))
   ·refine .seq (.rgn [] (by simp only [go_sem, seval, ae_, ab_, T2_, T1_]; rfl) ?_ ?_)
    ·(first | trivial | (simp; done) | (simp [bx_]; done))
    refine .condB (by simp only [go_sem, seval, ae_, ab_, T2_, T1_]; rfl) (by simp only [go_sem, seval, ae_, ab_, T2_, T1_]) (fun h39 => ?_) (fun h39 => ?_)
    ·refine .seq (.rgn [] (by simp only [go_sem, seval, ae_, ab_, T2_, T1_]; rfl) ?_ ?_)
     ·(first | trivial | (simp; done) | (simp [bx_]; done))
     refine .seqJ (fun lf : Int => ⟨[.no, .i .i64 t, .pt 12 4 0 0, .no, .no, .sl true [], .i .i64 (lvl e), .i .i64 lf, .no, .no, .no, .no, .no, .no, .no, .no, .no, .no, .no, .no, .no, .no, .no, .no, .no, .no, .no, .no, .no, .no, .no, .no, .no, .no, .no, .no, .no, .no, .no, .no, .no, .no, .no, .no, .no, .no, .no, .no, .no, .no, .no, .no, .no, .no, .no, .no, .no, .no, .no, .no, .no, .no, .no, .no, .no, .no, .no, .no, .no, .no, .no, .no, .no], be_ [(12, ⟨33, 4, [eC e]⟩)], us [12]⟩) (fun lf : Int => lf = if lvl e = 1 then 2 else lvl e) ?_ (fun lf hJ => ?_)
     ·refine .seq (.rgn [] (by simp only [go_sem, seval, ae_, ab_, T2_, T1_]; rfl) ?_ ?_)
      ·(first | trivial | (simp; done) | (simp [bx_]; done))
      refine .condB (by simp only [go_sem, seval, ae_, ab_, T2_, T1_]; rfl) (by simp only [go_sem, seval, ae_, ab_, T2_, T1_]) (fun h43 => ?_) (fun h43 => ?_)
      ·refine .rgn [] (by simp only [go_sem, seval, ae_, ab_, T2_, T1_]; rfl) ?_ ?_
       ·(first | trivial | (simp; done) | (simp [bx_]; done))
       refine Exists.intro (2) ⟨?_, ?_⟩
       ·simp_all
       exact Can.weak (Weak.lit (by simp only [go_sem, seval, ae_, ab_, T2_, T1_, at_, leV, as_, ar_, V.inn, us, T9_, Ta_] <;> (simp_all)) (by simp only [go_sem, seval, ae_, ab_, T2_, T1_, at_, leV, as_, ar_, V.inn, us, T9_, Ta_]) (by simp only [go_sem, seval, ae_, ab_, T2_, T1_, at_, leV, as_, ar_, V.inn, us, T9_, Ta_]))
      ·refine .skip ?_
       refine Exists.intro (lvl e) ⟨?_, ?_⟩
       ·simp_all
       exact Can.weak (Weak.lit (by simp only [go_sem, seval, ae_, ab_, T2_, T1_, at_, leV, as_, ar_, V.inn, us, T9_, Ta_] <;> (simp_all)) (by simp only [go_sem, seval, ae_, ab_, T2_, T1_, at_, leV, as_, ar_, V.inn, us, T9_, Ta_]) (by simp only [go_sem, seval, ae_, ab_, T2_, T1_, at_, leV, as_, ar_, V.inn, us, T9_, Ta_]))
     refine .rgnD [ba_ (ih (e.kids.getD 0 E0) lf (g3 (by simpa using h39)).2.2.2.1 (cj_ a3 _ (bw_ (by have := g3 (by simpa using h39); omega))) (g3 (by simpa using h39)).2.2.2.2.2.1 (by have := g3 (by simpa using h39); rw [hJ]; split <;> omega) (by have := g3 (by simpa using h39); rw [hJ]; split <;> omega)), ba_ (ih (e.kids.getD 1 E0) (lvl e + 1) (g3 (by simpa using h39)).2.2.2.2.1 (cj_ a3 _ (bw_ (by have := g3 (by simpa using h39); omega))) (g3 (by simpa using h39)).2.2.2.2.2.2.1 (by have := g3 (by simpa using h39); omega) (by have := g3 (by simpa using h39); omega))] enM (by simp only [go_sem, seval, ae_, ab_, T2_, T1_, cl_ (show 0 < e.kids.length by have := g3 (by simpa using h39); omega), cl_ (show 1 < e.kids.length by have := g3 (by simpa using h39); omega), bm_ (show -9223372036854775808 ≤ lvl e + 1 by have := g3 (by simpa using h39); omega) (by have := g3 (by simpa using h39); omega)]; rfl) (by rfl) ?_ ?_
     ·have q := g3 (by simpa using h39); have q1 := hL 0 (by omega) lf; have q2 : 1 < e.kids.length := (by omega); have q3 := hL 1 (by omega) (lvl e + 1); simp [-List.getD_eq_getElem?_getD, b7_, q2, bx_]; omega
     refine Exists.intro (()) ⟨?_, ?_⟩
     ·trivial
     refine Can.trans (Can.swap 73 150 (by decide) (by decide) (by decide) (by decide) (by simp only [go_sem, seval, ae_, ab_, T2_, T1_, V.cl]) (by simp only [go_sem, seval, ae_, ab_, T2_, T1_, V.cl]) (by simp only [go_sem, seval, ae_, ab_, T2_, T1_, bs_, sw, swM, rnB] <;> rfl) (by simp only [go_sem, seval, ae_, ab_, T2_, T1_, bs_, sw, swM, rnB] <;> rfl) (by simp only [go_sem, seval, ae_, ab_, T2_, T1_, bs_, sw, swM, rnB] <;> rfl)) ?_
     exact Can.weak (Weak.lit (by simp only [go_sem, seval, ae_, ab_, T2_, T1_, at_, leV, as_, ar_, V.inn, us, T9_, Ta_] <;> (first | (rw [d8_ (by simpa using h24)]; rfl) | (rw [do_ (by simpa using h32)]; rfl) | (rw [hT (by simpa using h39), ← hJ]; simp; omega) | (rw [hA (by simp_all)]; simp))) (by simp only [go_sem, seval, ae_, ab_, T2_, T1_, at_, leV, as_, ar_, V.inn, us, T9_, Ta_]) (by simp only [go_sem, seval, ae_, ab_, T2_, T1_, at_, leV, as_, ar_, V.inn, us, T9_, Ta_] <;> (first | (rw [d8_ (by simpa using h24), dy_ (by have := g1 (by simpa using h24); omega)]; rfl) | (rw [do_ (by simpa using h32)]; rfl) | (rw [hT (by simpa using h39), ← hJ]; simp [b8_, cn_]; done) | (rw [hA (by simp_all)]; simp [b8_]))))
    ·refine .rgnD [ba_ (ih (e.kids.getD 0 E0) 4 (g4 (by simp_all)).2.1 (cj_ a3 _ (bw_ (by have := g4 (by simp_all); omega))) (g4 (by simp_all)).2.2 (by decide) (by decide))] enM (by simp only [go_sem, seval, ae_, ab_, T2_, T1_, cl_ (show 0 < e.kids.length by have := g4 (by simp_all); omega)]; rfl) (by rfl) ?_ ?_
     ·have q := g4 (by simp_all); have q1 := hL 0 (by omega) 4; have q2 : 0 < e.kids.length := (by omega); simp [-List.getD_eq_getElem?_getD, b7_, q2, bx_]; omega
     refine Exists.intro (()) ⟨?_, ?_⟩
     ·trivial
     refine Can.trans (Can.swap 33 150 (by decide) (by decide) (by decide) (by decide) (by simp only [go_sem, seval, ae_, ab_, T2_, T1_, V.cl]) (by simp only [go_sem, seval, ae_, ab_, T2_, T1_, V.cl]) (by simp only [go_sem, seval, ae_, ab_, T2_, T1_, bs_, sw, swM, rnB] <;> rfl) (by simp only [go_sem, seval, ae_, ab_, T2_, T1_, bs_, sw, swM, rnB] <;> rfl) (by simp only [go_sem, seval, ae_, ab_, T2_, T1_, bs_, sw, swM, rnB] <;> rfl)) ?_
     exact Can.weak (Weak.lit (by simp only [go_sem, seval, ae_, ab_, T2_, T1_, at_, leV, as_, ar_, V.inn, us, T9_, Ta_] <;> (first | (rw [d8_ (by simpa using h24)]; rfl) | (rw [do_ (by simpa using h32)]; rfl) | (rw [hT (by simpa using h39), ← hJ]; simp; omega) | (rw [hA (by simp_all)]; simp))) (by simp only [go_sem, seval, ae_, ab_, T2_, T1_, at_, leV, as_, ar_, V.inn, us, T9_, Ta_]) (by simp only [go_sem, seval, ae_, ab_, T2_, T1_, at_, leV, as_, ar_, V.inn, us, T9_, Ta_] <;> (first | (rw [d8_ (by simpa using h24), dy_ (by have := g1 (by simpa using h24); omega)]; rfl) | (rw [do_ (by simpa using h32)]; rfl) | (rw [hT (by simpa using h39), ← hJ]; simp [b8_, cn_]; done) | (rw [hA (by simp_all)]; simp [b8_]))))
 refine .seq (.seq (.rgn [] (by simp only [go_sem, seval, ae_, ab_, T2_, T1_]; rfl) ?_ ?_))
 ·(first | trivial | (simp; done) | (simp [bx_]; done))
 refine .condB (by simp only [go_sem, seval, ae_, ab_, T2_, T1_]; rfl) (by simp only [go_sem, seval, ae_, ab_, T2_, T1_]) (fun h66 => ?_) (fun h66 => ?_)
 ·refine .seq (.rgn [] (by simp only [go_sem, seval, ae_, ab_, T2_, T1_]; rfl) ?_ ?_)
  ·have q := hW 0; simp [-List.getD_eq_getElem?_getD, b7_, bx_, eh_]; (first | omega | (refine ⟨⟨?_, by omega⟩, by omega, by omega⟩; intro e0; have := (cx_ (d + 1) e 0 h).1; rw [e0] at this; simp at this))
  refine .frz 81 (by simp only [go_sem, seval, ae_, ab_, T2_, T1_]; rfl) (by simp only [go_sem, seval, ae_, ab_, T2_, T1_]) (by simp only [go_sem, seval, ae_, ab_, T2_, T1_]; rfl) (by simp only [go_sem, seval, ae_, ab_, T2_, T1_]; rfl) ?_
  refine .ret ⟨.inr rfl, ?_⟩
  exact Out.plain (by simp only [Tryz.results150]; rfl) (by simp only [ax_, bj_, go_sem, seval, ae_, ab_, T2_, T1_] <;> (split <;> rfl)) (by simp only [bi_, go_sem, seval, ae_, ab_, T2_, T1_] <;> (have q : e.kind = 3 ∧ bo_ e.s < t := (by rw [← rh_ h t ht]; simpa using h66); rw [pv_ h t, if_pos q]; (first | (rw [if_pos (by omega), T1_ (by simp [b8_]; omega)]; simp [b8_, peel])))) (by simp only [go_sem, seval, ae_, ab_, T2_, T1_])
 ·refine .skip (.seq (.rgn [] (by simp only [go_sem, seval, ae_, ab_, T2_, T1_]; rfl) ?_ ?_))
  ·(first | trivial | (simp; done) | (simp [bx_]; done))
  refine .frz 150 (by simp only [go_sem, seval, ae_, ab_, T2_, T1_]; rfl) (by simp only [go_sem, seval, ae_, ab_, T2_, T1_]) (by simp only [go_sem, seval, ae_, ab_, T2_, T1_]; rfl) (by simp only [go_sem, seval, ae_, ab_, T2_, T1_]; rfl) ?_
  refine .ret ⟨.inr rfl, ?_⟩
  exact Out.plain (by simp only [Tryz.results150]; rfl) (by simp only [ax_, bj_, go_sem, seval, ae_, ab_, T2_, T1_] <;> (split <;> rfl)) (by simp only [bi_, go_sem, seval, ae_, ab_, T2_, T1_] <;> (have q : ¬ (e.kind = 3 ∧ bo_ e.s < t) := (by rw [← rh_ h t ht]; simpa using h66); rw [pv_ h t, if_neg q])) (by simp only [go_sem, seval, ae_, ab_, T2_, T1_])
end
section
set_option maxRecDepth 100000
set_option maxHeartbeats 1000000
theorem kg_ {e : E} (h : eok e = true) (must : Int) : wds e must ≠ [] := fun e0 => by have := (cg_ h must).1; rw [e0] at this; simp at this
theorem nx_ (b : Bl) (h : cz_ b = true) (hs : smb b = true) : ACall En 206 [.ag (bC b)] [] [.sl false (b8_ (bw b))] [] := by
 obtain ⟨h0, h1, h2⟩ := js_ h
 obtain ⟨s1, s2, s3⟩ := eu_ hs
 have W : b.kind = 1 ∨ b.kind = 2 ∨ b.kind = 3 → _ := fun hk => fn_ 5 b.expr 1 (b1_ (h1 hk)) s2 (e7_ (h1 hk)) (by decide) (by decide)
 have W3 : b.kind = 3 → _ := fun hk => fn_ 5 b.thn 1 (b1_ (h2 hk)) s3 (e7_ (h2 hk)) (by decide) (by decide)
 refine am_ (fn := Tryz.f206) [] Tryz.func206 rfl rfl (by simp) fun C => ?_
 rw [a2_]
 simp only [Tryz.ntmps206, T7_, List.length_nil, Nat.reduceAdd, Nat.reduceSub, List.replicate_succ, List.replicate_zero, List.cons_append, List.nil_append, bn_]
 refine .seq (.rgn [] (by simp only [go_sem, seval, ae_, ab_, T2_, T1_, ai_]; rfl) ?_ ?_)
 ·(first | trivial | (simp; done) | (simp [bx_]; done))
 refine .seq (.seq (.rgn [] (by simp only [go_sem, seval, ae_, ab_, T2_, T1_, ai_]; rfl) ?_ ?_))
 ·(first | trivial | (simp; done) | (simp [bx_]; done))
 refine .block (.seq (.rgn [] (by simp only [go_sem, seval, ae_, ab_, T2_, T1_, ai_]; rfl) ?_ ?_))
 ·(first | trivial | (simp; done) | (simp [bx_]; done))
 refine .condB (by simp only [go_sem, seval, ae_, ab_, T2_, T1_, ai_]; rfl) (by simp only [go_sem, seval, ae_, ab_, T2_, T1_, ai_]) (fun h6 => ?_) (fun h6 => ?_)
 ·refine .seq (.rgnD [ba_ (W (.inl (by simpa using h6)))] enM (by simp only [go_sem, seval, ae_, ab_, T2_, T1_, ai_]; rfl) (by rfl) ?_ ?_)
  ·have q := h1 (.inl (by simpa using h6)); have q2 := (cg_ q 1); have q3 := kg_ q 1; simp [b7_, bx_, q3, eh_]; omega
  refine .frz 24 (by simp only [go_sem, seval, ae_, ab_, T2_, T1_, ai_]; rfl) (by simp only [go_sem, seval, ae_, ab_, T2_, T1_, ai_]) (by simp only [go_sem, seval, ae_, ab_, T2_, T1_, ai_]; rfl) (by simp only [go_sem, seval, ae_, ab_, T2_, T1_, ai_]; rfl) ?_
  refine .ret ⟨.inr rfl, ?_⟩
  exact Out.plain (by simp only [Tryz.results206]; rfl) (by simp only [ax_, bj_, go_sem, seval, ae_, ab_, T2_, T1_, ai_] <;> (split <;> rfl)) (by simp only [bi_, go_sem, seval, ae_, ab_, T2_, T1_, ai_] <;> (have k : b.kind = 1 := (by simpa using h6); rw [if_pos (by omega), T1_ (by simp [ae_]; omega)]; simp [bw, k, b8_, peel, wEq])) (by simp only [go_sem, seval, ae_, ab_, T2_, T1_, ai_])
 ·refine .seq (.rgn [] (by simp only [go_sem, seval, ae_, ab_, T2_, T1_, ai_]; rfl) ?_ ?_)
  ·(first | trivial | (simp; done) | (simp [bx_]; done))
  refine .condB (by simp only [go_sem, seval, ae_, ab_, T2_, T1_, ai_]; rfl) (by simp only [go_sem, seval, ae_, ab_, T2_, T1_, ai_]) (fun h15 => ?_) (fun h15 => ?_)
  ·refine .seq (.rgn [ba_ (W (.inr (.inl (by simpa using h15))))] (by simp only [go_sem, seval, ae_, ab_, T2_, T1_, ai_]; rfl) ?_ ?_)
   ·have q := h1 (.inr (.inl (by simpa using h15))); have q2 := (cg_ q 1); have q3 := kg_ q 1; simp [b7_, bx_, q3, eh_]; omega
   refine .frz 31 (by simp only [go_sem, seval, ae_, ab_, T2_, T1_, ai_]; rfl) (by simp only [go_sem, seval, ae_, ab_, T2_, T1_, ai_]) (by simp only [go_sem, seval, ae_, ab_, T2_, T1_, ai_]; rfl) (by simp only [go_sem, seval, ae_, ab_, T2_, T1_, ai_]; rfl) ?_
   refine .ret ⟨.inr rfl, ?_⟩
   exact Out.plain (by simp only [Tryz.results206]; rfl) (by simp only [ax_, bj_, go_sem, seval, ae_, ab_, T2_, T1_, ai_] <;> (split <;> rfl)) (by simp only [bi_, go_sem, seval, ae_, ab_, T2_, T1_, ai_] <;> (have k : b.kind = 2 := (by simpa using h15); rw [if_pos (by omega), T1_ (by simp [ae_]; omega)]; simp [bw, k, b8_, peel, d6_])) (by simp only [go_sem, seval, ae_, ab_, T2_, T1_, ai_])
  ·refine .seq (.rgn [] (by simp only [go_sem, seval, ae_, ab_, T2_, T1_, ai_]; rfl) ?_ ?_)
   ·(first | trivial | (simp; done) | (simp [bx_]; done))
   refine .condB (by simp only [go_sem, seval, ae_, ab_, T2_, T1_, ai_]; rfl) (by simp only [go_sem, seval, ae_, ab_, T2_, T1_, ai_]) (fun h22 => ?_) (fun h22 => ?_)
   ·refine .seq (.rgn [ba_ (W (.inr (.inr (by simpa using h22))))] (by simp only [go_sem, seval, ae_, ab_, T2_, T1_, ai_]; rfl) ?_ ?_)
    ·have q := h1 (.inr (.inr (by simpa using h22))); have q2 := (cg_ q 1); have q3 := kg_ q 1; simp [b7_, bx_, q3, eh_]; omega
    refine .seq (.rgnD [ba_ (W3 (by simpa using h22))] enM (by simp only [go_sem, seval, ae_, ab_, T2_, T1_, ai_]; rfl) (by rfl) ?_ ?_)
    ·have q := h1 (.inr (.inr (by simpa using h22))); have q2 := (cg_ q 1); have q4 := cg_ (h2 (by simpa using h22)) 1; simp [b7_, bx_]; omega
    refine .frz 45 (by simp only [go_sem, seval, ae_, ab_, T2_, T1_, ai_]; rfl) (by simp only [go_sem, seval, ae_, ab_, T2_, T1_, ai_]) (by simp only [go_sem, seval, ae_, ab_, T2_, T1_, ai_]; rfl) (by simp only [go_sem, seval, ae_, ab_, T2_, T1_, ai_]; rfl) ?_
    refine .ret ⟨.inr rfl, ?_⟩
    exact Out.plain (by simp only [Tryz.results206]; rfl) (by simp only [ax_, bj_, go_sem, seval, ae_, ab_, T2_, T1_, ai_] <;> (split <;> rfl)) (by simp only [bi_, go_sem, seval, ae_, ab_, T2_, T1_, ai_] <;> (have k : b.kind = 3 := (by simpa using h22); rw [if_pos (by omega), T1_ (by simp [ae_]; omega)]; simp [bw, k, b8_, peel, d6_, wIf, jv_])) (by simp only [go_sem, seval, ae_, ab_, T2_, T1_, ai_])
   ·refine .skip (.seq (.rgn [] (by simp only [go_sem, seval, ae_, ab_, T2_, T1_, ai_]; rfl) ?_ ?_))
    ·(first | trivial | (simp; done) | (simp [bx_]; done))
    refine .can (Can.slotLe 2 (.sl false []) (by simp only [go_sem, seval, ae_, ab_, T2_, T1_, ai_] <;> trivial) (by simp only [go_sem, seval, ae_, ab_, T2_, T1_, ai_] <;> rfl)) ?_
    refine .ret ⟨.inr rfl, ?_⟩
    exact Out.plain (by simp only [Tryz.results206]; rfl) (by simp only [ax_, bj_, go_sem, seval, ae_, ab_, T2_, T1_, ai_] <;> (split <;> rfl)) (by simp only [bi_, go_sem, seval, ae_, ab_, T2_, T1_, ai_] <;> (have k : b.kind = 0 := (by simp_all); simp [bw, k, b8_])) (by simp only [go_sem, seval, ae_, ab_, T2_, T1_, ai_])
theorem qv_ {l : List Str} {k : Nat} (h : k < l.length) : ce_ (l.take (k + 1)) = (if 0 < k then ce_ (l.take k) ++ [32] else []) ++ l.getD k [] := by
 have snoc : ∀ (a : List Str) (s : Str), a ≠ [] → ce_ (a ++ [s]) = ce_ a ++ 32 :: s := fun a s ha => by
  induction a with
  | nil => exact absurd rfl ha
  | cons x a ih =>
   cases a with
   | nil => rw [f2_]; show ce_ [x, s] = _; rw [fc_, f2_]
   | cons y a => rw [List.cons_append, List.cons_append, fc_, fc_, ← List.cons_append, ih (by simp)]; simp
 rw [List.take_add_one, T6_ h, T8_, T6_ h]
 simp only [Option.toList_some, Option.getD_some]
 by_cases hk : 0 < k
 ·rw [snoc _ _ (by intro e; have := congrArg List.length e; rw [List.length_take] at this; simp only [List.length_nil] at this; omega), if_pos hk]; simp
 ·have : k = 0 := by omega
  subst this; simp [f2_]
theorem tu_ {l : List Str} (k : Nat) : (ce_ (l.take k)).length ≤ (ce_ l).length := by
 by_cases h : l.take k = []
 ·rw [h]; simp [e1_]
 ·have h1 := f5_ _ h
  have h2 : l ≠ [] := fun e => h (by rw [e]; simp)
  have h3 := f5_ _ h2
  have h4 : ((l.take k).map List.length).sum + (l.take k).length ≤ (l.map List.length).sum + l.length := by
   conv => rhs; rw [← List.take_append_drop k l]
   rw [List.map_append, List.sum_append, T2_]; omega
  omega
theorem fw_ (l : List Str) (hl : l.length < 1099511627776) (hb : (ce_ l).length < 1099511627776) : ACall En 85 [.sl false (b8_ l)] [] [.s (ce_ l)] [] := by
 refine am_ (fn := Tryz.f85) [] Tryz.func85 rfl rfl (by simp) fun C => ?_
 rw [a2_]
 simp only [Tryz.ntmps85, T7_, List.length_nil, Nat.reduceAdd, Nat.reduceSub, List.replicate_succ, List.replicate_zero, List.cons_append, List.nil_append, bn_]
 refine .seq (.rgn [] (by simp only [go_sem, seval, ae_, ab_]; rfl) ?_ ?_)
 ·first | trivial | simp
 refine .seq (.rgn [] (by simp only [go_sem, seval, ae_, ab_]; rfl) ?_ ?_)
 ·first | trivial | simp
 refine .seq (.seq (.rgn [] (by simp only [go_sem, seval, ae_, ab_]; rfl) ?_ ?_))
 ·first | trivial | simp
 refine .block (.loopK (fun k : Nat => ⟨[.sl false (b8_ l), .no, .no, .s (ce_ (l.take k)), .i .i64 k, .no, .no, .no, .no, .no, .no, .no, .no, .no, .no, .no, .no, .no, .no, .no, .no, .no], be_ [], us []⟩) (fun k : Nat => k ≤ l.length) (fun k : Nat => l.length - k) (0) ?_ ?_ (fun k hI => ?_))
 ·simp
 ·exact Can.weak (Weak.lit (by simp only [go_sem, seval, ae_, ab_, at_, leV, as_, ar_, V.inn, us, T9_, Ta_] <;> (simp [e1_])) (by simp only [go_sem, seval, ae_, ab_, at_, leV, as_, ar_, V.inn, us, T9_, Ta_]) (by simp only [go_sem, seval, ae_, ab_, at_, leV, as_, ar_, V.inn, us, T9_, Ta_]))
 refine .seq (.seq (.rgn [] (by simp only [go_sem, seval, ae_, ab_]; rfl) ?_ ?_))
 ·first | trivial | simp
 refine .condB (by simp only [go_sem, seval, ae_, ab_]; rfl) (by simp only [go_sem, seval, ae_, ab_]) (fun h8 => ?_) (fun h8 => ?_)
 ·refine .skip (.seq (.block (.seqJ (fun q : Str => ⟨[.sl false (b8_ l), .no, .no, .s q, .i .i64 k, .no, .no, .no, .no, .no, .no, .no, .no, .no, .no, .no, .no, .no, .no, .no, .no, .no], be_ [], us []⟩) (fun q : Str => q = if 0 < k then ce_ (l.take k) ++ [32] else []) ?_ (fun q hJ => ?_))))
  ·refine .seq (.rgn [] (by simp only [go_sem, seval, ae_, ab_]; rfl) ?_ ?_)
   ·first | trivial | simp
   refine .condB (by simp only [go_sem, seval, ae_, ab_]; rfl) (by simp only [go_sem, seval, ae_, ab_]) (fun h12 => ?_) (fun h12 => ?_)
   ·refine .rgn [] (by simp only [go_sem, seval, ae_, ab_]; rfl) ?_ ?_
    ·have q := tu_ (l := l) k; simp; omega
    refine Exists.intro (ce_ (l.take k) ++ [32]) ⟨?_, ?_⟩
    ·simp at h12; simp [h12]
    exact Can.weak (Weak.lit (by simp only [go_sem, seval, ae_, ab_, at_, leV, as_, ar_, V.inn, us, T9_, Ta_] <;> ((simp at h12; subst h12; simp [e1_]))) (by simp only [go_sem, seval, ae_, ab_, at_, leV, as_, ar_, V.inn, us, T9_, Ta_]) (by simp only [go_sem, seval, ae_, ab_, at_, leV, as_, ar_, V.inn, us, T9_, Ta_]))
   ·refine .skip ?_
    refine Exists.intro ([]) ⟨?_, ?_⟩
    ·simp at h12; simp [h12]
    exact Can.weak (Weak.lit (by simp only [go_sem, seval, ae_, ab_, at_, leV, as_, ar_, V.inn, us, T9_, Ta_] <;> ((simp at h12; subst h12; simp [e1_]))) (by simp only [go_sem, seval, ae_, ab_, at_, leV, as_, ar_, V.inn, us, T9_, Ta_]) (by simp only [go_sem, seval, ae_, ab_, at_, leV, as_, ar_, V.inn, us, T9_, Ta_]))
  refine .rgn [] (by simp only [go_sem, seval, ae_, ab_, i9_ (show k < l.length by simpa using h8)]; rfl) ?_ ?_
  ·have q1 := tu_ (l := l) (k + 1); rw [qv_ (by simpa using h8), ← hJ, T2_] at q1; refine ⟨⟨by omega, by simpa using h8⟩, by omega⟩
  refine .rgn [] (by simp only [go_sem, seval, ae_, ab_]; rfl) ?_ ?_
  ·first | trivial | simp
  refine Exists.intro (k + 1) ⟨?_, ?_, ?_⟩
  ·simp at h8; omega
  ·simp at h8; omega
  exact Can.weak (Weak.lit (by simp only [go_sem, seval, ae_, ab_, at_, leV, as_, ar_, V.inn, us, T9_, Ta_] <;> (rw [bm_ (by simp at h8; omega) (by simp at h8; omega)]; refine ⟨?_, by simp⟩; first | (rw [hJ, qv_ (by simpa using h8)]; done))) (by simp only [go_sem, seval, ae_, ab_, at_, leV, as_, ar_, V.inn, us, T9_, Ta_]) (by simp only [go_sem, seval, ae_, ab_, at_, leV, as_, ar_, V.inn, us, T9_, Ta_]))
 ·refine .exit (.seq (.rgn [] (by simp only [go_sem, seval, ae_, ab_]; rfl) ?_ ?_))
  ·first | trivial | simp
  refine .ret ⟨.inr rfl, ?_⟩
  exact Out.plain (by simp only [Tryz.results85]; rfl) (by simp only [ax_, bj_, go_sem, seval, ae_, ab_] <;> (split <;> rfl)) (by simp only [bi_, go_sem, seval, ae_, ab_] <;> (simp at h8; rw [T1_ h8])) (by simp only [go_sem, seval, ae_, ab_])
theorem vp_ (b : Bl) (hs : smb b = true) : ACall En 157 [.ag (bC b)] [] [.b (bok b)] [] := by
 obtain ⟨s1, s2, s3⟩ := eu_ hs
 refine am_ (fn := Tryz.f157) [] Tryz.func157 rfl rfl (by simp) fun C => ?_
 rw [a2_]
 simp only [Tryz.ntmps157, T7_, List.length_nil, Nat.reduceAdd, Nat.reduceSub, List.replicate_succ, List.replicate_zero, List.cons_append, List.nil_append, bn_]
 refine .seq (.rgn [] (by simp only [go_sem, seval, ai_, ab_]; rfl) ?_ ?_)
 ·(first | trivial | (simp; done) | exact hJ.symm | exact ⟨hJ.symm, hJ.symm⟩)
 refine .seq (.rgn [] (by simp only [go_sem, seval, ai_, ab_]; rfl) ?_ ?_)
 ·(first | trivial | (simp; done) | exact hJ.symm | exact ⟨hJ.symm, hJ.symm⟩)
 refine .seqJ (fun q : Bool => ⟨[.no, .pt 11 10 0 0, .no, .b q, .no, .no, .no, .no, .no, .no, .no, .no, .no, .no, .no, .no, .no, .no, .no, .no, .no, .no, .no, .no, .no, .no, .no, .no, .no, .no, .no, .no, .no, .no, .no, .no, .no, .no, .no, .no, .no, .no, .no, .no, .no, .no, .no, .no, .no, .no, .no, .no, .no, .no, .no, .no, .no, .no, .no, .no, .no, .no, .no, .no, .no, .no, .no, .no, .no, .no, .no, .no, .no, .no], be_ [(11, ⟨83, 10, [bC b]⟩)], us [11]⟩) (fun q : Bool => q = cz_ b) ?_ (fun q hJ => ?_)
 ·refine .seq (.rgn [] (by simp only [go_sem, seval, ai_, ab_]; rfl) ?_ ?_)
  ·(first | trivial | (simp; done) | exact hJ.symm | exact ⟨hJ.symm, hJ.symm⟩)
  refine .block (.seq (.rgn [] (by simp only [go_sem, seval, ai_, ab_]; rfl) ?_ ?_))
  ·(first | trivial | (simp; done) | exact hJ.symm | exact ⟨hJ.symm, hJ.symm⟩)
  refine .condB (by simp only [go_sem, seval, ai_, ab_]; rfl) (by simp only [go_sem, seval, ai_, ab_]) (fun h6 => ?_) (fun h6 => ?_)
  ·refine .rgn [ba_ (e0_ b.expr s2), ba_ (e0_ b.thn s3)] (by simp only [go_sem, seval, ai_, ab_]; rfl) ?_ ?_
   ·(first | trivial | (simp; done) | exact hJ.symm | exact ⟨hJ.symm, hJ.symm⟩)
   refine Exists.intro (cz_ b) ⟨?_, ?_⟩
   ·rfl
   exact Can.weak (Weak.lit (by simp only [go_sem, seval, ai_, ab_, at_, leV, as_, ar_, V.inn, us, T9_, Ta_] <;> ((unfold cz_; simp_all))) (by simp only [go_sem, seval, ai_, ab_, at_, leV, as_, ar_, V.inn, us, T9_, Ta_]) (by simp only [go_sem, seval, ai_, ab_, at_, leV, as_, ar_, V.inn, us, T9_, Ta_]))
  ·refine .seq (.rgn [] (by simp only [go_sem, seval, ai_, ab_]; rfl) ?_ ?_)
   ·(first | trivial | (simp; done) | exact hJ.symm | exact ⟨hJ.symm, hJ.symm⟩)
   refine .condB (by simp only [go_sem, seval, ai_, ab_]; rfl) (by simp only [go_sem, seval, ai_, ab_]) (fun h21 => ?_) (fun h21 => ?_)
   ·refine .rgn [ba_ (l4_ b.name s1), ba_ (i5_ b.expr s2), ba_ (e0_ b.thn s3)] (by simp only [go_sem, seval, ai_, ab_]; rfl) ?_ ?_
    ·(first | trivial | (simp; done) | exact hJ.symm | exact ⟨hJ.symm, hJ.symm⟩)
    refine Exists.intro (cz_ b) ⟨?_, ?_⟩
    ·rfl
    exact Can.weak (Weak.lit (by simp only [go_sem, seval, ai_, ab_, at_, leV, as_, ar_, V.inn, us, T9_, Ta_] <;> ((unfold cz_; simp_all))) (by simp only [go_sem, seval, ai_, ab_, at_, leV, as_, ar_, V.inn, us, T9_, Ta_]) (by simp only [go_sem, seval, ai_, ab_, at_, leV, as_, ar_, V.inn, us, T9_, Ta_]))
   ·refine .seq (.rgn [] (by simp only [go_sem, seval, ai_, ab_]; rfl) ?_ ?_)
    ·(first | trivial | (simp; done) | exact hJ.symm | exact ⟨hJ.symm, hJ.symm⟩)
    refine .condB (by simp only [go_sem, seval, ai_, ab_]; rfl) (by simp only [go_sem, seval, ai_, ab_]) (fun h36 => ?_) (fun h36 => ?_)
    ·refine .rgn [ba_ (i5_ b.expr s2), ba_ (e0_ b.thn s3)] (by simp only [go_sem, seval, ai_, ab_]; rfl) ?_ ?_
     ·(first | trivial | (simp; done) | exact hJ.symm | exact ⟨hJ.symm, hJ.symm⟩)
     refine Exists.intro (cz_ b) ⟨?_, ?_⟩
     ·rfl
     exact Can.weak (Weak.lit (by simp only [go_sem, seval, ai_, ab_, at_, leV, as_, ar_, V.inn, us, T9_, Ta_] <;> ((unfold cz_; simp_all))) (by simp only [go_sem, seval, ai_, ab_, at_, leV, as_, ar_, V.inn, us, T9_, Ta_]) (by simp only [go_sem, seval, ai_, ab_, at_, leV, as_, ar_, V.inn, us, T9_, Ta_]))
    ·refine .seq (.rgn [] (by simp only [go_sem, seval, ai_, ab_]; rfl) ?_ ?_)
     ·(first | trivial | (simp; done) | exact hJ.symm | exact ⟨hJ.symm, hJ.symm⟩)
     refine .condB (by simp only [go_sem, seval, ai_, ab_]; rfl) (by simp only [go_sem, seval, ai_, ab_]) (fun h51 => ?_) (fun h51 => ?_)
     ·refine .rgn [ba_ (i5_ b.expr s2), ba_ (i5_ b.thn s3)] (by simp only [go_sem, seval, ai_, ab_]; rfl) ?_ ?_
      ·(first | trivial | (simp; done) | exact hJ.symm | exact ⟨hJ.symm, hJ.symm⟩)
      refine Exists.intro (cz_ b) ⟨?_, ?_⟩
      ·rfl
      exact Can.weak (Weak.lit (by simp only [go_sem, seval, ai_, ab_, at_, leV, as_, ar_, V.inn, us, T9_, Ta_] <;> ((unfold cz_; simp_all))) (by simp only [go_sem, seval, ai_, ab_, at_, leV, as_, ar_, V.inn, us, T9_, Ta_]) (by simp only [go_sem, seval, ai_, ab_, at_, leV, as_, ar_, V.inn, us, T9_, Ta_]))
     ·refine .skip ?_
      refine Exists.intro (cz_ b) ⟨?_, ?_⟩
      ·rfl
      exact Can.weak (Weak.lit (by simp only [go_sem, seval, ai_, ab_, at_, leV, as_, ar_, V.inn, us, T9_, Ta_] <;> ((unfold cz_; simp_all))) (by simp only [go_sem, seval, ai_, ab_, at_, leV, as_, ar_, V.inn, us, T9_, Ta_]) (by simp only [go_sem, seval, ai_, ab_, at_, leV, as_, ar_, V.inn, us, T9_, Ta_]))
 cases q
 ·refine .seq (.rgn [c9_ (cz_ b = true) (fun h => nx_ b h hs), c9_ (cz_ b = true) (fun h => fw_ (bw b) (by have := (kj_ h).1; omega) (by have := ln_ h; omega))] (by simp only [go_sem, seval, ai_, ab_]; rfl) ?_ ?_)
  ·(first | trivial | (simp; done) | exact hJ.symm | exact ⟨hJ.symm, hJ.symm⟩)
  refine .ret ⟨.inr rfl, ?_⟩
  exact Out.plain (by simp only [Tryz.results157]; rfl) (by simp only [ax_, bj_, go_sem, seval, ai_, ab_] <;> (split <;> rfl)) (by simp only [bi_, go_sem, seval, ai_, ab_] <;> (rw [bok, ← hJ]; first | rfl | (rw [Bool.true_and, dv_]; rfl))) (by simp only [go_sem, seval, ai_, ab_])
 ·refine .seq (.rgn [c9_ (cz_ b = true) (fun h => nx_ b h hs), c9_ (cz_ b = true) (fun h => fw_ (bw b) (by have := (kj_ h).1; omega) (by have := ln_ h; omega))] (by simp only [go_sem, seval, ai_, ab_]; rfl) ?_ ?_)
  ·(first | trivial | (simp; done) | exact hJ.symm | exact ⟨hJ.symm, hJ.symm⟩)
  refine .ret ⟨.inr rfl, ?_⟩
  exact Out.plain (by simp only [Tryz.results157]; rfl) (by simp only [ax_, bj_, go_sem, seval, ai_, ab_] <;> (split <;> rfl)) (by simp only [bi_, go_sem, seval, ai_, ab_] <;> (rw [bok, ← hJ]; first | rfl | (rw [Bool.true_and, dv_]; rfl))) (by simp only [go_sem, seval, ai_, ab_])
end
end Go.Proofs.YtcigkafioinfoaaGreatDoor
