/- Lines without types: words, text, ok: the program's. Conditions: none. -/
import Derived.Test.YtefmbmafdgedmaaGreatDoorKh
set_option linter.unusedVariables false
set_option linter.unusedSimpArgs false
namespace Go.Proofs.YtefmbmafdgedmaaGreatDoor
section
set_option maxRecDepth 100000
set_option maxHeartbeats 4000000
theorem vw_ {l : Wd} {k : Nat} (h : k < l.length) : (by_ (l.map (·.1))).getD k [] = [.s (l.getD k ([], 0)).1] := by
 simp [by_, T8_, T6_ h]
theorem ns_ {r : List V} {l : List Str} (h : r ∈ by_ l) : r.length = 1 := by
 obtain ⟨s, _, rfl⟩ := List.mem_map.1 h; rfl
theorem a5_ (l : List Str) (k j : Nat) : ((h9_ (by_ l) [.s []] k).getD j []).drop 1 = [] := by
 rw [T8_]
 cases h : (h9_ (by_ l) [.s []] k)[j]? with
 | none => rfl
 | some r =>
  have hm := List.mem_of_getElem? h
  have : r.length = 1 := by
   rcases s0_ hm with hm | rfl
   ·exact ns_ hm
   ·rfl
  simp only [Option.getD_some]; exact List.drop_of_length_le (by omega)
theorem l7_ (l : Wd) (hl : l.length ≤ 1000000) : ACall En 147 [.sl false (wdR l)] [] [.sl false (by_ (l.map (·.1)))] [] := by
 have hp : ∀ k, cr_ (h9_ (by_ (l.map (·.1))) [.s []] k) = true := fun k => ll_ (aa_ _) rfl
 have hll : (by_ (l.map (·.1))).length = l.length := by simp [by_]
 refine aq_ (fn := Tryz.f147) [] Tryz.func147 rfl rfl (by simp) fun C => ?_
 rw [bb_]
 simp only [Tryz.ntmps147, T7_, List.length_nil, Nat.reduceAdd, Nat.reduceSub, List.replicate_succ, List.replicate_zero, List.cons_append, List.nil_append, bl_]
 refine .seq (.rgn [] (by simp only [go_sem, seval, aw_, ap_, hp, a5_, bm_, hll]; rfl) ?_ ?_)
 ·(first | trivial | (simp; done) | (simp at h12; simp; omega))
 refine .seq (.rgn [] (by simp only [go_sem, seval, aw_, ap_, hp, a5_, bm_, hll]; rfl) ?_ ?_)
 ·simp; omega
 refine .seq (.seq (.rgn [] (by simp only [go_sem, seval, aw_, ap_, hp, a5_, bm_, hll]; rfl) ?_ ?_))
 ·(first | trivial | (simp; done) | (simp at h12; simp; omega))
 refine .block (.loopK (fun k : Nat => ⟨[.no, .no, .no, .ow 18 1 0 l.length, .no, .no, .no, .no, .no, .sl false (wdR l), .i .i64 l.length, .i .i64 k, .no, .no, .no, .no, .no, .no, .no, .no, .no, .no, .no], be_ [(18, ⟨9, 1, h9_ (by_ (l.map (·.1))) [.s []] k⟩)], us [18]⟩) (fun k : Nat => k ≤ l.length) (fun k : Nat => l.length - k) (0) ?_ ?_ (fun k hI => ?_))
 ·simp
 ·exact Can.weak (Weak.lit (by simp only [go_sem, seval, aw_, ap_, hp, a5_, bm_, hll, a2_, leV, az_, a0_, V.inn, us, T9_, Ta_] <;> (simp)) (by simp only [go_sem, seval, aw_, ap_, hp, a5_, bm_, hll, a2_, leV, az_, a0_, V.inn, us, T9_, Ta_]) (by simp only [go_sem, seval, aw_, ap_, hp, a5_, bm_, hll, a2_, leV, az_, a0_, V.inn, us, T9_, Ta_] <;> (simp [lf_, hll])))
 refine .seq (.rgn [] (by simp only [go_sem, seval, aw_, ap_, hp, a5_, bm_, hll]; rfl) ?_ ?_)
 ·(first | trivial | (simp; done) | (simp at h12; simp; omega))
 refine .seq (.condB (by simp only [go_sem, seval, aw_, ap_, hp, a5_, bm_, hll]; rfl) (by simp only [go_sem, seval, aw_, ap_, hp, a5_, bm_, hll]) (fun h12 => ?_) (fun h12 => ?_))
 ·refine .skip (.seq (.block (.seq (.rgn [] (by simp only [go_sem, seval, aw_, ap_, hp, a5_, bm_, hll, vz_ (show k < l.length by simpa using h12)]; rfl) ?_ ?_))))
  ·(first | trivial | (simp; done) | (simp at h12; simp; omega))
  refine .rgn [] (by simp only [go_sem, seval, aw_, ap_, hp, a5_, bm_, hll, in_ (l := by_ (l.map (·.1))) (show k < (by_ (l.map (·.1))).length by rw [hll]; simpa using h12)]; rfl) ?_ ?_
  ·(first | trivial | (simp; done) | (simp at h12; simp; omega))
  refine .rgn [] (by simp only [go_sem, seval, aw_, ap_, hp, a5_, bm_, hll]; rfl) ?_ ?_
  ·(first | trivial | (simp; done) | (simp at h12; simp; omega))
  refine Exists.intro (k + 1) ⟨?_, ?_, ?_⟩
  ·simp at h12; omega
  ·simp at h12; omega
  exact Can.weak (Weak.lit (by simp only [go_sem, seval, aw_, ap_, hp, a5_, bm_, hll, a2_, leV, az_, a0_, V.inn, us, T9_, Ta_] <;> (rw [bt_ (by simp at h12; omega) (by simp at h12; omega)]; simp)) (by simp only [go_sem, seval, aw_, ap_, hp, a5_, bm_, hll, a2_, leV, az_, a0_, V.inn, us, T9_, Ta_]) (by simp only [go_sem, seval, aw_, ap_, hp, a5_, bm_, hll, a2_, leV, az_, a0_, V.inn, us, T9_, Ta_] <;> ((rw [← in_ (by rw [hll]; simpa using h12), vw_ (by simpa using h12)]))))
 ·refine .exit (.seq (.rgn [] (by simp only [go_sem, seval, aw_, ap_, hp, a5_, bm_, hll]; rfl) ?_ ?_))
  ·(first | trivial | (simp; done) | (simp at h12; simp; omega))
  refine .frz 18 (by simp only [go_sem, seval, aw_, ap_, hp, a5_, bm_, hll]; rfl) (by simp only [go_sem, seval, aw_, ap_, hp, a5_, bm_, hll]) (by simp only [go_sem, seval, aw_, ap_, hp, a5_, bm_, hll]; rfl) (by simp only [go_sem, seval, aw_, ap_, hp, a5_, bm_, hll]; rfl) ?_
  refine .ret ⟨.inr rfl, ?_⟩
  exact Out.plain (by simp only [Tryz.results147]; rfl) (by simp only [a4_, bh_, go_sem, seval, aw_, ap_, hp, a5_, bm_, hll] <;> (split <;> rfl)) (by simp only [bg_, go_sem, seval, aw_, ap_, hp, a5_, bm_, hll] <;> (simp at h12; rw [oe_ (by omega)]; simp [← hll, T1_, peel])) (by simp only [go_sem, seval, aw_, ap_, hp, a5_, bm_, hll])
def bC (b : Bl) : List V := .i .i64 b.kind :: .s b.name :: (eC b.expr ++ eC b.thn)
theorem as_ (b : Bl) : bC b = [.i .i64 b.kind, .s b.name, .i .i64 b.expr.kind, .i .i64 b.expr.n, .s b.expr.s, .sl false (eR b.expr.kids), .i .i64 b.thn.kind, .i .i64 b.thn.n, .s b.thn.s, .sl false (eR b.thn.kids)] := by
 simp only [bC, a6_]; rfl
def smb (b : Bl) : Bool := decide (b.name.length < 4611686018427387904) && sm b.expr && sm b.thn
theorem hr_ {b : Bl} (h : smb b = true) : b.name.length < 4611686018427387904 ∧ sm b.expr = true ∧ sm b.thn = true := by
 simp only [smb, T5_, T3_] at h; exact ⟨h.1.1, h.1.2, h.2⟩
def qk_ (b : Bl) : Wd :=
 if b.kind = 1 then (b.name, 101) :: (wEq, 102) :: src b.expr 0 0
 else if b.kind = 2 then (cj_, 103) :: src b.expr 0 0
 else if b.kind = 3 then ((wIf, 100) :: src b.expr 0 0 ++ [(bi_, -1), (cj_, 103)]) ++ src b.thn 0 (cnt b.expr)
 else []
theorem ky_ {b : Bl} (h : eb_ b = true) : (b.kind = 0 ∨ b.kind = 1 ∨ b.kind = 2 ∨ b.kind = 3) ∧ (b.kind = 1 ∨ b.kind = 2 ∨ b.kind = 3 → eok b.expr = true) ∧ (b.kind = 3 → eok b.thn = true) := by
 unfold eb_ at h
 by_cases k0 : b.kind = 0
 ·simp [k0]
 by_cases k1 : b.kind = 1
 ·simp [k1] at h; simp [k1]; exact c2_ h.1.2
 by_cases k2 : b.kind = 2
 ·simp [k2] at h; simp [k2]; exact c2_ h.1.2
 by_cases k3 : b.kind = 3
 ·simp [k3] at h; simp [k3]; exact ⟨c2_ h.1.2, c2_ h.2⟩
 ·simp [k0, k1, k2, k3] at h
theorem ab5_ {b : Bl} (h : eb_ b = true) : (qk_ b).map (·.1) = bw b := by
 obtain ⟨h0, h1, h2⟩ := ky_ h
 unfold qk_ bw
 rcases h0 with k | k | k | k
 ·simp [k]
 ·simp [k, fg_, gp_ (cp_ (h1 (.inl k)))]
 ·simp [k, fg_, gp_ (cp_ (h1 (.inr (.inl k))))]
 ·simp [k, fg_, gp_ (cp_ (h1 (.inr (.inr k)))), gp_ (cp_ (h2 k))]
theorem qr_ {e : E} (h : eok e = true) : many e ((5 : Nat) : Int) ≤ 1000 := by have := hm_ h; show many e 5 ≤ 1000; omega
theorem u7_ {e : E} (h : eok e = true) : 1 ≤ cnt e ∧ cnt e ≤ 12 := by have := (er_ 5 e 0 (cp_ h)).2.2.2; have h2 := hm_ h; have h3 : many e ((5 : Nat) : Int) = many e 5 := rfl; omega
theorem ld_ {e : E} (h : eok e = true) (must nx : Int) : (src e must nx).length ≤ 36 := by rw [my_]; exact (db_ h must).2.1
theorem og_ (l : Wd) : wdR l = [] ↔ l = [] := by cases l <;> simp [wdR]
theorem y2_ (b : Bl) (h : eb_ b = true) (hs : smb b = true) : ACall En 93 [.ag (bC b)] [] [.sl false (wdR (qk_ b))] [] := by
 obtain ⟨h0, h1, h2⟩ := ky_ h
 obtain ⟨s1, s2, s3⟩ := hr_ hs
 have W : b.kind = 1 ∨ b.kind = 2 ∨ b.kind = 3 → _ := fun hk => mn_ 5 b.expr 0 0 (cp_ (h1 hk)) s2 (qr_ (h1 hk)) (by decide) (by have := u7_ (h1 hk); omega) (by decide)
 have W3 : b.kind = 3 → _ := fun hk => mn_ 5 b.thn 0 (0 + cnt b.expr) (cp_ (h2 hk)) s3 (qr_ (h2 hk)) (by have := u7_ (h1 (.inr (.inr hk))); omega) (by have := u7_ (h1 (.inr (.inr hk))); have := u7_ (h2 hk); omega) (by decide)
 refine aq_ (fn := Tryz.f93) [] Tryz.func93 rfl rfl (by simp) fun C => ?_
 rw [bb_]
 simp only [Tryz.ntmps93, T7_, List.length_nil, Nat.reduceAdd, Nat.reduceSub, List.replicate_succ, List.replicate_zero, List.cons_append, List.nil_append, bl_]
 refine .seq (.rgn [] (by simp only [go_sem, seval, aw_, ap_, T2_, T1_, as_]; rfl) ?_ ?_)
 ·(first | trivial | (simp; done) | (simp [dh_, List.forall_mem_append, ci_]; done))
 refine .seq (.rgn [] (by simp only [go_sem, seval, aw_, ap_, T2_, T1_, as_]; rfl) ?_ ?_)
 ·(first | trivial | (simp; done) | (simp [dh_, List.forall_mem_append, ci_]; done))
 refine .seq (.seq (.rgn [] (by simp only [go_sem, seval, aw_, ap_, T2_, T1_, as_]; rfl) ?_ ?_))
 ·(first | trivial | (simp; done) | (simp [dh_, List.forall_mem_append, ci_]; done))
 refine .block (.seq (.rgn [] (by simp only [go_sem, seval, aw_, ap_, T2_, T1_, as_]; rfl) ?_ ?_))
 ·(first | trivial | (simp; done) | (simp [dh_, List.forall_mem_append, ci_]; done))
 refine .condB (by simp only [go_sem, seval, aw_, ap_, T2_, T1_, as_]; rfl) (by simp only [go_sem, seval, aw_, ap_, T2_, T1_, as_]) (fun h7 => ?_) (fun h7 => ?_)
 ·refine .seq (.rgnD [cu_ [13] [26] (W (.inl (by simpa using h7)))] enM (by simp only [go_sem, seval, aw_, ap_, T2_, T1_, as_, ao_, ax_]; rfl) (by rfl) ?_ ?_)
  ·have q := h1 (.inl (by simpa using h7)); have q2 := (ld_ q 0 0); have q3 : src b.expr 0 0 ≠ [] := (fun e => by have := (db_ q 0).1; rw [← my_ b.expr 0 0, e] at this; simp at this); simp [dh_, ci_, q3, og_]; omega
  refine .frz 27 (by simp only [go_sem, seval, aw_, ap_, T2_, T1_, as_]; rfl) (by simp only [go_sem, seval, aw_, ap_, T2_, T1_, as_]) (by simp only [go_sem, seval, aw_, ap_, T2_, T1_, as_]; rfl) (by simp only [go_sem, seval, aw_, ap_, T2_, T1_, as_]; rfl) ?_
  refine .ret ⟨.inr rfl, ?_⟩
  exact Out.plain (by simp only [Tryz.results93]; rfl) (by simp only [a4_, bh_, go_sem, seval, aw_, ap_, T2_, T1_, as_] <;> (split <;> rfl)) (by simp only [bg_, go_sem, seval, aw_, ap_, T2_, T1_, as_] <;> (have k : b.kind = 1 := (by simpa using h7); rw [if_pos (by omega), T1_ (by simp [aw_]; omega)]; simp [qk_, k, wdR, peel, wEq])) (by simp only [go_sem, seval, aw_, ap_, T2_, T1_, as_])
 ·refine .seq (.rgn [] (by simp only [go_sem, seval, aw_, ap_, T2_, T1_, as_]; rfl) ?_ ?_)
  ·(first | trivial | (simp; done) | (simp [dh_, List.forall_mem_append, ci_]; done))
  refine .condB (by simp only [go_sem, seval, aw_, ap_, T2_, T1_, as_]; rfl) (by simp only [go_sem, seval, aw_, ap_, T2_, T1_, as_]) (fun h18 => ?_) (fun h18 => ?_)
  ·refine .seq (.rgn [cu_ [13] [34] (W (.inr (.inl (by simpa using h18))))] (by simp only [go_sem, seval, aw_, ap_, T2_, T1_, as_, ao_, ax_]; rfl) ?_ ?_)
   ·have q := h1 (.inr (.inl (by simpa using h18))); have q2 := (ld_ q 0 0); have q3 : src b.expr 0 0 ≠ [] := (fun e => by have := (db_ q 0).1; rw [← my_ b.expr 0 0, e] at this; simp at this); simp [dh_, ci_, q3, og_]; omega
   refine .frz 35 (by simp only [go_sem, seval, aw_, ap_, T2_, T1_, as_]; rfl) (by simp only [go_sem, seval, aw_, ap_, T2_, T1_, as_]) (by simp only [go_sem, seval, aw_, ap_, T2_, T1_, as_]; rfl) (by simp only [go_sem, seval, aw_, ap_, T2_, T1_, as_]; rfl) ?_
   refine .ret ⟨.inr rfl, ?_⟩
   exact Out.plain (by simp only [Tryz.results93]; rfl) (by simp only [a4_, bh_, go_sem, seval, aw_, ap_, T2_, T1_, as_] <;> (split <;> rfl)) (by simp only [bg_, go_sem, seval, aw_, ap_, T2_, T1_, as_] <;> (have k : b.kind = 2 := (by simpa using h18); rw [if_pos (by omega), T1_ (by simp [aw_]; omega)]; simp [qk_, k, wdR, peel, cj_])) (by simp only [go_sem, seval, aw_, ap_, T2_, T1_, as_])
  ·refine .seq (.rgn [] (by simp only [go_sem, seval, aw_, ap_, T2_, T1_, as_]; rfl) ?_ ?_)
   ·(first | trivial | (simp; done) | (simp [dh_, List.forall_mem_append, ci_]; done))
   refine .condB (by simp only [go_sem, seval, aw_, ap_, T2_, T1_, as_]; rfl) (by simp only [go_sem, seval, aw_, ap_, T2_, T1_, as_]) (fun h26 => ?_) (fun h26 => ?_)
   ·refine .seq (.rgn [cu_ [13] [42] (W (.inr (.inr (by simpa using h26))))] (by simp only [go_sem, seval, aw_, ap_, T2_, T1_, as_, ao_, ax_]; rfl) ?_ ?_)
    ·have q := h1 (.inr (.inr (by simpa using h26))); have q2 := (ld_ q 0 0); have q3 : src b.expr 0 0 ≠ [] := (fun e => by have := (db_ q 0).1; rw [← my_ b.expr 0 0, e] at this; simp at this); simp [dh_, ci_, q3, og_]; omega
    refine .seq (.rgn [] (by simp only [go_sem, seval, aw_, ap_, T2_, T1_, as_]; rfl) ?_ ?_)
    ·have q := h1 (.inr (.inr (by simpa using h26))); have q2 := (ld_ q 0 0); simp [dh_, ci_]; omega
    refine .seq (.rgn [cu_ [13] [52] (W3 (by simpa using h26))] (by simp only [go_sem, seval, aw_, ap_, T2_, T1_, as_, ao_, ax_]; rfl) ?_ ?_)
    ·have q := h1 (.inr (.inr (by simpa using h26))); have q2 := (ld_ q 0 0); have q4 := ld_ (h2 (by simpa using h26)) 0 (0 + cnt b.expr); simp at q4; simp [dh_, ci_]; omega
    refine .frz 53 (by simp only [go_sem, seval, aw_, ap_, T2_, T1_, as_]; rfl) (by simp only [go_sem, seval, aw_, ap_, T2_, T1_, as_]) (by simp only [go_sem, seval, aw_, ap_, T2_, T1_, as_]; rfl) (by simp only [go_sem, seval, aw_, ap_, T2_, T1_, as_]; rfl) ?_
    refine .ret ⟨.inr rfl, ?_⟩
    exact Out.plain (by simp only [Tryz.results93]; rfl) (by simp only [a4_, bh_, go_sem, seval, aw_, ap_, T2_, T1_, as_] <;> (split <;> rfl)) (by simp only [bg_, go_sem, seval, aw_, ap_, T2_, T1_, as_] <;> (have k : b.kind = 3 := (by simpa using h26); rw [if_pos (by omega), T1_ (by simp [aw_]; omega)]; simp [qk_, k, wdR, peel, cj_, wIf, bi_])) (by simp only [go_sem, seval, aw_, ap_, T2_, T1_, as_])
   ·refine .skip (.seq (.rgn [] (by simp only [go_sem, seval, aw_, ap_, T2_, T1_, as_]; rfl) ?_ ?_))
    ·(first | trivial | (simp; done) | (simp [dh_, List.forall_mem_append, ci_]; done))
    refine .can (Can.slotLe 2 (.sl false []) (by simp only [go_sem, seval, aw_, ap_, T2_, T1_, as_] <;> trivial) (by simp only [go_sem, seval, aw_, ap_, T2_, T1_, as_] <;> rfl)) ?_
    refine .ret ⟨.inr rfl, ?_⟩
    exact Out.plain (by simp only [Tryz.results93]; rfl) (by simp only [a4_, bh_, go_sem, seval, aw_, ap_, T2_, T1_, as_] <;> (split <;> rfl)) (by simp only [bg_, go_sem, seval, aw_, ap_, T2_, T1_, as_] <;> (have k : b.kind = 0 := (by simp_all); simp [qk_, k, wdR])) (by simp only [go_sem, seval, aw_, ap_, T2_, T1_, as_])
end
section
set_option maxRecDepth 100000
set_option maxHeartbeats 4000000
theorem mt_ {b : Bl} (h : eb_ b = true) : (cg_ (bw b)).length ≤ 1000 := by
 have := tg_ h
 have h2 := t0_ (fun s hs => (this.2 s hs).2)
 omega
theorem p6_ (b : Bl) (h : eb_ b = true) (hs : smb b = true) : ACall En 94 [.ag (bC b)] [] [.s (cg_ (bw b))] [] := by
 have h1 := mt_ h
 have h2 := (tg_ h).1
 have h3 := ab5_ h
 have h4 : (qk_ b).length = (bw b).length := by rw [← h3, List.length_map]
 refine aq_ (fn := Tryz.f94) [] Tryz.func94 rfl rfl (by simp) fun C => ?_
 rw [bb_]
 simp only [Tryz.ntmps94, T7_, List.length_nil, Nat.reduceAdd, Nat.reduceSub, List.replicate_succ, List.replicate_zero, List.cons_append, List.nil_append, bl_]
 refine .seq (.rgn [] (by simp only [go_sem, seval, as_, ap_, h3]; rfl) ?_ ?_)
 ·simp
 refine .seq (.rgn [bj_ (y2_ b h hs), bj_ (l7_ (qk_ b) (by omega)), bj_ (q6_ (bw b) (by omega) (by omega))] (by simp only [go_sem, seval, as_, ap_, h3]; rfl) ?_ ?_)
 ·simp
 refine .ret ⟨.inr rfl, ?_⟩
 exact Out.plain (by simp only [Tryz.results94]; rfl) (by simp only [a4_, bh_, go_sem, seval, as_, ap_, h3] <;> (split <;> rfl)) (by simp only [bg_, go_sem, seval, as_, ap_, h3] <;> (rfl)) (by simp only [go_sem, seval, as_, ap_, h3])
theorem j2_ (a b : Nat) : decide (a ≤ b) = decide ((a : Int) ≤ (b : Int)) := decide_eq_decide.2 (by omega)
theorem k6_ (b : Bl) (hs : smb b = true) : ACall En 65 [.ag (bC b)] [] [.b (bok b)] [] := by
 obtain ⟨s1, s2, s3⟩ := hr_ hs
 refine aq_ (fn := Tryz.f65) [] Tryz.func65 rfl rfl (by simp) fun C => ?_
 rw [bb_]
 simp only [Tryz.ntmps65, T7_, List.length_nil, Nat.reduceAdd, Nat.reduceSub, List.replicate_succ, List.replicate_zero, List.cons_append, List.nil_append, bl_]
 refine .seq (.rgn [] (by simp only [go_sem, seval, as_]; rfl) ?_ ?_)
 ·(first | trivial | (simp; done) | exact hJ.symm)
 refine .seq (.rgn [] (by simp only [go_sem, seval, as_]; rfl) ?_ ?_)
 ·(first | trivial | (simp; done) | exact hJ.symm)
 refine .seqJ (fun q : Bool => ⟨[.no, .pt 11 10 0 0, .no, .b q, .no, .no, .no, .no, .no, .no, .no, .no, .no, .no, .no, .no, .no, .no, .no, .no, .no, .no, .no, .no, .no, .no, .no, .no, .no, .no, .no, .no, .no, .no, .no, .no, .no, .no, .no, .no, .no, .no, .no, .no, .no, .no, .no, .no, .no, .no, .no, .no, .no, .no, .no, .no, .no, .no, .no, .no, .no, .no, .no, .no, .no, .no, .no, .no, .no, .no, .no, .no, .no], be_ [(11, ⟨50, 10, [bC b]⟩)], us [11]⟩) (fun q : Bool => q = eb_ b) ?_ (fun q hJ => ?_)
 ·refine .seq (.rgn [] (by simp only [go_sem, seval, as_]; rfl) ?_ ?_)
  ·(first | trivial | (simp; done) | exact hJ.symm)
  refine .block (.seq (.rgn [] (by simp only [go_sem, seval, as_]; rfl) ?_ ?_))
  ·(first | trivial | (simp; done) | exact hJ.symm)
  refine .condB (by simp only [go_sem, seval, as_]; rfl) (by simp only [go_sem, seval, as_]) (fun h6 => ?_) (fun h6 => ?_)
  ·refine .rgn [bj_ (iv_ b.expr s2), bj_ (iv_ b.thn s3)] (by simp only [go_sem, seval, as_]; rfl) ?_ ?_
   ·(first | trivial | (simp; done) | exact hJ.symm)
   refine Exists.intro (eb_ b) ⟨?_, ?_⟩
   ·rfl
   exact Can.weak (Weak.lit (by simp only [go_sem, seval, as_, a2_, leV, az_, a0_, V.inn, us, T9_, Ta_] <;> ((unfold eb_; simp_all))) (by simp only [go_sem, seval, as_, a2_, leV, az_, a0_, V.inn, us, T9_, Ta_]) (by simp only [go_sem, seval, as_, a2_, leV, az_, a0_, V.inn, us, T9_, Ta_]))
  ·refine .seq (.rgn [] (by simp only [go_sem, seval, as_]; rfl) ?_ ?_)
   ·(first | trivial | (simp; done) | exact hJ.symm)
   refine .condB (by simp only [go_sem, seval, as_]; rfl) (by simp only [go_sem, seval, as_]) (fun h21 => ?_) (fun h21 => ?_)
   ·refine .rgn [bj_ (ks_ b.name s1), bj_ (ml_ b.expr s2), bj_ (iv_ b.thn s3)] (by simp only [go_sem, seval, as_]; rfl) ?_ ?_
    ·(first | trivial | (simp; done) | exact hJ.symm)
    refine Exists.intro (eb_ b) ⟨?_, ?_⟩
    ·rfl
    exact Can.weak (Weak.lit (by simp only [go_sem, seval, as_, a2_, leV, az_, a0_, V.inn, us, T9_, Ta_] <;> ((unfold eb_; simp_all))) (by simp only [go_sem, seval, as_, a2_, leV, az_, a0_, V.inn, us, T9_, Ta_]) (by simp only [go_sem, seval, as_, a2_, leV, az_, a0_, V.inn, us, T9_, Ta_]))
   ·refine .seq (.rgn [] (by simp only [go_sem, seval, as_]; rfl) ?_ ?_)
    ·(first | trivial | (simp; done) | exact hJ.symm)
    refine .condB (by simp only [go_sem, seval, as_]; rfl) (by simp only [go_sem, seval, as_]) (fun h36 => ?_) (fun h36 => ?_)
    ·refine .rgn [bj_ (ml_ b.expr s2), bj_ (iv_ b.thn s3)] (by simp only [go_sem, seval, as_]; rfl) ?_ ?_
     ·(first | trivial | (simp; done) | exact hJ.symm)
     refine Exists.intro (eb_ b) ⟨?_, ?_⟩
     ·rfl
     exact Can.weak (Weak.lit (by simp only [go_sem, seval, as_, a2_, leV, az_, a0_, V.inn, us, T9_, Ta_] <;> ((unfold eb_; simp_all))) (by simp only [go_sem, seval, as_, a2_, leV, az_, a0_, V.inn, us, T9_, Ta_]) (by simp only [go_sem, seval, as_, a2_, leV, az_, a0_, V.inn, us, T9_, Ta_]))
    ·refine .seq (.rgn [] (by simp only [go_sem, seval, as_]; rfl) ?_ ?_)
     ·(first | trivial | (simp; done) | exact hJ.symm)
     refine .condB (by simp only [go_sem, seval, as_]; rfl) (by simp only [go_sem, seval, as_]) (fun h51 => ?_) (fun h51 => ?_)
     ·refine .rgn [bj_ (ml_ b.expr s2), bj_ (ml_ b.thn s3)] (by simp only [go_sem, seval, as_]; rfl) ?_ ?_
      ·(first | trivial | (simp; done) | exact hJ.symm)
      refine Exists.intro (eb_ b) ⟨?_, ?_⟩
      ·rfl
      exact Can.weak (Weak.lit (by simp only [go_sem, seval, as_, a2_, leV, az_, a0_, V.inn, us, T9_, Ta_] <;> ((unfold eb_; simp_all))) (by simp only [go_sem, seval, as_, a2_, leV, az_, a0_, V.inn, us, T9_, Ta_]) (by simp only [go_sem, seval, as_, a2_, leV, az_, a0_, V.inn, us, T9_, Ta_]))
     ·refine .skip ?_
      refine Exists.intro (eb_ b) ⟨?_, ?_⟩
      ·rfl
      exact Can.weak (Weak.lit (by simp only [go_sem, seval, as_, a2_, leV, az_, a0_, V.inn, us, T9_, Ta_] <;> ((unfold eb_; simp_all))) (by simp only [go_sem, seval, as_, a2_, leV, az_, a0_, V.inn, us, T9_, Ta_]) (by simp only [go_sem, seval, as_, a2_, leV, az_, a0_, V.inn, us, T9_, Ta_]))
 cases q
 ·refine .seq (.rgn [ef_ (eb_ b = true) (fun h => p6_ b h hs)] (by simp only [go_sem, seval, as_]; rfl) ?_ ?_)
  ·(first | trivial | (simp; done) | exact hJ.symm)
  refine .ret ⟨.inr rfl, ?_⟩
  exact Out.plain (by simp only [Tryz.results65]; rfl) (by simp only [a4_, bh_, go_sem, seval, as_] <;> (split <;> rfl)) (by simp only [bg_, go_sem, seval, as_] <;> (rw [bok, ← hJ]; first | rfl | (rw [Bool.true_and, j2_]; rfl))) (by simp only [go_sem, seval, as_])
 ·refine .seq (.rgn [ef_ (eb_ b = true) (fun h => p6_ b h hs)] (by simp only [go_sem, seval, as_]; rfl) ?_ ?_)
  ·(first | trivial | (simp; done) | exact hJ.symm)
  refine .ret ⟨.inr rfl, ?_⟩
  exact Out.plain (by simp only [Tryz.results65]; rfl) (by simp only [a4_, bh_, go_sem, seval, as_] <;> (split <;> rfl)) (by simp only [bg_, go_sem, seval, as_] <;> (rw [bok, ← hJ]; first | rfl | (rw [Bool.true_and, j2_]; rfl))) (by simp only [go_sem, seval, as_])
theorem v3_ {b : Bl} (h : bok b = true) : eb_ b = true := by simp only [bok, T5_] at h; exact h.1
def ox_ (b : Bl) : Str := if bok b then cg_ (bw b) else []
theorem l4_ (b : Bl) (hs : smb b = true) : ACall En 66 [.ag (bC b)] [] [.s (ox_ b)] [] := by
 refine aq_ (fn := Tryz.f66) [] Tryz.func66 rfl rfl (by simp) fun C => ?_
 rw [bb_]
 simp only [Tryz.ntmps66, T7_, List.length_nil, Nat.reduceAdd, Nat.reduceSub, List.replicate_succ, List.replicate_zero, List.cons_append, List.nil_append, bl_]
 refine .seq (.rgn [] (by simp only [go_sem, seval, as_]; rfl) ?_ ?_)
 ·first | trivial | simp
 refine .seq (.seq (.rgn [bj_ (k6_ b hs)] (by simp only [go_sem, seval, as_]; rfl) ?_ ?_))
 ·simp
 refine .condB (by simp only [go_sem, seval, as_]; rfl) (by simp only [go_sem, seval, as_]) (fun h5 => ?_) (fun h5 => ?_)
 ·refine .seq (.rgn [] (by simp only [go_sem, seval, as_]; rfl) ?_ ?_)
  ·first | trivial | simp
  refine .ret ⟨.inr rfl, ?_⟩
  exact Out.plain (by simp only [Tryz.results66]; rfl) (by simp only [a4_, bh_, go_sem, seval, as_] <;> (split <;> rfl)) (by simp only [bg_, go_sem, seval, as_] <;> (simp at h5; simp [ox_, h5])) (by simp only [go_sem, seval, as_])
 ·refine .skip (.seq (.rgn [ef_ (bok b = true) (fun h => p6_ b (v3_ h) hs)] (by simp only [go_sem, seval, as_]; rfl) ?_ ?_))
  ·simpa using h5
  refine .ret ⟨.inr rfl, ?_⟩
  exact Out.plain (by simp only [Tryz.results66]; rfl) (by simp only [a4_, bh_, go_sem, seval, as_] <;> (split <;> rfl)) (by simp only [bg_, go_sem, seval, as_] <;> (simp at h5; simp [ox_, h5])) (by simp only [go_sem, seval, as_])
end
section
set_option maxRecDepth 100000
set_option maxHeartbeats 4000000
def lvl (e : E) : Int := if e.kind = 3 then (if e.s = [60] then 1 else if e.s = [42] then 3 else 2) else 4
theorem qw_ {e : E} (k : e.kind = 3) (h : fp_ e.s = true) : lvl e = br_ e.s := by
 simp only [fp_, Bool.or_eq_true, beq_iff_eq] at h
 unfold lvl
 rw [if_pos k]
 rcases h with ((h | h) | h) | h <;> rw [h] <;> decide
theorem o5_ (e : E) : ACall En 169 [.ag (eC e)] [] [.i .i64 (lvl e)] [] := by
 refine aq_ (fn := Tryz.f169) [] Tryz.func169 rfl rfl (by simp) fun C => ?_
 rw [bb_]
 simp only [Tryz.ntmps169, T7_, List.length_nil, Nat.reduceAdd, Nat.reduceSub, List.replicate_succ, List.replicate_zero, List.cons_append, List.nil_append, bl_]
 refine .seq (.rgn [] (by simp only [go_sem, seval]; rfl) ?_ ?_)
 ·first | trivial | simp
 refine .seq (.seq (.rgn [] (by simp only [go_sem, seval]; rfl) ?_ ?_))
 ·first | trivial | simp
 refine .condB (by simp only [go_sem, seval]; rfl) (by simp only [go_sem, seval]) (fun h5 => ?_) (fun h5 => ?_)
 ·refine .seq (.rgn [] (by simp only [go_sem, seval]; rfl) ?_ ?_)
  ·first | trivial | simp
  refine .ret ⟨.inr rfl, ?_⟩
  exact Out.plain (by simp only [Tryz.results169]; rfl) (by simp only [a4_, bh_, go_sem, seval] <;> (split <;> rfl)) (by simp only [bg_, go_sem, seval] <;> (simp at h5; simp [lvl, h5])) (by simp only [go_sem, seval])
 ·refine .skip (.seq (.seq (.rgn [] (by simp only [go_sem, seval]; rfl) ?_ ?_)))
  ·first | trivial | simp
  refine .block (.seq (.rgn [] (by simp only [go_sem, seval]; rfl) ?_ ?_))
  ·first | trivial | simp
  refine .condB (by simp only [go_sem, seval]; rfl) (by simp only [go_sem, seval]) (fun h8 => ?_) (fun h8 => ?_)
  ·refine .seq (.rgn [] (by simp only [go_sem, seval]; rfl) ?_ ?_)
   ·first | trivial | simp
   refine .ret ⟨.inr rfl, ?_⟩
   exact Out.plain (by simp only [Tryz.results169]; rfl) (by simp only [a4_, bh_, go_sem, seval] <;> (split <;> rfl)) (by simp only [bg_, go_sem, seval] <;> (simp at h5 h8; simp [lvl, h5, h8])) (by simp only [go_sem, seval])
  ·refine .seq (.rgn [] (by simp only [go_sem, seval]; rfl) ?_ ?_)
   ·first | trivial | simp
   refine .condB (by simp only [go_sem, seval]; rfl) (by simp only [go_sem, seval]) (fun h10 => ?_) (fun h10 => ?_)
   ·refine .seq (.rgn [] (by simp only [go_sem, seval]; rfl) ?_ ?_)
    ·first | trivial | simp
    refine .ret ⟨.inr rfl, ?_⟩
    exact Out.plain (by simp only [Tryz.results169]; rfl) (by simp only [a4_, bh_, go_sem, seval] <;> (split <;> rfl)) (by simp only [bg_, go_sem, seval] <;> (simp at h5 h8 h10; simp [lvl, h5, h10])) (by simp only [go_sem, seval])
   ·refine .skip (.seq (.rgn [] (by simp only [go_sem, seval]; rfl) ?_ ?_))
    ·first | trivial | simp
    refine .ret ⟨.inr rfl, ?_⟩
    exact Out.plain (by simp only [Tryz.results169]; rfl) (by simp only [a4_, bh_, go_sem, seval] <;> (split <;> rfl)) (by simp only [bg_, go_sem, seval] <;> (simp at h5 h8 h10; simp [lvl, h5, h8, h10])) (by simp only [go_sem, seval])
theorem kt_ (e : E) (hs : sm e = true) : ACall En 111 [.ag (eC e)] [] [.b (pe e)] [] := by
 refine aq_ (fn := Tryz.f111) [] Tryz.func111 rfl rfl (by simp) fun C => ?_
 rw [bb_]
 simp only [Tryz.ntmps111, T7_, List.length_nil, Nat.reduceAdd, Nat.reduceSub, List.replicate_succ, List.replicate_zero, List.cons_append, List.nil_append, bl_]
 refine .seq (.rgn [] (by simp only [go_sem, seval]; rfl) ?_ ?_)
 ·first | trivial | simp
 refine .seq (.rgn [bj_ (pj_ e hs), bj_ (xc_ e hs)] (by simp only [go_sem, seval]; rfl) ?_ ?_)
 ·simp
 refine .ret ⟨.inr rfl, ?_⟩
 exact Out.plain (by simp only [Tryz.results111]; rfl) (by simp only [a4_, bh_, go_sem, seval] <;> (split <;> rfl)) (by simp only [bg_, go_sem, seval] <;> (rfl)) (by simp only [go_sem, seval])
theorem aao_ {n : Nat} (h : 9 < n) (o : Str) : Lib.decDigits n ++ o = Lib.decDigits (n / 10) ++ (UInt8.ofNat (48 + n % 10) :: o) := by
 rw [dt_ (by omega)]; simp
theorem ad3_ {n : Int} (h1 : 0 ≤ n) (h2 : n < 256) : IntKind.u8.wrap n = n := by
 simp only [IntKind.wrap, IntKind.signed, IntKind.bits]; simp; omega
theorem e0_ (n : Nat) : (Lib.decDigits n).length ≤ n + 1 := by
 induction n using Nat.strongRecOn with
 | ind n ih =>
  by_cases h : n < 10
  ·rw [Lib.decDigits_one h]; simp
  ·rw [dt_ h]
   have := ih (n / 10) (by omega)
   simp; omega
theorem pr_ (n : Nat) (hn : n < 4611686018427387904) : ACall En 170 [.i .i64 n] [] [.s (Lib.decDigits n)] [] := by
 refine aq_ (fn := Tryz.f170) [] Tryz.func170 rfl rfl (by simp) fun C => ?_
 rw [bb_]
 simp only [Tryz.ntmps170, T7_, List.length_nil, Nat.reduceAdd, Nat.reduceSub, List.replicate_succ, List.replicate_zero, List.cons_append, List.nil_append, bl_]
 refine .seq (.rgn [] (by simp only [go_sem, seval]; rfl) ?_ ?_)
 ·(first | trivial | (simp; done) | (have q := e0_ n; rw [hI.2] at q; simp at q; simp; omega))
 refine .seq (.seq (.rgn [] (by simp only [go_sem, seval]; rfl) ?_ ?_))
 ·(first | trivial | (simp; done) | (have q := e0_ n; rw [hI.2] at q; simp at q; simp; omega))
 refine .condB (by simp only [go_sem, seval]; rfl) (by simp only [go_sem, seval]) (fun h5 => ?_) (fun h5 => ?_)
 ·simp at h5; omega
 ·refine .skip (.seq (.seq (.rgn [] (by simp only [go_sem, seval]; rfl) ?_ ?_)))
  ·(first | trivial | (simp; done) | (have q := e0_ n; rw [hI.2] at q; simp at q; simp; omega))
  refine .condB (by simp only [go_sem, seval]; rfl) (by simp only [go_sem, seval]) (fun h7 => ?_) (fun h7 => ?_)
  ·simp at h7; omega
  ·refine .skip (.seq (.rgn [] (by simp only [go_sem, seval]; rfl) ?_ ?_))
   ·(first | trivial | (simp; done) | (have q := e0_ n; rw [hI.2] at q; simp at q; simp; omega))
   refine .seq (.block (.loopK (fun k : Nat × Str => ⟨[.i .i64 k.1, .no, .no, .s k.2, .no, .no, .no, .no, .no, .no, .no, .no, .no, .no, .no, .no, .no, .no, .no, .no, .no, .no, .no, .no, .no, .no, .no, .no, .no, .no, .no], be_ [], us []⟩) (fun k : Nat × Str => k.1 ≤ n ∧ Lib.decDigits n = Lib.decDigits k.1 ++ k.2) (fun k : Nat × Str => k.1) ((n, [])) ?_ ?_ (fun k hI => ?_)))
   ·simp
   ·exact Can.weak (Weak.lit (by simp only [go_sem, seval, a2_, leV, az_, a0_, V.inn, us, T9_, Ta_] <;> (simp)) (by simp only [go_sem, seval, a2_, leV, az_, a0_, V.inn, us, T9_, Ta_]) (by simp only [go_sem, seval, a2_, leV, az_, a0_, V.inn, us, T9_, Ta_]))
   refine .seq (.seq (.rgn [] (by simp only [go_sem, seval]; rfl) ?_ ?_))
   ·(first | trivial | (simp; done) | (have q := e0_ n; rw [hI.2] at q; simp at q; simp; omega))
   refine .condB (by simp only [go_sem, seval]; rfl) (by simp only [go_sem, seval]) (fun h13 => ?_) (fun h13 => ?_)
   ·refine .skip (.block (.seq (.rgnS [19] [cvO En] (by simp only [go_sem, seval]; rfl) ?_ ?_)))
    ·(first | trivial | (simp; done) | (have q := e0_ n; rw [hI.2] at q; simp at q; simp; omega))
    refine .rgn [] (by simp only [go_sem, seval]; rfl) ?_ ?_
    ·(first | trivial | (simp; done) | (have q := e0_ n; rw [hI.2] at q; simp at q; simp; omega))
    refine Exists.intro ((k.1 / 10, UInt8.ofNat (48 + k.1 % 10) :: k.2)) ⟨?_, ?_, ?_⟩
    ·simp at h13; refine ⟨by dsimp only; omega, ?_⟩; rw [hI.2]; exact aao_ (by omega) _
    ·simp at h13; simp; omega
    exact Can.weak (Weak.lit (by simp only [go_sem, seval, a2_, leV, az_, a0_, V.inn, us, T9_, Ta_] <;> (simp at h13; rw [Int.tdiv_eq_ediv_of_nonneg (by omega), Int.tmod_eq_emod_of_nonneg (by omega), bt_ (by omega) (by omega), bt_ (by omega) (by omega), ad3_ (by omega) (by omega)]; refine ⟨by omega, ?_⟩; rw [show (48 + (k.1 : Int) % 10).toNat = 48 + k.1 % 10 by omega])) (by simp only [go_sem, seval, a2_, leV, az_, a0_, V.inn, us, T9_, Ta_]) (by simp only [go_sem, seval, a2_, leV, az_, a0_, V.inn, us, T9_, Ta_]))
   ·refine .exit (.seq (.rgnS [28] [cvO En] (by simp only [go_sem, seval]; rfl) ?_ ?_))
    ·(first | trivial | (simp; done) | (have q := e0_ n; rw [hI.2] at q; simp at q; simp; omega))
    refine .ret ⟨.inr rfl, ?_⟩
    exact Out.plain (by simp only [Tryz.results170]; rfl) (by simp only [a4_, bh_, go_sem, seval] <;> (split <;> rfl)) (by simp only [bg_, go_sem, seval] <;> (simp at h13; rw [hI.2, bt_ (by omega) (by omega), ad3_ (by omega) (by omega), Lib.decDigits_one (by omega), show (48 + (k.1 : Int)).toNat = 48 + k.1 by omega]; rfl)) (by simp only [go_sem, seval])
theorem zm_ {n : Int} (h : n < 0) : Lib.itoa n = 45 :: Lib.decDigits (-n).toNat := by unfold Lib.itoa; rw [if_pos h, show n.natAbs = (-n).toNat by omega]
theorem zw_ (n : Int) (h1 : -4611686018427387904 < n) (h2 : n < 4611686018427387904) : ACall En 170 [.i .i64 n] [] [.s (Lib.itoa n)] [] := by
 by_cases h : 0 ≤ n
 ·obtain ⟨m, rfl⟩ := Int.eq_ofNat_of_zero_le h
  rw [g3_ h]
  exact pr_ m (by omega)
 have hm : ((-n).toNat : Int) = -n := by omega
 have A := pr_ (-n).toNat (by omega)
 rw [hm] at A
 have q := e0_ (-n).toNat
 refine aq_ (fn := Tryz.f170) [] Tryz.func170 rfl rfl (by simp) fun C => ?_
 rw [bb_]
 simp only [Tryz.ntmps170, T7_, List.length_nil, Nat.reduceAdd, Nat.reduceSub, List.replicate_succ, List.replicate_zero, List.cons_append, List.nil_append, bl_]
 refine .seq (.rgn [] (by simp only [go_sem, seval]; rfl) ?_ ?_)
 ·(first | trivial | (simp; done) | (rw [Int.zero_sub, bt_ (by omega) (by omega)]; omega))
 refine .seq (.seq (.rgn [] (by simp only [go_sem, seval]; rfl) ?_ ?_))
 ·(first | trivial | (simp; done) | (rw [Int.zero_sub, bt_ (by omega) (by omega)]; omega))
 refine .condB (by simp only [go_sem, seval]; rfl) (by simp only [go_sem, seval]) (fun h5 => ?_) (fun h5 => ?_)
 ·simp at h5; omega
 ·refine .skip (.seq (.seq (.rgn [] (by simp only [go_sem, seval]; rfl) ?_ ?_)))
  ·(first | trivial | (simp; done) | (rw [Int.zero_sub, bt_ (by omega) (by omega)]; omega))
  refine .condB (by simp only [go_sem, seval]; rfl) (by simp only [go_sem, seval]) (fun h7 => ?_) (fun h7 => ?_)
  ·refine .seq (.rgn [bj_ A] (by simp only [go_sem, seval, bt_ (show -9223372036854775808 ≤ -n by omega) (by omega)]; rfl) ?_ ?_)
   ·(first | trivial | (simp; done) | (rw [Int.zero_sub, bt_ (by omega) (by omega)]; omega))
   refine .ret ⟨.inr rfl, ?_⟩
   exact Out.plain (by simp only [Tryz.results170]; rfl) (by simp only [a4_, bh_, go_sem, seval] <;> (split <;> rfl)) (by simp only [bg_, go_sem, seval] <;> (rw [zm_ (by omega)])) (by simp only [go_sem, seval])
  ·simp at h7; omega
end
section
set_option maxRecDepth 100000
set_option maxHeartbeats 1000000
theorem ba_ (l : List Str) : (∀ r, r ∈ by_ l → r.length = 1) = True := eq_true fun r hr => ns_ hr
theorem i8_ (l : List Str) : by_ l = [] ↔ l = [] := by cases l <;> simp [by_]
theorem r8_ {e : E} {d : Int} (h : form e d = true) (must : Int) : wds e must = if e.kind = 3 ∧ br_ e.s < must then [40] :: (wds e 0 ++ [[41]]) else wds e 0 := by
 have := ac5_ h must 0
 unfold wds
 rw [this, mx_]
 by_cases h1 : e.kind = 3 <;> by_cases h2 : br_ e.s < must <;> simp [h1, h2]
theorem m2_ {e : E} {d : Nat} (h : form e d = true) (hm : many e d ≤ 1000) (must : Int) : (wds e must).length ≤ 3000 := by
 have := er_ d e must h; omega
theorem rk_ {e : E} {d : Int} (h : form e d = true) (must : Int) (hm : must ≤ 4) : (lvl e < must) = (e.kind = 3 ∧ br_ e.s < must) := by
 rcases (b1_ h).2 with ⟨k1, _⟩ | ⟨k1, _⟩ | ⟨k1, h1, h2, h3, h4, h5⟩ | ⟨k1, _⟩
 ·simp [lvl, k1]; omega
 ·simp [lvl, k1]; omega
 ·rw [qw_ k1 h2]; simp [k1]
 ·simp [lvl, k1]; omega
theorem kz_ (d : Nat) : ∀ (e : E) (t : Int), form e d = true → sm e = true → many e d ≤ 1000 → t ≤ 4 → -1000 ≤ t → ACall En 112 [.ag (eC e), .i .i64 t] [] [.sl false (by_ (wds e t))] [] := by
 induction d with
 | zero => intro e t h; have := (b1_ h).1; omega
 | succ d ih =>
 intro e t h hs hm ht ht2
 obtain ⟨a1, a2, a3⟩ := ey_ hs
 have e1 : ((d + 1 : Nat) : Int) - 1 = (d : Int) := by omega
 have hd1 : (1 : Int) ≤ ((d + 1 : Nat) : Int) := by omega
 have g1 : e.kind = 1 → 0 ≤ e.n ∧ e.n ≤ 1000000 := fun hk => by
  rcases (b1_ h).2 with ⟨k1, h1, h2, h3, h4⟩ | ⟨k1, h1, h2, h3⟩ | ⟨k1, _⟩ | ⟨k1, _⟩ <;> omega
 have g3 : e.kind = 3 → e.kids.length = 2 ∧ 1 ≤ br_ e.s ∧ br_ e.s ≤ 3 ∧ form (e.kids.getD 0 E0) d = true ∧ form (e.kids.getD 1 E0) d = true ∧ many (e.kids.getD 0 E0) d ≤ 1000 ∧ many (e.kids.getD 1 E0) d ≤ 1000 ∧ lvl e = br_ e.s := fun hk => by
  rcases (b1_ h).2 with ⟨k1, _⟩ | ⟨k1, _⟩ | ⟨k1, h1, h2, h3, h4, h5⟩ | ⟨k1, _⟩ <;> try omega
  rw [e1] at h4 h5
  have := c1_ h2
  have hm2 := n5_ hd1 h3
  rw [e1] at hm2
  have q1 := er_ d _ 0 h4
  have q2 := er_ d _ 0 h5
  exact ⟨h3, this.1, this.2, h4, h5, by omega, by omega, qw_ k1 h2⟩
 have g4 : e.kind = 4 → e.kids.length = 1 ∧ form (e.kids.getD 0 E0) d = true ∧ many (e.kids.getD 0 E0) d ≤ 1000 := fun hk => by
  rcases (b1_ h).2 with ⟨k1, _⟩ | ⟨k1, _⟩ | ⟨k1, _⟩ | ⟨k1, h1, h2, h3, h4⟩ <;> try omega
  rw [e1] at h4
  have hm2 := or_ hd1 h3
  rw [e1] at hm2
  have q1 := er_ d _ 0 h4
  exact ⟨h3, h4, by omega⟩
 have g0 : e.kind = 1 ∨ e.kind = 2 ∨ e.kind = 3 ∨ e.kind = 4 := by
  rcases (b1_ h).2 with ⟨k1, _⟩ | ⟨k1, _⟩ | ⟨k1, _⟩ | ⟨k1, _⟩ <;> omega
 have hT : e.kind = 3 → wds e 0 = wds (e.kids.getD 0 E0) (if lvl e = 1 then 2 else lvl e) ++ [e.s] ++ wds (e.kids.getD 1 E0) (lvl e + 1) := fun hk => by
  have q := g3 hk
  rw [fi_ hk q.1, if_neg (by omega), q.2.2.2.2.2.2.2, show max 2 (br_ e.s) = if br_ e.s = 1 then 2 else br_ e.s by split <;> omega]
 have hL : ∀ k, k < e.kids.length → ∀ m, (wds (e.kids.getD k E0) m).length ≤ 3000 := fun k hk m => by
  rcases g0 with hk4 | hk4 | hk4 | hk4
  ·rcases (b1_ h).2 with ⟨k1, h1, h2, h3, h4⟩ | ⟨k1, _⟩ | ⟨k1, _⟩ | ⟨k1, _⟩ <;> try omega
   rw [h4] at hk; simp at hk
  ·rcases (b1_ h).2 with ⟨k1, _⟩ | ⟨k1, h1, h2, h3⟩ | ⟨k1, _⟩ | ⟨k1, _⟩ <;> try omega
   rw [h3] at hk; simp at hk
  ·have := g3 hk4
   have hk2 : k = 0 ∨ k = 1 := by omega
   rcases hk2 with rfl | rfl
   ·exact m2_ this.2.2.2.1 this.2.2.2.2.2.1 _
   ·exact m2_ this.2.2.2.2.1 this.2.2.2.2.2.2.1 _
  ·have := g4 hk4
   have hk2 : k = 0 := by omega
   subst hk2
   exact m2_ this.2.1 this.2.2 _
 have hW := m2_ h hm
 have hA : e.kind = 4 → wds e 0 = wds (e.kids.getD 0 E0) 4 ++ [[97, 115], e.s] := fun hk => ie_ hk (g4 hk).1 0
 refine aq_ (fn := Tryz.f112) [] Tryz.func112 rfl rfl (by simp) fun C => ?_
 rw [bb_]
 simp only [Tryz.ntmps112, T7_, List.length_nil, Nat.reduceAdd, Nat.reduceSub, List.replicate_succ, List.replicate_zero, List.cons_append, List.nil_append, bl_]
 refine .seq (.rgn [] (by simp only [go_sem, seval, ab_, aa_, T2_, T1_]; rfl) ?_ ?_)
 ·(first | trivial | (simp; done) | (simp [ba_]; done))
 refine .seq (.rgn [] (by simp only [go_sem, seval, ab_, aa_, T2_, T1_]; rfl) ?_ ?_)
 ·(first | trivial | (simp; done) | (simp [ba_]; done))
 refine .seq (.rgn [bj_ (o5_ e)] (by simp only [go_sem, seval, ab_, aa_, T2_, T1_]; rfl) ?_ ?_)
 ·(first | trivial | (simp; done) | (simp [ba_]; done))
 refine .seqJ (fun u : Unit => ⟨[.no, .i .i64 t, .no, .no, .no, .ow 150 1 0 (wds e 0).length, .i .i64 (lvl e), .no, .no, .no, .no, .no, .no, .no, .no, .no, .no, .no, .no, .no, .no, .no, .no, .no, .no, .no, .no, .no, .no, .no, .no, .no, .no, .no, .no, .no, .no, .no, .no, .no, .no, .no, .no, .no, .no, .no, .no, .no, .no, .no, .no, .no, .no, .no, .no, .no, .no, .no, .no, .no, .no, .no, .no, .no, .no, .no, .no, .no, .no, .no, .no, .no, .no], be_ [(150, ⟨9, 1, by_ (wds e 0)⟩)], us [150]⟩) (fun u : Unit => True) ?_ (fun u hJ => ?_)
 ·refine .seq (.rgn [] (by simp only [go_sem, seval, ab_, aa_, T2_, T1_]; rfl) ?_ ?_)
  ·(first | trivial | (simp; done) | (simp [ba_]; done))
  refine .block (.seq (.rgn [] (by simp only [go_sem, seval, ab_, aa_, T2_, T1_]; rfl) ?_ ?_))
  ·(first | trivial | (simp; done) | (simp [ba_]; done))
  refine .condB (by simp only [go_sem, seval, ab_, aa_, T2_, T1_]; rfl) (by simp only [go_sem, seval, ab_, aa_, T2_, T1_]) (fun h24 => ?_) (fun h24 => ?_)
  ·refine .rgn [bj_ (zw_ e.n (by have := g1 (by simpa using h24); omega) (by have := g1 (by simpa using h24); omega))] (by simp only [go_sem, seval, ab_, aa_, T2_, T1_]; rfl) ?_ ?_
   ·(first | trivial | (simp; done) | (simp [ba_]; done))
   refine Exists.intro (()) ⟨?_, ?_⟩
   ·trivial
   refine Can.trans (Can.swap 41 150 (by decide) (by decide) (by decide) (by decide) (by simp only [go_sem, seval, ab_, aa_, T2_, T1_, V.cl]) (by simp only [go_sem, seval, ab_, aa_, T2_, T1_, V.cl]) (by simp only [go_sem, seval, ab_, aa_, T2_, T1_, ck_, sw, swM, rnB] <;> rfl) (by simp only [go_sem, seval, ab_, aa_, T2_, T1_, ck_, sw, swM, rnB] <;> rfl) (by simp only [go_sem, seval, ab_, aa_, T2_, T1_, ck_, sw, swM, rnB] <;> rfl)) ?_
   exact Can.weak (Weak.lit (by simp only [go_sem, seval, ab_, aa_, T2_, T1_, a2_, leV, az_, a0_, V.inn, us, T9_, Ta_] <;> (first | (rw [ec_ (by simpa using h24)]; rfl) | (rw [du_ (by simpa using h32)]; rfl) | (rw [hT (by simpa using h39), ← hJ]; simp; omega) | (rw [hA (by simp_all)]; simp))) (by simp only [go_sem, seval, ab_, aa_, T2_, T1_, a2_, leV, az_, a0_, V.inn, us, T9_, Ta_]) (by simp only [go_sem, seval, ab_, aa_, T2_, T1_, a2_, leV, az_, a0_, V.inn, us, T9_, Ta_] <;> (first | (rw [ec_ (by simpa using h24), g3_ (by have := g1 (by simpa using h24); omega)]; rfl) | (rw [du_ (by simpa using h32)]; rfl) | (rw [hT (by simpa using h39), ← hJ]; simp [by_, c8_]; done) | (rw [hA (by simp_all)]; simp [by_]))))
  ·refine .seq (.rgn [] (by simp only [go_sem, seval, ab_, aa_, T2_, T1_]; rfl) ?_ ?_)
   ·(first | trivial | (simp; done) | (simp [ba_]; done))
   refine .condB (by simp only [go_sem, seval, ab_, aa_, T2_, T1_]; rfl) (by simp only [go_sem, seval, ab_, aa_, T2_, T1_]) (fun h32 => ?_) (fun h32 => ?_)
   ·refine .rgn [] (by simp only [go_sem, seval, ab_, aa_, T2_, T1_]; rfl) ?_ ?_
    ·(first | trivial | (simp; done) | (simp [ba_]; done))
    refine Exists.intro (()) ⟨?_, ?_⟩
    ·trivial
    refine Can.trans (Can.swap 48 150 (by decide) (by decide) (by decide) (by decide) (by simp only [go_sem, seval, ab_, aa_, T2_, T1_, V.cl]) (by simp only [go_sem, seval, ab_, aa_, T2_, T1_, V.cl]) (by simp only [go_sem, seval, ab_, aa_, T2_, T1_, ck_, sw, swM, rnB] <;> rfl) (by simp only [go_sem, seval, ab_, aa_, T2_, T1_, ck_, sw, swM, rnB] <;> rfl) (by simp only [go_sem, seval, ab_, aa_, T2_, T1_, ck_, sw, swM, rnB] <;> rfl)) ?_
    exact Can.weak (Weak.lit (by simp only [go_sem, seval, ab_, aa_, T2_, T1_, a2_, leV, az_, a0_, V.inn, us, T9_, Ta_] <;> (first | (rw [ec_ (by simpa using h24)]; rfl) | (rw [du_ (by simpa using h32)]; rfl) | (rw [hT (by simpa using h39), ← hJ]; simp; omega) | (rw [hA (by simp_all)]; simp))) (by simp only [go_sem, seval, ab_, aa_, T2_, T1_, a2_, leV, az_, a0_, V.inn, us, T9_, Ta_]) (by simp only [go_sem, seval, ab_, aa_, T2_, T1_, a2_, leV, az_, a0_, V.inn, us, T9_, Ta_] <;> (first | (rw [ec_ (by simpa using h24), g3_ (by have := g1 (by simpa using h24); omega)]; rfl) | (rw [du_ (by simpa using h32)]; rfl) | (rw [hT (by simpa using h39), ← hJ]; simp [by_, c8_]; done) | (rw [hA (by simp_all)]; simp [by_]))))
   ·refine .seq (.rgn [] (by simp only [go_sem, seval, ab_, aa_, T2_, T1_]; rfl) ?_ ?_)
    ·(first | trivial | (simp; done) | (simp [ba_]; done))
    refine .condB (by simp only [go_sem, seval, ab_, aa_, T2_, T1_]; rfl) (by simp only [go_sem, seval, ab_, aa_, T2_, T1_]) (fun h39 => ?_) (fun h39 => ?_)
    ·refine .seq (.rgn [] (by simp only [go_sem, seval, ab_, aa_, T2_, T1_]; rfl) ?_ ?_)
     ·(first | trivial | (simp; done) | (simp [ba_]; done))
     refine .seqJ (fun lf : Int => ⟨[.no, .i .i64 t, .pt 12 4 0 0, .no, .no, .sl true [], .i .i64 (lvl e), .i .i64 lf, .no, .no, .no, .no, .no, .no, .no, .no, .no, .no, .no, .no, .no, .no, .no, .no, .no, .no, .no, .no, .no, .no, .no, .no, .no, .no, .no, .no, .no, .no, .no, .no, .no, .no, .no, .no, .no, .no, .no, .no, .no, .no, .no, .no, .no, .no, .no, .no, .no, .no, .no, .no, .no, .no, .no, .no, .no, .no, .no, .no, .no, .no, .no, .no, .no], be_ [(12, ⟨48, 4, [eC e]⟩)], us [12]⟩) (fun lf : Int => lf = if lvl e = 1 then 2 else lvl e) ?_ (fun lf hJ => ?_)
     ·refine .seq (.rgn [] (by simp only [go_sem, seval, ab_, aa_, T2_, T1_]; rfl) ?_ ?_)
      ·(first | trivial | (simp; done) | (simp [ba_]; done))
      refine .condB (by simp only [go_sem, seval, ab_, aa_, T2_, T1_]; rfl) (by simp only [go_sem, seval, ab_, aa_, T2_, T1_]) (fun h43 => ?_) (fun h43 => ?_)
      ·refine .rgn [] (by simp only [go_sem, seval, ab_, aa_, T2_, T1_]; rfl) ?_ ?_
       ·(first | trivial | (simp; done) | (simp [ba_]; done))
       refine Exists.intro (2) ⟨?_, ?_⟩
       ·simp_all
       exact Can.weak (Weak.lit (by simp only [go_sem, seval, ab_, aa_, T2_, T1_, a2_, leV, az_, a0_, V.inn, us, T9_, Ta_] <;> (simp_all)) (by simp only [go_sem, seval, ab_, aa_, T2_, T1_, a2_, leV, az_, a0_, V.inn, us, T9_, Ta_]) (by simp only [go_sem, seval, ab_, aa_, T2_, T1_, a2_, leV, az_, a0_, V.inn, us, T9_, Ta_]))
      ·refine .skip ?_
       refine Exists.intro (lvl e) ⟨?_, ?_⟩
       ·simp_all
       exact Can.weak (Weak.lit (by simp only [go_sem, seval, ab_, aa_, T2_, T1_, a2_, leV, az_, a0_, V.inn, us, T9_, Ta_] <;> (simp_all)) (by simp only [go_sem, seval, ab_, aa_, T2_, T1_, a2_, leV, az_, a0_, V.inn, us, T9_, Ta_]) (by simp only [go_sem, seval, ab_, aa_, T2_, T1_, a2_, leV, az_, a0_, V.inn, us, T9_, Ta_]))
     refine .rgnD [bj_ (ih (e.kids.getD 0 E0) lf (g3 (by simpa using h39)).2.2.2.1 (de_ a3 _ (b5_ (by have := g3 (by simpa using h39); omega))) (g3 (by simpa using h39)).2.2.2.2.2.1 (by have := g3 (by simpa using h39); rw [hJ]; split <;> omega) (by have := g3 (by simpa using h39); rw [hJ]; split <;> omega)), bj_ (ih (e.kids.getD 1 E0) (lvl e + 1) (g3 (by simpa using h39)).2.2.2.2.1 (de_ a3 _ (b5_ (by have := g3 (by simpa using h39); omega))) (g3 (by simpa using h39)).2.2.2.2.2.2.1 (by have := g3 (by simpa using h39); omega) (by have := g3 (by simpa using h39); omega))] enM (by simp only [go_sem, seval, ab_, aa_, T2_, T1_, ee_ (show 0 < e.kids.length by have := g3 (by simpa using h39); omega), ee_ (show 1 < e.kids.length by have := g3 (by simpa using h39); omega), bt_ (show -9223372036854775808 ≤ lvl e + 1 by have := g3 (by simpa using h39); omega) (by have := g3 (by simpa using h39); omega)]; rfl) (by rfl) ?_ ?_
     ·have q := g3 (by simpa using h39); have q1 := hL 0 (by omega) lf; have q2 : 1 < e.kids.length := (by omega); have q3 := hL 1 (by omega) (lvl e + 1); simp [-List.getD_eq_getElem?_getD, dh_, q2, ba_]; omega
     refine Exists.intro (()) ⟨?_, ?_⟩
     ·trivial
     refine Can.trans (Can.swap 73 150 (by decide) (by decide) (by decide) (by decide) (by simp only [go_sem, seval, ab_, aa_, T2_, T1_, V.cl]) (by simp only [go_sem, seval, ab_, aa_, T2_, T1_, V.cl]) (by simp only [go_sem, seval, ab_, aa_, T2_, T1_, ck_, sw, swM, rnB] <;> rfl) (by simp only [go_sem, seval, ab_, aa_, T2_, T1_, ck_, sw, swM, rnB] <;> rfl) (by simp only [go_sem, seval, ab_, aa_, T2_, T1_, ck_, sw, swM, rnB] <;> rfl)) ?_
     exact Can.weak (Weak.lit (by simp only [go_sem, seval, ab_, aa_, T2_, T1_, a2_, leV, az_, a0_, V.inn, us, T9_, Ta_] <;> (first | (rw [ec_ (by simpa using h24)]; rfl) | (rw [du_ (by simpa using h32)]; rfl) | (rw [hT (by simpa using h39), ← hJ]; simp; omega) | (rw [hA (by simp_all)]; simp))) (by simp only [go_sem, seval, ab_, aa_, T2_, T1_, a2_, leV, az_, a0_, V.inn, us, T9_, Ta_]) (by simp only [go_sem, seval, ab_, aa_, T2_, T1_, a2_, leV, az_, a0_, V.inn, us, T9_, Ta_] <;> (first | (rw [ec_ (by simpa using h24), g3_ (by have := g1 (by simpa using h24); omega)]; rfl) | (rw [du_ (by simpa using h32)]; rfl) | (rw [hT (by simpa using h39), ← hJ]; simp [by_, c8_]; done) | (rw [hA (by simp_all)]; simp [by_]))))
    ·refine .rgnD [bj_ (ih (e.kids.getD 0 E0) 4 (g4 (by simp_all)).2.1 (de_ a3 _ (b5_ (by have := g4 (by simp_all); omega))) (g4 (by simp_all)).2.2 (by decide) (by decide))] enM (by simp only [go_sem, seval, ab_, aa_, T2_, T1_, ee_ (show 0 < e.kids.length by have := g4 (by simp_all); omega)]; rfl) (by rfl) ?_ ?_
     ·have q := g4 (by simp_all); have q1 := hL 0 (by omega) 4; have q2 : 0 < e.kids.length := (by omega); simp [-List.getD_eq_getElem?_getD, dh_, q2, ba_]; omega
     refine Exists.intro (()) ⟨?_, ?_⟩
     ·trivial
     refine Can.trans (Can.swap 33 150 (by decide) (by decide) (by decide) (by decide) (by simp only [go_sem, seval, ab_, aa_, T2_, T1_, V.cl]) (by simp only [go_sem, seval, ab_, aa_, T2_, T1_, V.cl]) (by simp only [go_sem, seval, ab_, aa_, T2_, T1_, ck_, sw, swM, rnB] <;> rfl) (by simp only [go_sem, seval, ab_, aa_, T2_, T1_, ck_, sw, swM, rnB] <;> rfl) (by simp only [go_sem, seval, ab_, aa_, T2_, T1_, ck_, sw, swM, rnB] <;> rfl)) ?_
     exact Can.weak (Weak.lit (by simp only [go_sem, seval, ab_, aa_, T2_, T1_, a2_, leV, az_, a0_, V.inn, us, T9_, Ta_] <;> (first | (rw [ec_ (by simpa using h24)]; rfl) | (rw [du_ (by simpa using h32)]; rfl) | (rw [hT (by simpa using h39), ← hJ]; simp; omega) | (rw [hA (by simp_all)]; simp))) (by simp only [go_sem, seval, ab_, aa_, T2_, T1_, a2_, leV, az_, a0_, V.inn, us, T9_, Ta_]) (by simp only [go_sem, seval, ab_, aa_, T2_, T1_, a2_, leV, az_, a0_, V.inn, us, T9_, Ta_] <;> (first | (rw [ec_ (by simpa using h24), g3_ (by have := g1 (by simpa using h24); omega)]; rfl) | (rw [du_ (by simpa using h32)]; rfl) | (rw [hT (by simpa using h39), ← hJ]; simp [by_, c8_]; done) | (rw [hA (by simp_all)]; simp [by_]))))
 refine .seq (.seq (.rgn [] (by simp only [go_sem, seval, ab_, aa_, T2_, T1_]; rfl) ?_ ?_))
 ·(first | trivial | (simp; done) | (simp [ba_]; done))
 refine .condB (by simp only [go_sem, seval, ab_, aa_, T2_, T1_]; rfl) (by simp only [go_sem, seval, ab_, aa_, T2_, T1_]) (fun h66 => ?_) (fun h66 => ?_)
 ·refine .seq (.rgn [] (by simp only [go_sem, seval, ab_, aa_, T2_, T1_]; rfl) ?_ ?_)
  ·have q := hW 0; simp [-List.getD_eq_getElem?_getD, dh_, ba_, i8_]; (first | omega | (refine ⟨⟨?_, by omega⟩, by omega, by omega⟩; intro e0; have := (er_ (d + 1) e 0 h).1; rw [e0] at this; simp at this))
  refine .frz 81 (by simp only [go_sem, seval, ab_, aa_, T2_, T1_]; rfl) (by simp only [go_sem, seval, ab_, aa_, T2_, T1_]) (by simp only [go_sem, seval, ab_, aa_, T2_, T1_]; rfl) (by simp only [go_sem, seval, ab_, aa_, T2_, T1_]; rfl) ?_
  refine .ret ⟨.inr rfl, ?_⟩
  exact Out.plain (by simp only [Tryz.results112]; rfl) (by simp only [a4_, bh_, go_sem, seval, ab_, aa_, T2_, T1_] <;> (split <;> rfl)) (by simp only [bg_, go_sem, seval, ab_, aa_, T2_, T1_] <;> (have q : e.kind = 3 ∧ br_ e.s < t := (by rw [← rk_ h t ht]; simpa using h66); rw [r8_ h t, if_pos q]; (first | (rw [if_pos (by omega), T1_ (by simp [by_]; omega)]; simp [by_, peel])))) (by simp only [go_sem, seval, ab_, aa_, T2_, T1_])
 ·refine .skip (.seq (.rgn [] (by simp only [go_sem, seval, ab_, aa_, T2_, T1_]; rfl) ?_ ?_))
  ·(first | trivial | (simp; done) | (simp [ba_]; done))
  refine .frz 150 (by simp only [go_sem, seval, ab_, aa_, T2_, T1_]; rfl) (by simp only [go_sem, seval, ab_, aa_, T2_, T1_]) (by simp only [go_sem, seval, ab_, aa_, T2_, T1_]; rfl) (by simp only [go_sem, seval, ab_, aa_, T2_, T1_]; rfl) ?_
  refine .ret ⟨.inr rfl, ?_⟩
  exact Out.plain (by simp only [Tryz.results112]; rfl) (by simp only [a4_, bh_, go_sem, seval, ab_, aa_, T2_, T1_] <;> (split <;> rfl)) (by simp only [bg_, go_sem, seval, ab_, aa_, T2_, T1_] <;> (have q : ¬ (e.kind = 3 ∧ br_ e.s < t) := (by rw [← rk_ h t ht]; simpa using h66); rw [r8_ h t, if_neg q])) (by simp only [go_sem, seval, ab_, aa_, T2_, T1_])
end
section
set_option maxRecDepth 100000
set_option maxHeartbeats 1000000
theorem ty_ {e : E} (h : eok e = true) (must : Int) : wds e must ≠ [] := fun e0 => by have := (db_ h must).1; rw [e0] at this; simp at this
theorem ls_ (b : Bl) (h : eb_ b = true) (hs : smb b = true) : ACall En 62 [.ag (bC b)] [] [.sl false (by_ (bw b))] [] := by
 obtain ⟨h0, h1, h2⟩ := ky_ h
 obtain ⟨s1, s2, s3⟩ := hr_ hs
 have W : b.kind = 1 ∨ b.kind = 2 ∨ b.kind = 3 → _ := fun hk => kz_ 5 b.expr 1 (cp_ (h1 hk)) s2 (qr_ (h1 hk)) (by decide) (by decide)
 have W3 : b.kind = 3 → _ := fun hk => kz_ 5 b.thn 1 (cp_ (h2 hk)) s3 (qr_ (h2 hk)) (by decide) (by decide)
 refine aq_ (fn := Tryz.f62) [] Tryz.func62 rfl rfl (by simp) fun C => ?_
 rw [bb_]
 simp only [Tryz.ntmps62, T7_, List.length_nil, Nat.reduceAdd, Nat.reduceSub, List.replicate_succ, List.replicate_zero, List.cons_append, List.nil_append, bl_]
 refine .seq (.rgn [] (by simp only [go_sem, seval, ab_, aa_, T2_, T1_, as_]; rfl) ?_ ?_)
 ·(first | trivial | (simp; done) | (simp [ba_]; done))
 refine .seq (.seq (.rgn [] (by simp only [go_sem, seval, ab_, aa_, T2_, T1_, as_]; rfl) ?_ ?_))
 ·(first | trivial | (simp; done) | (simp [ba_]; done))
 refine .block (.seq (.rgn [] (by simp only [go_sem, seval, ab_, aa_, T2_, T1_, as_]; rfl) ?_ ?_))
 ·(first | trivial | (simp; done) | (simp [ba_]; done))
 refine .condB (by simp only [go_sem, seval, ab_, aa_, T2_, T1_, as_]; rfl) (by simp only [go_sem, seval, ab_, aa_, T2_, T1_, as_]) (fun h6 => ?_) (fun h6 => ?_)
 ·refine .seq (.rgnD [bj_ (W (.inl (by simpa using h6)))] enM (by simp only [go_sem, seval, ab_, aa_, T2_, T1_, as_]; rfl) (by rfl) ?_ ?_)
  ·have q := h1 (.inl (by simpa using h6)); have q2 := (db_ q 1); have q3 := ty_ q 1; simp [dh_, ba_, q3, i8_]; omega
  refine .frz 24 (by simp only [go_sem, seval, ab_, aa_, T2_, T1_, as_]; rfl) (by simp only [go_sem, seval, ab_, aa_, T2_, T1_, as_]) (by simp only [go_sem, seval, ab_, aa_, T2_, T1_, as_]; rfl) (by simp only [go_sem, seval, ab_, aa_, T2_, T1_, as_]; rfl) ?_
  refine .ret ⟨.inr rfl, ?_⟩
  exact Out.plain (by simp only [Tryz.results62]; rfl) (by simp only [a4_, bh_, go_sem, seval, ab_, aa_, T2_, T1_, as_] <;> (split <;> rfl)) (by simp only [bg_, go_sem, seval, ab_, aa_, T2_, T1_, as_] <;> (have k : b.kind = 1 := (by simpa using h6); rw [if_pos (by omega), T1_ (by simp [ab_]; omega)]; simp [bw, k, by_, peel, wEq])) (by simp only [go_sem, seval, ab_, aa_, T2_, T1_, as_])
 ·refine .seq (.rgn [] (by simp only [go_sem, seval, ab_, aa_, T2_, T1_, as_]; rfl) ?_ ?_)
  ·(first | trivial | (simp; done) | (simp [ba_]; done))
  refine .condB (by simp only [go_sem, seval, ab_, aa_, T2_, T1_, as_]; rfl) (by simp only [go_sem, seval, ab_, aa_, T2_, T1_, as_]) (fun h15 => ?_) (fun h15 => ?_)
  ·refine .seq (.rgn [bj_ (W (.inr (.inl (by simpa using h15))))] (by simp only [go_sem, seval, ab_, aa_, T2_, T1_, as_]; rfl) ?_ ?_)
   ·have q := h1 (.inr (.inl (by simpa using h15))); have q2 := (db_ q 1); have q3 := ty_ q 1; simp [dh_, ba_, q3, i8_]; omega
   refine .frz 31 (by simp only [go_sem, seval, ab_, aa_, T2_, T1_, as_]; rfl) (by simp only [go_sem, seval, ab_, aa_, T2_, T1_, as_]) (by simp only [go_sem, seval, ab_, aa_, T2_, T1_, as_]; rfl) (by simp only [go_sem, seval, ab_, aa_, T2_, T1_, as_]; rfl) ?_
   refine .ret ⟨.inr rfl, ?_⟩
   exact Out.plain (by simp only [Tryz.results62]; rfl) (by simp only [a4_, bh_, go_sem, seval, ab_, aa_, T2_, T1_, as_] <;> (split <;> rfl)) (by simp only [bg_, go_sem, seval, ab_, aa_, T2_, T1_, as_] <;> (have k : b.kind = 2 := (by simpa using h15); rw [if_pos (by omega), T1_ (by simp [ab_]; omega)]; simp [bw, k, by_, peel, cj_])) (by simp only [go_sem, seval, ab_, aa_, T2_, T1_, as_])
  ·refine .seq (.rgn [] (by simp only [go_sem, seval, ab_, aa_, T2_, T1_, as_]; rfl) ?_ ?_)
   ·(first | trivial | (simp; done) | (simp [ba_]; done))
   refine .condB (by simp only [go_sem, seval, ab_, aa_, T2_, T1_, as_]; rfl) (by simp only [go_sem, seval, ab_, aa_, T2_, T1_, as_]) (fun h22 => ?_) (fun h22 => ?_)
   ·refine .seq (.rgn [bj_ (W (.inr (.inr (by simpa using h22))))] (by simp only [go_sem, seval, ab_, aa_, T2_, T1_, as_]; rfl) ?_ ?_)
    ·have q := h1 (.inr (.inr (by simpa using h22))); have q2 := (db_ q 1); have q3 := ty_ q 1; simp [dh_, ba_, q3, i8_]; omega
    refine .seq (.rgnD [bj_ (W3 (by simpa using h22))] enM (by simp only [go_sem, seval, ab_, aa_, T2_, T1_, as_]; rfl) (by rfl) ?_ ?_)
    ·have q := h1 (.inr (.inr (by simpa using h22))); have q2 := (db_ q 1); have q4 := db_ (h2 (by simpa using h22)) 1; simp [dh_, ba_]; omega
    refine .frz 45 (by simp only [go_sem, seval, ab_, aa_, T2_, T1_, as_]; rfl) (by simp only [go_sem, seval, ab_, aa_, T2_, T1_, as_]) (by simp only [go_sem, seval, ab_, aa_, T2_, T1_, as_]; rfl) (by simp only [go_sem, seval, ab_, aa_, T2_, T1_, as_]; rfl) ?_
    refine .ret ⟨.inr rfl, ?_⟩
    exact Out.plain (by simp only [Tryz.results62]; rfl) (by simp only [a4_, bh_, go_sem, seval, ab_, aa_, T2_, T1_, as_] <;> (split <;> rfl)) (by simp only [bg_, go_sem, seval, ab_, aa_, T2_, T1_, as_] <;> (have k : b.kind = 3 := (by simpa using h22); rw [if_pos (by omega), T1_ (by simp [ab_]; omega)]; simp [bw, k, by_, peel, cj_, wIf, bi_])) (by simp only [go_sem, seval, ab_, aa_, T2_, T1_, as_])
   ·refine .skip (.seq (.rgn [] (by simp only [go_sem, seval, ab_, aa_, T2_, T1_, as_]; rfl) ?_ ?_))
    ·(first | trivial | (simp; done) | (simp [ba_]; done))
    refine .can (Can.slotLe 2 (.sl false []) (by simp only [go_sem, seval, ab_, aa_, T2_, T1_, as_] <;> trivial) (by simp only [go_sem, seval, ab_, aa_, T2_, T1_, as_] <;> rfl)) ?_
    refine .ret ⟨.inr rfl, ?_⟩
    exact Out.plain (by simp only [Tryz.results62]; rfl) (by simp only [a4_, bh_, go_sem, seval, ab_, aa_, T2_, T1_, as_] <;> (split <;> rfl)) (by simp only [bg_, go_sem, seval, ab_, aa_, T2_, T1_, as_] <;> (have k : b.kind = 0 := (by simp_all); simp [bw, k, by_])) (by simp only [go_sem, seval, ab_, aa_, T2_, T1_, as_])
theorem sp_ {l : List Str} {k : Nat} (h : k < l.length) : cg_ (l.take (k + 1)) = (if 0 < k then cg_ (l.take k) ++ [32] else []) ++ l.getD k [] := by
 have snoc : ∀ (a : List Str) (s : Str), a ≠ [] → cg_ (a ++ [s]) = cg_ a ++ 32 :: s := fun a s ha => by
  induction a with
  | nil => exact absurd rfl ha
  | cons x a ih =>
   cases a with
   | nil => rw [ga_]; show cg_ [x, s] = _; rw [fn_, ga_]
   | cons y a => rw [List.cons_append, List.cons_append, fn_, fn_, ← List.cons_append, ih (by simp)]; simp
 rw [List.take_add_one, T6_ h, T8_, T6_ h]
 simp only [Option.toList_some, Option.getD_some]
 by_cases hk : 0 < k
 ·rw [snoc _ _ (by intro e; have := congrArg List.length e; rw [List.length_take] at this; simp only [List.length_nil] at this; omega), if_pos hk]; simp
 ·have : k = 0 := by omega
  subst this; simp [ga_]
theorem vf_ {l : List Str} (k : Nat) : (cg_ (l.take k)).length ≤ (cg_ l).length := by
 by_cases h : l.take k = []
 ·rw [h]; simp [f9_]
 ·have h1 := hd_ _ h
  have h2 : l ≠ [] := fun e => h (by rw [e]; simp)
  have h3 := hd_ _ h2
  have h4 : ((l.take k).map List.length).sum + (l.take k).length ≤ (l.map List.length).sum + l.length := by
   conv => rhs; rw [← List.take_append_drop k l]
   rw [List.map_append, List.sum_append, T2_]; omega
  omega
theorem jy_ (l : List Str) (hl : l.length < 1099511627776) (hb : (cg_ l).length < 1099511627776) : ACall En 61 [.sl false (by_ l)] [] [.s (cg_ l)] [] := by
 refine aq_ (fn := Tryz.f61) [] Tryz.func61 rfl rfl (by simp) fun C => ?_
 rw [bb_]
 simp only [Tryz.ntmps61, T7_, List.length_nil, Nat.reduceAdd, Nat.reduceSub, List.replicate_succ, List.replicate_zero, List.cons_append, List.nil_append, bl_]
 refine .seq (.rgn [] (by simp only [go_sem, seval, ab_, aa_]; rfl) ?_ ?_)
 ·first | trivial | simp
 refine .seq (.rgn [] (by simp only [go_sem, seval, ab_, aa_]; rfl) ?_ ?_)
 ·first | trivial | simp
 refine .seq (.seq (.rgn [] (by simp only [go_sem, seval, ab_, aa_]; rfl) ?_ ?_))
 ·first | trivial | simp
 refine .block (.loopK (fun k : Nat => ⟨[.sl false (by_ l), .no, .no, .s (cg_ (l.take k)), .i .i64 k, .no, .no, .no, .no, .no, .no, .no, .no, .no, .no, .no, .no, .no, .no, .no, .no, .no], be_ [], us []⟩) (fun k : Nat => k ≤ l.length) (fun k : Nat => l.length - k) (0) ?_ ?_ (fun k hI => ?_))
 ·simp
 ·exact Can.weak (Weak.lit (by simp only [go_sem, seval, ab_, aa_, a2_, leV, az_, a0_, V.inn, us, T9_, Ta_] <;> (simp [f9_])) (by simp only [go_sem, seval, ab_, aa_, a2_, leV, az_, a0_, V.inn, us, T9_, Ta_]) (by simp only [go_sem, seval, ab_, aa_, a2_, leV, az_, a0_, V.inn, us, T9_, Ta_]))
 refine .seq (.seq (.rgn [] (by simp only [go_sem, seval, ab_, aa_]; rfl) ?_ ?_))
 ·first | trivial | simp
 refine .condB (by simp only [go_sem, seval, ab_, aa_]; rfl) (by simp only [go_sem, seval, ab_, aa_]) (fun h8 => ?_) (fun h8 => ?_)
 ·refine .skip (.seq (.block (.seqJ (fun q : Str => ⟨[.sl false (by_ l), .no, .no, .s q, .i .i64 k, .no, .no, .no, .no, .no, .no, .no, .no, .no, .no, .no, .no, .no, .no, .no, .no, .no], be_ [], us []⟩) (fun q : Str => q = if 0 < k then cg_ (l.take k) ++ [32] else []) ?_ (fun q hJ => ?_))))
  ·refine .seq (.rgn [] (by simp only [go_sem, seval, ab_, aa_]; rfl) ?_ ?_)
   ·first | trivial | simp
   refine .condB (by simp only [go_sem, seval, ab_, aa_]; rfl) (by simp only [go_sem, seval, ab_, aa_]) (fun h12 => ?_) (fun h12 => ?_)
   ·refine .rgn [] (by simp only [go_sem, seval, ab_, aa_]; rfl) ?_ ?_
    ·have q := vf_ (l := l) k; simp; omega
    refine Exists.intro (cg_ (l.take k) ++ [32]) ⟨?_, ?_⟩
    ·simp at h12; simp [h12]
    exact Can.weak (Weak.lit (by simp only [go_sem, seval, ab_, aa_, a2_, leV, az_, a0_, V.inn, us, T9_, Ta_] <;> ((simp at h12; subst h12; simp [f9_]))) (by simp only [go_sem, seval, ab_, aa_, a2_, leV, az_, a0_, V.inn, us, T9_, Ta_]) (by simp only [go_sem, seval, ab_, aa_, a2_, leV, az_, a0_, V.inn, us, T9_, Ta_]))
   ·refine .skip ?_
    refine Exists.intro ([]) ⟨?_, ?_⟩
    ·simp at h12; simp [h12]
    exact Can.weak (Weak.lit (by simp only [go_sem, seval, ab_, aa_, a2_, leV, az_, a0_, V.inn, us, T9_, Ta_] <;> ((simp at h12; subst h12; simp [f9_]))) (by simp only [go_sem, seval, ab_, aa_, a2_, leV, az_, a0_, V.inn, us, T9_, Ta_]) (by simp only [go_sem, seval, ab_, aa_, a2_, leV, az_, a0_, V.inn, us, T9_, Ta_]))
  refine .rgn [] (by simp only [go_sem, seval, ab_, aa_, dl_ (show k < l.length by simpa using h8)]; rfl) ?_ ?_
  ·have q1 := vf_ (l := l) (k + 1); rw [sp_ (by simpa using h8), ← hJ, T2_] at q1; refine ⟨⟨by omega, by simpa using h8⟩, by omega⟩
  refine .rgn [] (by simp only [go_sem, seval, ab_, aa_]; rfl) ?_ ?_
  ·first | trivial | simp
  refine Exists.intro (k + 1) ⟨?_, ?_, ?_⟩
  ·simp at h8; omega
  ·simp at h8; omega
  exact Can.weak (Weak.lit (by simp only [go_sem, seval, ab_, aa_, a2_, leV, az_, a0_, V.inn, us, T9_, Ta_] <;> (rw [bt_ (by simp at h8; omega) (by simp at h8; omega)]; refine ⟨?_, by simp⟩; first | (rw [hJ, sp_ (by simpa using h8)]; done))) (by simp only [go_sem, seval, ab_, aa_, a2_, leV, az_, a0_, V.inn, us, T9_, Ta_]) (by simp only [go_sem, seval, ab_, aa_, a2_, leV, az_, a0_, V.inn, us, T9_, Ta_]))
 ·refine .exit (.seq (.rgn [] (by simp only [go_sem, seval, ab_, aa_]; rfl) ?_ ?_))
  ·first | trivial | simp
  refine .ret ⟨.inr rfl, ?_⟩
  exact Out.plain (by simp only [Tryz.results61]; rfl) (by simp only [a4_, bh_, go_sem, seval, ab_, aa_] <;> (split <;> rfl)) (by simp only [bg_, go_sem, seval, ab_, aa_] <;> (simp at h8; rw [T1_ h8])) (by simp only [go_sem, seval, ab_, aa_])
theorem wu_ (b : Bl) (hs : smb b = true) : ACall En 60 [.ag (bC b)] [] [.b (bok b)] [] := by
 obtain ⟨s1, s2, s3⟩ := hr_ hs
 refine aq_ (fn := Tryz.f60) [] Tryz.func60 rfl rfl (by simp) fun C => ?_
 rw [bb_]
 simp only [Tryz.ntmps60, T7_, List.length_nil, Nat.reduceAdd, Nat.reduceSub, List.replicate_succ, List.replicate_zero, List.cons_append, List.nil_append, bl_]
 refine .seq (.rgn [] (by simp only [go_sem, seval, as_, aa_]; rfl) ?_ ?_)
 ·(first | trivial | (simp; done) | exact hJ.symm | exact ⟨hJ.symm, hJ.symm⟩)
 refine .seq (.rgn [] (by simp only [go_sem, seval, as_, aa_]; rfl) ?_ ?_)
 ·(first | trivial | (simp; done) | exact hJ.symm | exact ⟨hJ.symm, hJ.symm⟩)
 refine .seqJ (fun q : Bool => ⟨[.no, .pt 11 10 0 0, .no, .b q, .no, .no, .no, .no, .no, .no, .no, .no, .no, .no, .no, .no, .no, .no, .no, .no, .no, .no, .no, .no, .no, .no, .no, .no, .no, .no, .no, .no, .no, .no, .no, .no, .no, .no, .no, .no, .no, .no, .no, .no, .no, .no, .no, .no, .no, .no, .no, .no, .no, .no, .no, .no, .no, .no, .no, .no, .no, .no, .no, .no, .no, .no, .no, .no, .no, .no, .no, .no, .no, .no], be_ [(11, ⟨50, 10, [bC b]⟩)], us [11]⟩) (fun q : Bool => q = eb_ b) ?_ (fun q hJ => ?_)
 ·refine .seq (.rgn [] (by simp only [go_sem, seval, as_, aa_]; rfl) ?_ ?_)
  ·(first | trivial | (simp; done) | exact hJ.symm | exact ⟨hJ.symm, hJ.symm⟩)
  refine .block (.seq (.rgn [] (by simp only [go_sem, seval, as_, aa_]; rfl) ?_ ?_))
  ·(first | trivial | (simp; done) | exact hJ.symm | exact ⟨hJ.symm, hJ.symm⟩)
  refine .condB (by simp only [go_sem, seval, as_, aa_]; rfl) (by simp only [go_sem, seval, as_, aa_]) (fun h6 => ?_) (fun h6 => ?_)
  ·refine .rgn [bj_ (kc_ b.expr s2), bj_ (kc_ b.thn s3)] (by simp only [go_sem, seval, as_, aa_]; rfl) ?_ ?_
   ·(first | trivial | (simp; done) | exact hJ.symm | exact ⟨hJ.symm, hJ.symm⟩)
   refine Exists.intro (eb_ b) ⟨?_, ?_⟩
   ·rfl
   exact Can.weak (Weak.lit (by simp only [go_sem, seval, as_, aa_, a2_, leV, az_, a0_, V.inn, us, T9_, Ta_] <;> ((unfold eb_; simp_all))) (by simp only [go_sem, seval, as_, aa_, a2_, leV, az_, a0_, V.inn, us, T9_, Ta_]) (by simp only [go_sem, seval, as_, aa_, a2_, leV, az_, a0_, V.inn, us, T9_, Ta_]))
  ·refine .seq (.rgn [] (by simp only [go_sem, seval, as_, aa_]; rfl) ?_ ?_)
   ·(first | trivial | (simp; done) | exact hJ.symm | exact ⟨hJ.symm, hJ.symm⟩)
   refine .condB (by simp only [go_sem, seval, as_, aa_]; rfl) (by simp only [go_sem, seval, as_, aa_]) (fun h21 => ?_) (fun h21 => ?_)
   ·refine .rgn [bj_ (nh_ b.name s1), bj_ (kt_ b.expr s2), bj_ (kc_ b.thn s3)] (by simp only [go_sem, seval, as_, aa_]; rfl) ?_ ?_
    ·(first | trivial | (simp; done) | exact hJ.symm | exact ⟨hJ.symm, hJ.symm⟩)
    refine Exists.intro (eb_ b) ⟨?_, ?_⟩
    ·rfl
    exact Can.weak (Weak.lit (by simp only [go_sem, seval, as_, aa_, a2_, leV, az_, a0_, V.inn, us, T9_, Ta_] <;> ((unfold eb_; simp_all))) (by simp only [go_sem, seval, as_, aa_, a2_, leV, az_, a0_, V.inn, us, T9_, Ta_]) (by simp only [go_sem, seval, as_, aa_, a2_, leV, az_, a0_, V.inn, us, T9_, Ta_]))
   ·refine .seq (.rgn [] (by simp only [go_sem, seval, as_, aa_]; rfl) ?_ ?_)
    ·(first | trivial | (simp; done) | exact hJ.symm | exact ⟨hJ.symm, hJ.symm⟩)
    refine .condB (by simp only [go_sem, seval, as_, aa_]; rfl) (by simp only [go_sem, seval, as_, aa_]) (fun h36 => ?_) (fun h36 => ?_)
    ·refine .rgn [bj_ (kt_ b.expr s2), bj_ (kc_ b.thn s3)] (by simp only [go_sem, seval, as_, aa_]; rfl) ?_ ?_
     ·(first | trivial | (simp; done) | exact hJ.symm | exact ⟨hJ.symm, hJ.symm⟩)
     refine Exists.intro (eb_ b) ⟨?_, ?_⟩
     ·rfl
     exact Can.weak (Weak.lit (by simp only [go_sem, seval, as_, aa_, a2_, leV, az_, a0_, V.inn, us, T9_, Ta_] <;> ((unfold eb_; simp_all))) (by simp only [go_sem, seval, as_, aa_, a2_, leV, az_, a0_, V.inn, us, T9_, Ta_]) (by simp only [go_sem, seval, as_, aa_, a2_, leV, az_, a0_, V.inn, us, T9_, Ta_]))
    ·refine .seq (.rgn [] (by simp only [go_sem, seval, as_, aa_]; rfl) ?_ ?_)
     ·(first | trivial | (simp; done) | exact hJ.symm | exact ⟨hJ.symm, hJ.symm⟩)
     refine .condB (by simp only [go_sem, seval, as_, aa_]; rfl) (by simp only [go_sem, seval, as_, aa_]) (fun h51 => ?_) (fun h51 => ?_)
     ·refine .rgn [bj_ (kt_ b.expr s2), bj_ (kt_ b.thn s3)] (by simp only [go_sem, seval, as_, aa_]; rfl) ?_ ?_
      ·(first | trivial | (simp; done) | exact hJ.symm | exact ⟨hJ.symm, hJ.symm⟩)
      refine Exists.intro (eb_ b) ⟨?_, ?_⟩
      ·rfl
      exact Can.weak (Weak.lit (by simp only [go_sem, seval, as_, aa_, a2_, leV, az_, a0_, V.inn, us, T9_, Ta_] <;> ((unfold eb_; simp_all))) (by simp only [go_sem, seval, as_, aa_, a2_, leV, az_, a0_, V.inn, us, T9_, Ta_]) (by simp only [go_sem, seval, as_, aa_, a2_, leV, az_, a0_, V.inn, us, T9_, Ta_]))
     ·refine .skip ?_
      refine Exists.intro (eb_ b) ⟨?_, ?_⟩
      ·rfl
      exact Can.weak (Weak.lit (by simp only [go_sem, seval, as_, aa_, a2_, leV, az_, a0_, V.inn, us, T9_, Ta_] <;> ((unfold eb_; simp_all))) (by simp only [go_sem, seval, as_, aa_, a2_, leV, az_, a0_, V.inn, us, T9_, Ta_]) (by simp only [go_sem, seval, as_, aa_, a2_, leV, az_, a0_, V.inn, us, T9_, Ta_]))
 cases q
 ·refine .seq (.rgn [ef_ (eb_ b = true) (fun h => ls_ b h hs), ef_ (eb_ b = true) (fun h => jy_ (bw b) (by have := (tg_ h).1; omega) (by have := mt_ h; omega))] (by simp only [go_sem, seval, as_, aa_]; rfl) ?_ ?_)
  ·(first | trivial | (simp; done) | exact hJ.symm | exact ⟨hJ.symm, hJ.symm⟩)
  refine .ret ⟨.inr rfl, ?_⟩
  exact Out.plain (by simp only [Tryz.results60]; rfl) (by simp only [a4_, bh_, go_sem, seval, as_, aa_] <;> (split <;> rfl)) (by simp only [bg_, go_sem, seval, as_, aa_] <;> (rw [bok, ← hJ]; first | rfl | (rw [Bool.true_and, j2_]; rfl))) (by simp only [go_sem, seval, as_, aa_])
 ·refine .seq (.rgn [ef_ (eb_ b = true) (fun h => ls_ b h hs), ef_ (eb_ b = true) (fun h => jy_ (bw b) (by have := (tg_ h).1; omega) (by have := mt_ h; omega))] (by simp only [go_sem, seval, as_, aa_]; rfl) ?_ ?_)
  ·(first | trivial | (simp; done) | exact hJ.symm | exact ⟨hJ.symm, hJ.symm⟩)
  refine .ret ⟨.inr rfl, ?_⟩
  exact Out.plain (by simp only [Tryz.results60]; rfl) (by simp only [a4_, bh_, go_sem, seval, as_, aa_] <;> (split <;> rfl)) (by simp only [bg_, go_sem, seval, as_, aa_] <;> (rw [bok, ← hJ]; first | rfl | (rw [Bool.true_and, j2_]; rfl))) (by simp only [go_sem, seval, as_, aa_])
end
end Go.Proofs.YtefmbmafdgedmaaGreatDoor
