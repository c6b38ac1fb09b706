/- Lines without types: words, text, ok: the program's. Conditions: none. -/
import Derived.Test.YtefmbmafdgedmaaGreatDoorNh
set_option linter.unusedVariables false
set_option linter.unusedSimpArgs false
namespace Go.Proofs.YtefmbmafdgedmaaGreatDoor
section
set_option maxRecDepth 100000
set_option maxHeartbeats 4000000
theorem ady_ {l : Wd} {k : Nat} (h : k < l.length) : (bm_ (l.map (·.1))).getD k [] = [.s (l.getD k ([], 0)).1] := by
 simp [bm_, List.getD_eq_getElem?_getD, List.getElem?_eq_getElem h]
theorem oy_ {r : List V} {l : List Str} (h : r ∈ bm_ l) : r.length = 1 := by
 obtain ⟨s, _, rfl⟩ := List.mem_map.1 h; rfl
theorem a5_ (l : List Str) (k j : Nat) : ((dj_ (bm_ l) [.s []] k).getD j []).drop 1 = [] := by
 rw [List.getD_eq_getElem?_getD]
 cases h : (dj_ (bm_ l) [.s []] k)[j]? with
 | none => rfl
 | some r =>
  have hm := List.mem_of_getElem? h
  have : r.length = 1 := by
   rcases i0_ hm with hm | rfl
   ·exact oy_ hm
   ·rfl
  simp only [Option.getD_some]; exact List.drop_of_length_le (by omega)
theorem iv_ (l : Wd) (hl : l.length ≤ 1000000) : ACall En 147 [.sl false (wdR l)] [] [.sl false (bm_ (l.map (·.1)))] [] := by
 have hp : ∀ k, cf_ (dj_ (bm_ (l.map (·.1))) [.s []] k) = true := fun k => hw_ (aa_ _) rfl
 have hll : (bm_ (l.map (·.1))).length = l.length := by simp [bm_]
 refine ah_ (fn := Tryz.f147) [] Tryz.func147 rfl rfl (by simp) fun C => ?_
 rw [ar_]
 simp only [Tryz.ntmps147, List.length_cons, List.length_nil, Nat.reduceAdd, Nat.reduceSub, List.replicate_succ, List.replicate_zero, List.cons_append, List.nil_append, bd_]
 refine .seq (.rgn [] (by simp only [go_sem, seval, ae_, ad_, hp, a5_, ai_, hll]; rfl) ?_ ?_)
 ·(first | trivial | (simp; done) | (simp at h12; simp; omega))
 refine .seq (.rgn [] (by simp only [go_sem, seval, ae_, ad_, hp, a5_, ai_, hll]; rfl) ?_ ?_)
 ·simp; omega
 refine .seq (.seq (.rgn [] (by simp only [go_sem, seval, ae_, ad_, hp, a5_, ai_, hll]; rfl) ?_ ?_))
 ·(first | trivial | (simp; done) | (simp at h12; simp; omega))
 refine .block (.loopK (fun k : Nat => ⟨[.no, .no, .no, .ow 18 1 0 l.length, .no, .no, .no, .no, .no, .sl false (wdR l), .i .i64 l.length, .i .i64 k, .no, .no, .no, .no, .no, .no, .no, .no, .no, .no, .no], aw_ [(18, ⟨9, 1, dj_ (bm_ (l.map (·.1))) [.s []] k⟩)], us [18]⟩) (fun k : Nat => k ≤ l.length) (fun k : Nat => l.length - k) (0) ?_ ?_ (fun k hI => ?_))
 ·simp
 ·exact Can.weak (Weak.lit (by simp only [go_sem, seval, ae_, ad_, hp, a5_, ai_, hll, an_, leV, al_, am_, V.inn, us, true_or, or_true] <;> (simp)) (by simp only [go_sem, seval, ae_, ad_, hp, a5_, ai_, hll, an_, leV, al_, am_, V.inn, us, true_or, or_true]) (by simp only [go_sem, seval, ae_, ad_, hp, a5_, ai_, hll, an_, leV, al_, am_, V.inn, us, true_or, or_true] <;> (simp [go_, hll])))
 refine .seq (.rgn [] (by simp only [go_sem, seval, ae_, ad_, hp, a5_, ai_, hll]; rfl) ?_ ?_)
 ·(first | trivial | (simp; done) | (simp at h12; simp; omega))
 refine .seq (.condB (by simp only [go_sem, seval, ae_, ad_, hp, a5_, ai_, hll]; rfl) (by simp only [go_sem, seval, ae_, ad_, hp, a5_, ai_, hll]) (fun h12 => ?_) (fun h12 => ?_))
 ·refine .skip (.seq (.block (.seq (.rgn [] (by simp only [go_sem, seval, ae_, ad_, hp, a5_, ai_, hll, he_ (show k < l.length by simpa using h12)]; rfl) ?_ ?_))))
  ·(first | trivial | (simp; done) | (simp at h12; simp; omega))
  refine .rgn [] (by simp only [go_sem, seval, ae_, ad_, hp, a5_, ai_, hll, gw_ (l := bm_ (l.map (·.1))) (show k < (bm_ (l.map (·.1))).length by rw [hll]; simpa using h12)]; rfl) ?_ ?_
  ·(first | trivial | (simp; done) | (simp at h12; simp; omega))
  refine .rgn [] (by simp only [go_sem, seval, ae_, ad_, hp, a5_, ai_, hll]; rfl) ?_ ?_
  ·(first | trivial | (simp; done) | (simp at h12; simp; omega))
  refine Exists.intro (k + 1) ⟨?_, ?_, ?_⟩
  ·simp at h12; omega
  ·simp at h12; omega
  exact Can.weak (Weak.lit (by simp only [go_sem, seval, ae_, ad_, hp, a5_, ai_, hll, an_, leV, al_, am_, V.inn, us, true_or, or_true] <;> (rw [bc_ (by simp at h12; omega) (by simp at h12; omega)]; simp)) (by simp only [go_sem, seval, ae_, ad_, hp, a5_, ai_, hll, an_, leV, al_, am_, V.inn, us, true_or, or_true]) (by simp only [go_sem, seval, ae_, ad_, hp, a5_, ai_, hll, an_, leV, al_, am_, V.inn, us, true_or, or_true] <;> ((rw [← gw_ (by rw [hll]; simpa using h12), ady_ (by simpa using h12)]))))
 ·refine .exit (.seq (.rgn [] (by simp only [go_sem, seval, ae_, ad_, hp, a5_, ai_, hll]; rfl) ?_ ?_))
  ·(first | trivial | (simp; done) | (simp at h12; simp; omega))
  refine .frz 18 (by simp only [go_sem, seval, ae_, ad_, hp, a5_, ai_, hll]; rfl) (by simp only [go_sem, seval, ae_, ad_, hp, a5_, ai_, hll]) (by simp only [go_sem, seval, ae_, ad_, hp, a5_, ai_, hll]; rfl) (by simp only [go_sem, seval, ae_, ad_, hp, a5_, ai_, hll]; rfl) ?_
  refine .ret ⟨.inr rfl, ?_⟩
  exact Out.plain (by simp only [Tryz.results147]; rfl) (by simp only [aq_, a8_, go_sem, seval, ae_, ad_, hp, a5_, ai_, hll] <;> (split <;> rfl)) (by simp only [a7_, go_sem, seval, ae_, ad_, hp, a5_, ai_, hll] <;> (simp at h12; rw [gu_ (by omega)]; simp [← hll, List.take_of_length_le, peel])) (by simp only [go_sem, seval, ae_, ad_, hp, a5_, ai_, hll])
def bC (b : Bl) : List V := .i .i64 b.kind :: .s b.name :: (eC b.expr ++ eC b.thn)
theorem bf_ (b : Bl) : bC b = [.i .i64 b.kind, .s b.name, .i .i64 b.expr.kind, .i .i64 b.expr.n, .s b.expr.s, .sl false (eR b.expr.kids), .i .i64 b.thn.kind, .i .i64 b.thn.n, .s b.thn.s, .sl false (eR b.thn.kids)] := by
 simp only [bC, a3_]; rfl
def smb (b : Bl) : Bool := decide (b.name.length < 4611686018427387904) && sm b.expr && sm b.thn
theorem aat_ {b : Bl} (h : smb b = true) : b.name.length < 4611686018427387904 ∧ sm b.expr = true ∧ sm b.thn = true := by
 simp only [smb, Bool.and_eq_true, decide_eq_true_eq] at h; exact ⟨h.1.1, h.1.2, h.2⟩
def ei_ (b : Bl) : Wd :=
 if b.kind = 1 then (b.name, 101) :: (wEq, 102) :: src b.expr 0 0
 else if b.kind = 2 then (ey_, 103) :: src b.expr 0 0
 else if b.kind = 3 then ((wIf, 100) :: src b.expr 0 0 ++ [(g7_, -1), (ey_, 103)]) ++ src b.thn 0 (cnt b.expr)
 else []
theorem q6_ {b : Bl} (h : jn_ b = true) : (b.kind = 0 ∨ b.kind = 1 ∨ b.kind = 2 ∨ b.kind = 3) ∧ (b.kind = 1 ∨ b.kind = 2 ∨ b.kind = 3 → eok b.expr = true) ∧ (b.kind = 3 → eok b.thn = true) := by
 unfold jn_ at h
 by_cases k0 : b.kind = 0
 ·simp [k0]
 by_cases k1 : b.kind = 1
 ·simp [k1] at h; simp [k1]; exact gb_ h.1.2
 by_cases k2 : b.kind = 2
 ·simp [k2] at h; simp [k2]; exact gb_ h.1.2
 by_cases k3 : b.kind = 3
 ·simp [k3] at h; simp [k3]; exact ⟨gb_ h.1.2, gb_ h.2⟩
 ·simp [k0, k1, k2, k3] at h
theorem xg_ {b : Bl} (h : jn_ b = true) : (ei_ b).map (·.1) = bw b := by
 obtain ⟨h0, h1, h2⟩ := q6_ h
 unfold ei_ bw
 rcases h0 with k | k | k | k
 ·simp [k]
 ·simp [k, ej_, ev_ (bk_ (h1 (.inl k)))]
 ·simp [k, ej_, ev_ (bk_ (h1 (.inr (.inl k))))]
 ·simp [k, ej_, ev_ (bk_ (h1 (.inr (.inr k)))), ev_ (bk_ (h2 k))]
theorem hj_ {e : E} (h : eok e = true) : many e ((5 : Nat) : Int) ≤ 1000 := by have := h3_ h; show many e 5 ≤ 1000; omega
theorem ju_ {e : E} (h : eok e = true) : 1 ≤ cnt e ∧ cnt e ≤ 12 := by have := (db_ 5 e 0 (bk_ h)).2.2.2; have h2 := h3_ h; have h3 : many e ((5 : Nat) : Int) = many e 5 := rfl; omega
theorem gd_ {e : E} (h : eok e = true) (must nx : Int) : (src e must nx).length ≤ 36 := by rw [if_]; exact (cn_ h must).2.1
theorem e1_ (l : Wd) : wdR l = [] ↔ l = [] := by cases l <;> simp [wdR]
theorem sq_ (b : Bl) (h : jn_ b = true) (hs : smb b = true) : ACall En 93 [.ag (bC b)] [] [.sl false (wdR (ei_ b))] [] := by
 obtain ⟨h0, h1, h2⟩ := q6_ h
 obtain ⟨s1, s2, s3⟩ := aat_ hs
 have W : b.kind = 1 ∨ b.kind = 2 ∨ b.kind = 3 → _ := fun hk => k0_ 5 b.expr 0 0 (bk_ (h1 hk)) s2 (hj_ (h1 hk)) (by decide) (by have := ju_ (h1 hk); omega) (by decide)
 have W3 : b.kind = 3 → _ := fun hk => k0_ 5 b.thn 0 (0 + cnt b.expr) (bk_ (h2 hk)) s3 (hj_ (h2 hk)) (by have := ju_ (h1 (.inr (.inr hk))); omega) (by have := ju_ (h1 (.inr (.inr hk))); have := ju_ (h2 hk); omega) (by decide)
 refine ah_ (fn := Tryz.f93) [] Tryz.func93 rfl rfl (by simp) fun C => ?_
 rw [ar_]
 simp only [Tryz.ntmps93, List.length_cons, List.length_nil, Nat.reduceAdd, Nat.reduceSub, List.replicate_succ, List.replicate_zero, List.cons_append, List.nil_append, bd_]
 refine .seq (.rgn [] (by simp only [go_sem, seval, ae_, ad_, List.length_append, List.take_of_length_le, bf_]; rfl) ?_ ?_)
 ·(first | trivial | (simp; done) | (simp [cc_, List.forall_mem_append, a9_]; done))
 refine .seq (.rgn [] (by simp only [go_sem, seval, ae_, ad_, List.length_append, List.take_of_length_le, bf_]; rfl) ?_ ?_)
 ·(first | trivial | (simp; done) | (simp [cc_, List.forall_mem_append, a9_]; done))
 refine .seq (.seq (.rgn [] (by simp only [go_sem, seval, ae_, ad_, List.length_append, List.take_of_length_le, bf_]; rfl) ?_ ?_))
 ·(first | trivial | (simp; done) | (simp [cc_, List.forall_mem_append, a9_]; done))
 refine .block (.seq (.rgn [] (by simp only [go_sem, seval, ae_, ad_, List.length_append, List.take_of_length_le, bf_]; rfl) ?_ ?_))
 ·(first | trivial | (simp; done) | (simp [cc_, List.forall_mem_append, a9_]; done))
 refine .condB (by simp only [go_sem, seval, ae_, ad_, List.length_append, List.take_of_length_le, bf_]; rfl) (by simp only [go_sem, seval, ae_, ad_, List.length_append, List.take_of_length_le, bf_]) (fun h7 => ?_) (fun h7 => ?_)
 ·refine .seq (.rgnD [cz_ [13] [26] (W (.inl (by simpa using h7)))] enM (by simp only [go_sem, seval, ae_, ad_, List.length_append, List.take_of_length_le, bf_, as_, ay_]; rfl) (by rfl) ?_ ?_)
  ·have q := h1 (.inl (by simpa using h7)); have q2 := (gd_ q 0 0); have q3 : src b.expr 0 0 ≠ [] := (fun e => by have := (cn_ q 0).1; rw [← if_ b.expr 0 0, e] at this; simp at this); simp [cc_, a9_, q3, e1_]; omega
  refine .frz 27 (by simp only [go_sem, seval, ae_, ad_, List.length_append, List.take_of_length_le, bf_]; rfl) (by simp only [go_sem, seval, ae_, ad_, List.length_append, List.take_of_length_le, bf_]) (by simp only [go_sem, seval, ae_, ad_, List.length_append, List.take_of_length_le, bf_]; rfl) (by simp only [go_sem, seval, ae_, ad_, List.length_append, List.take_of_length_le, bf_]; rfl) ?_
  refine .ret ⟨.inr rfl, ?_⟩
  exact Out.plain (by simp only [Tryz.results93]; rfl) (by simp only [aq_, a8_, go_sem, seval, ae_, ad_, List.length_append, List.take_of_length_le, bf_] <;> (split <;> rfl)) (by simp only [a7_, go_sem, seval, ae_, ad_, List.length_append, List.take_of_length_le, bf_] <;> (have k : b.kind = 1 := (by simpa using h7); rw [if_pos (by omega), List.take_of_length_le (by simp [ae_]; omega)]; simp [ei_, k, wdR, peel, wEq])) (by simp only [go_sem, seval, ae_, ad_, List.length_append, List.take_of_length_le, bf_])
 ·refine .seq (.rgn [] (by simp only [go_sem, seval, ae_, ad_, List.length_append, List.take_of_length_le, bf_]; rfl) ?_ ?_)
  ·(first | trivial | (simp; done) | (simp [cc_, List.forall_mem_append, a9_]; done))
  refine .condB (by simp only [go_sem, seval, ae_, ad_, List.length_append, List.take_of_length_le, bf_]; rfl) (by simp only [go_sem, seval, ae_, ad_, List.length_append, List.take_of_length_le, bf_]) (fun h18 => ?_) (fun h18 => ?_)
  ·refine .seq (.rgn [cz_ [13] [34] (W (.inr (.inl (by simpa using h18))))] (by simp only [go_sem, seval, ae_, ad_, List.length_append, List.take_of_length_le, bf_, as_, ay_]; rfl) ?_ ?_)
   ·have q := h1 (.inr (.inl (by simpa using h18))); have q2 := (gd_ q 0 0); have q3 : src b.expr 0 0 ≠ [] := (fun e => by have := (cn_ q 0).1; rw [← if_ b.expr 0 0, e] at this; simp at this); simp [cc_, a9_, q3, e1_]; omega
   refine .frz 35 (by simp only [go_sem, seval, ae_, ad_, List.length_append, List.take_of_length_le, bf_]; rfl) (by simp only [go_sem, seval, ae_, ad_, List.length_append, List.take_of_length_le, bf_]) (by simp only [go_sem, seval, ae_, ad_, List.length_append, List.take_of_length_le, bf_]; rfl) (by simp only [go_sem, seval, ae_, ad_, List.length_append, List.take_of_length_le, bf_]; rfl) ?_
   refine .ret ⟨.inr rfl, ?_⟩
   exact Out.plain (by simp only [Tryz.results93]; rfl) (by simp only [aq_, a8_, go_sem, seval, ae_, ad_, List.length_append, List.take_of_length_le, bf_] <;> (split <;> rfl)) (by simp only [a7_, go_sem, seval, ae_, ad_, List.length_append, List.take_of_length_le, bf_] <;> (have k : b.kind = 2 := (by simpa using h18); rw [if_pos (by omega), List.take_of_length_le (by simp [ae_]; omega)]; simp [ei_, k, wdR, peel, ey_])) (by simp only [go_sem, seval, ae_, ad_, List.length_append, List.take_of_length_le, bf_])
  ·refine .seq (.rgn [] (by simp only [go_sem, seval, ae_, ad_, List.length_append, List.take_of_length_le, bf_]; rfl) ?_ ?_)
   ·(first | trivial | (simp; done) | (simp [cc_, List.forall_mem_append, a9_]; done))
   refine .condB (by simp only [go_sem, seval, ae_, ad_, List.length_append, List.take_of_length_le, bf_]; rfl) (by simp only [go_sem, seval, ae_, ad_, List.length_append, List.take_of_length_le, bf_]) (fun h26 => ?_) (fun h26 => ?_)
   ·refine .seq (.rgn [cz_ [13] [42] (W (.inr (.inr (by simpa using h26))))] (by simp only [go_sem, seval, ae_, ad_, List.length_append, List.take_of_length_le, bf_, as_, ay_]; rfl) ?_ ?_)
    ·have q := h1 (.inr (.inr (by simpa using h26))); have q2 := (gd_ q 0 0); have q3 : src b.expr 0 0 ≠ [] := (fun e => by have := (cn_ q 0).1; rw [← if_ b.expr 0 0, e] at this; simp at this); simp [cc_, a9_, q3, e1_]; omega
    refine .seq (.rgn [] (by simp only [go_sem, seval, ae_, ad_, List.length_append, List.take_of_length_le, bf_]; rfl) ?_ ?_)
    ·have q := h1 (.inr (.inr (by simpa using h26))); have q2 := (gd_ q 0 0); simp [cc_, a9_]; omega
    refine .seq (.rgn [cz_ [13] [52] (W3 (by simpa using h26))] (by simp only [go_sem, seval, ae_, ad_, List.length_append, List.take_of_length_le, bf_, as_, ay_]; rfl) ?_ ?_)
    ·have q := h1 (.inr (.inr (by simpa using h26))); have q2 := (gd_ q 0 0); have q4 := gd_ (h2 (by simpa using h26)) 0 (0 + cnt b.expr); simp at q4; simp [cc_, a9_]; omega
    refine .frz 53 (by simp only [go_sem, seval, ae_, ad_, List.length_append, List.take_of_length_le, bf_]; rfl) (by simp only [go_sem, seval, ae_, ad_, List.length_append, List.take_of_length_le, bf_]) (by simp only [go_sem, seval, ae_, ad_, List.length_append, List.take_of_length_le, bf_]; rfl) (by simp only [go_sem, seval, ae_, ad_, List.length_append, List.take_of_length_le, bf_]; rfl) ?_
    refine .ret ⟨.inr rfl, ?_⟩
    exact Out.plain (by simp only [Tryz.results93]; rfl) (by simp only [aq_, a8_, go_sem, seval, ae_, ad_, List.length_append, List.take_of_length_le, bf_] <;> (split <;> rfl)) (by simp only [a7_, go_sem, seval, ae_, ad_, List.length_append, List.take_of_length_le, bf_] <;> (have k : b.kind = 3 := (by simpa using h26); rw [if_pos (by omega), List.take_of_length_le (by simp [ae_]; omega)]; simp [ei_, k, wdR, peel, ey_, wIf, g7_])) (by simp only [go_sem, seval, ae_, ad_, List.length_append, List.take_of_length_le, bf_])
   ·refine .skip (.seq (.rgn [] (by simp only [go_sem, seval, ae_, ad_, List.length_append, List.take_of_length_le, bf_]; rfl) ?_ ?_))
    ·(first | trivial | (simp; done) | (simp [cc_, List.forall_mem_append, a9_]; done))
    refine .can (Can.slotLe 2 (.sl false []) (by simp only [go_sem, seval, ae_, ad_, List.length_append, List.take_of_length_le, bf_] <;> trivial) (by simp only [go_sem, seval, ae_, ad_, List.length_append, List.take_of_length_le, bf_] <;> rfl)) ?_
    refine .ret ⟨.inr rfl, ?_⟩
    exact Out.plain (by simp only [Tryz.results93]; rfl) (by simp only [aq_, a8_, go_sem, seval, ae_, ad_, List.length_append, List.take_of_length_le, bf_] <;> (split <;> rfl)) (by simp only [a7_, go_sem, seval, ae_, ad_, List.length_append, List.take_of_length_le, bf_] <;> (have k : b.kind = 0 := (by simp_all); simp [ei_, k, wdR])) (by simp only [go_sem, seval, ae_, ad_, List.length_append, List.take_of_length_le, bf_])
end
section
set_option maxRecDepth 100000
set_option maxHeartbeats 4000000
theorem xo_ {b : Bl} (h : jn_ b = true) : (bv_ (bw b)).length ≤ 1000 := by
 have := oh_ h
 have h2 := pe_ (fun s hs => (this.2 s hs).2)
 omega
theorem aey_ (b : Bl) (h : jn_ b = true) (hs : smb b = true) : ACall En 94 [.ag (bC b)] [] [.s (bv_ (bw b))] [] := by
 have h1 := xo_ h
 have h2 := (oh_ h).1
 have h3 := xg_ h
 have h4 : (ei_ b).length = (bw b).length := by rw [← h3, List.length_map]
 refine ah_ (fn := Tryz.f94) [] Tryz.func94 rfl rfl (by simp) fun C => ?_
 rw [ar_]
 simp only [Tryz.ntmps94, List.length_cons, List.length_nil, Nat.reduceAdd, Nat.reduceSub, List.replicate_succ, List.replicate_zero, List.cons_append, List.nil_append, bd_]
 refine .seq (.rgn [] (by simp only [go_sem, seval, bf_, ad_, h3]; rfl) ?_ ?_)
 ·simp
 refine .seq (.rgn [a2_ (sq_ b h hs), a2_ (iv_ (ei_ b) (by omega)), a2_ (kt_ (bw b) (by omega) (by omega))] (by simp only [go_sem, seval, bf_, ad_, h3]; rfl) ?_ ?_)
 ·simp
 refine .ret ⟨.inr rfl, ?_⟩
 exact Out.plain (by simp only [Tryz.results94]; rfl) (by simp only [aq_, a8_, go_sem, seval, bf_, ad_, h3] <;> (split <;> rfl)) (by simp only [a7_, go_sem, seval, bf_, ad_, h3] <;> (rfl)) (by simp only [go_sem, seval, bf_, ad_, h3])
theorem lm_ (a b : Nat) : decide (a ≤ b) = decide ((a : Int) ≤ (b : Int)) := decide_eq_decide.2 (by omega)
end
section
set_option maxRecDepth 100000
set_option maxHeartbeats 4000000
def lvl (e : E) : Int := if e.kind = 3 then (if e.s = [60] then 1 else if e.s = [42] then 3 else 2) else 4
theorem pf_ {e : E} (k : e.kind = 3) (h : fp_ e.s = true) : lvl e = a4_ e.s := by
 simp only [fp_, Bool.or_eq_true, beq_iff_eq] at h
 unfold lvl
 rw [if_pos k]
 rcases h with ((h | h) | h) | h <;> rw [h] <;> decide
theorem lr_ (e : E) : ACall En 169 [.ag (eC e)] [] [.i .i64 (lvl e)] [] := by
 refine ah_ (fn := Tryz.f169) [] Tryz.func169 rfl rfl (by simp) fun C => ?_
 rw [ar_]
 simp only [Tryz.ntmps169, List.length_cons, List.length_nil, Nat.reduceAdd, Nat.reduceSub, List.replicate_succ, List.replicate_zero, List.cons_append, List.nil_append, bd_]
 refine .seq (.rgn [] (by simp only [go_sem, seval]; rfl) ?_ ?_)
 ·first | trivial | simp
 refine .seq (.seq (.rgn [] (by simp only [go_sem, seval]; rfl) ?_ ?_))
 ·first | trivial | simp
 refine .condB (by simp only [go_sem, seval]; rfl) (by simp only [go_sem, seval]) (fun h5 => ?_) (fun h5 => ?_)
 ·refine .seq (.rgn [] (by simp only [go_sem, seval]; rfl) ?_ ?_)
  ·first | trivial | simp
  refine .ret ⟨.inr rfl, ?_⟩
  exact Out.plain (by simp only [Tryz.results169]; rfl) (by simp only [aq_, a8_, go_sem, seval] <;> (split <;> rfl)) (by simp only [a7_, go_sem, seval] <;> (simp at h5; simp [lvl, h5])) (by simp only [go_sem, seval])
 ·refine .skip (.seq (.seq (.rgn [] (by simp only [go_sem, seval]; rfl) ?_ ?_)))
  ·first | trivial | simp
  refine .block (.seq (.rgn [] (by simp only [go_sem, seval]; rfl) ?_ ?_))
  ·first | trivial | simp
  refine .condB (by simp only [go_sem, seval]; rfl) (by simp only [go_sem, seval]) (fun h8 => ?_) (fun h8 => ?_)
  ·refine .seq (.rgn [] (by simp only [go_sem, seval]; rfl) ?_ ?_)
   ·first | trivial | simp
   refine .ret ⟨.inr rfl, ?_⟩
   exact Out.plain (by simp only [Tryz.results169]; rfl) (by simp only [aq_, a8_, go_sem, seval] <;> (split <;> rfl)) (by simp only [a7_, go_sem, seval] <;> (simp at h5 h8; simp [lvl, h5, h8])) (by simp only [go_sem, seval])
  ·refine .seq (.rgn [] (by simp only [go_sem, seval]; rfl) ?_ ?_)
   ·first | trivial | simp
   refine .condB (by simp only [go_sem, seval]; rfl) (by simp only [go_sem, seval]) (fun h10 => ?_) (fun h10 => ?_)
   ·refine .seq (.rgn [] (by simp only [go_sem, seval]; rfl) ?_ ?_)
    ·first | trivial | simp
    refine .ret ⟨.inr rfl, ?_⟩
    exact Out.plain (by simp only [Tryz.results169]; rfl) (by simp only [aq_, a8_, go_sem, seval] <;> (split <;> rfl)) (by simp only [a7_, go_sem, seval] <;> (simp at h5 h8 h10; simp [lvl, h5, h10])) (by simp only [go_sem, seval])
   ·refine .skip (.seq (.rgn [] (by simp only [go_sem, seval]; rfl) ?_ ?_))
    ·first | trivial | simp
    refine .ret ⟨.inr rfl, ?_⟩
    exact Out.plain (by simp only [Tryz.results169]; rfl) (by simp only [aq_, a8_, go_sem, seval] <;> (split <;> rfl)) (by simp only [a7_, go_sem, seval] <;> (simp at h5 h8 h10; simp [lvl, h5, h8, h10])) (by simp only [go_sem, seval])
theorem abx_ {n : Nat} (h : 9 < n) (o : Str) : Lib.decDigits n ++ o = Lib.decDigits (n / 10) ++ (UInt8.ofNat (48 + n % 10) :: o) := by
 rw [do_ (by omega)]; simp
theorem agq_ {n : Int} (h1 : 0 ≤ n) (h2 : n < 256) : IntKind.u8.wrap n = n := by
 simp only [IntKind.wrap, IntKind.signed, IntKind.bits]; simp; omega
theorem es_ (n : Nat) : (Lib.decDigits n).length ≤ n + 1 := by
 induction n using Nat.strongRecOn with
 | ind n ih =>
  by_cases h : n < 10
  ·rw [Lib.decDigits_one h]; simp
  ·rw [do_ h]
   have := ih (n / 10) (by omega)
   simp; omega
theorem qc_ (n : Nat) (hn : n < 4611686018427387904) : ACall En 170 [.i .i64 n] [] [.s (Lib.decDigits n)] [] := by
 refine ah_ (fn := Tryz.f170) [] Tryz.func170 rfl rfl (by simp) fun C => ?_
 rw [ar_]
 simp only [Tryz.ntmps170, List.length_cons, List.length_nil, Nat.reduceAdd, Nat.reduceSub, List.replicate_succ, List.replicate_zero, List.cons_append, List.nil_append, bd_]
 refine .seq (.rgn [] (by simp only [go_sem, seval]; rfl) ?_ ?_)
 ·(first | trivial | (simp; done) | (have q := es_ n; rw [hI.2] at q; simp at q; simp; omega))
 refine .seq (.seq (.rgn [] (by simp only [go_sem, seval]; rfl) ?_ ?_))
 ·(first | trivial | (simp; done) | (have q := es_ n; rw [hI.2] at q; simp at q; simp; omega))
 refine .condB (by simp only [go_sem, seval]; rfl) (by simp only [go_sem, seval]) (fun h5 => ?_) (fun h5 => ?_)
 ·simp at h5; omega
 ·refine .skip (.seq (.seq (.rgn [] (by simp only [go_sem, seval]; rfl) ?_ ?_)))
  ·(first | trivial | (simp; done) | (have q := es_ n; rw [hI.2] at q; simp at q; simp; omega))
  refine .condB (by simp only [go_sem, seval]; rfl) (by simp only [go_sem, seval]) (fun h7 => ?_) (fun h7 => ?_)
  ·simp at h7; omega
  ·refine .skip (.seq (.rgn [] (by simp only [go_sem, seval]; rfl) ?_ ?_))
   ·(first | trivial | (simp; done) | (have q := es_ n; rw [hI.2] at q; simp at q; simp; omega))
   refine .seq (.block (.loopK (fun k : Nat × Str => ⟨[.i .i64 k.1, .no, .no, .s k.2, .no, .no, .no, .no, .no, .no, .no, .no, .no, .no, .no, .no, .no, .no, .no, .no, .no, .no, .no, .no, .no, .no, .no, .no, .no, .no, .no], aw_ [], us []⟩) (fun k : Nat × Str => k.1 ≤ n ∧ Lib.decDigits n = Lib.decDigits k.1 ++ k.2) (fun k : Nat × Str => k.1) ((n, [])) ?_ ?_ (fun k hI => ?_)))
   ·simp
   ·exact Can.weak (Weak.lit (by simp only [go_sem, seval, an_, leV, al_, am_, V.inn, us, true_or, or_true] <;> (simp)) (by simp only [go_sem, seval, an_, leV, al_, am_, V.inn, us, true_or, or_true]) (by simp only [go_sem, seval, an_, leV, al_, am_, V.inn, us, true_or, or_true]))
   refine .seq (.seq (.rgn [] (by simp only [go_sem, seval]; rfl) ?_ ?_))
   ·(first | trivial | (simp; done) | (have q := es_ n; rw [hI.2] at q; simp at q; simp; omega))
   refine .condB (by simp only [go_sem, seval]; rfl) (by simp only [go_sem, seval]) (fun h13 => ?_) (fun h13 => ?_)
   ·refine .skip (.block (.seq (.rgnS [19] [cvO En] (by simp only [go_sem, seval]; rfl) ?_ ?_)))
    ·(first | trivial | (simp; done) | (have q := es_ n; rw [hI.2] at q; simp at q; simp; omega))
    refine .rgn [] (by simp only [go_sem, seval]; rfl) ?_ ?_
    ·(first | trivial | (simp; done) | (have q := es_ n; rw [hI.2] at q; simp at q; simp; omega))
    refine Exists.intro ((k.1 / 10, UInt8.ofNat (48 + k.1 % 10) :: k.2)) ⟨?_, ?_, ?_⟩
    ·simp at h13; refine ⟨by dsimp only; omega, ?_⟩; rw [hI.2]; exact abx_ (by omega) _
    ·simp at h13; simp; omega
    exact Can.weak (Weak.lit (by simp only [go_sem, seval, an_, leV, al_, am_, V.inn, us, true_or, or_true] <;> (simp at h13; rw [Int.tdiv_eq_ediv_of_nonneg (by omega), Int.tmod_eq_emod_of_nonneg (by omega), bc_ (by omega) (by omega), bc_ (by omega) (by omega), agq_ (by omega) (by omega)]; refine ⟨by omega, ?_⟩; rw [show (48 + (k.1 : Int) % 10).toNat = 48 + k.1 % 10 by omega])) (by simp only [go_sem, seval, an_, leV, al_, am_, V.inn, us, true_or, or_true]) (by simp only [go_sem, seval, an_, leV, al_, am_, V.inn, us, true_or, or_true]))
   ·refine .exit (.seq (.rgnS [28] [cvO En] (by simp only [go_sem, seval]; rfl) ?_ ?_))
    ·(first | trivial | (simp; done) | (have q := es_ n; rw [hI.2] at q; simp at q; simp; omega))
    refine .ret ⟨.inr rfl, ?_⟩
    exact Out.plain (by simp only [Tryz.results170]; rfl) (by simp only [aq_, a8_, go_sem, seval] <;> (split <;> rfl)) (by simp only [a7_, go_sem, seval] <;> (simp at h13; rw [hI.2, bc_ (by omega) (by omega), agq_ (by omega) (by omega), Lib.decDigits_one (by omega), show (48 + (k.1 : Int)).toNat = 48 + k.1 by omega]; rfl)) (by simp only [go_sem, seval])
theorem acc_ {n : Int} (h : n < 0) : Lib.itoa n = 45 :: Lib.decDigits (-n).toNat := by unfold Lib.itoa; rw [if_pos h, show n.natAbs = (-n).toNat by omega]
theorem t3_ (n : Int) (h1 : -4611686018427387904 < n) (h2 : n < 4611686018427387904) : ACall En 170 [.i .i64 n] [] [.s (Lib.itoa n)] [] := by
 by_cases h : 0 ≤ n
 ·obtain ⟨m, rfl⟩ := Int.eq_ofNat_of_zero_le h
  rw [e6_ h]
  exact qc_ m (by omega)
 have hm : ((-n).toNat : Int) = -n := by omega
 have A := qc_ (-n).toNat (by omega)
 rw [hm] at A
 have q := es_ (-n).toNat
 refine ah_ (fn := Tryz.f170) [] Tryz.func170 rfl rfl (by simp) fun C => ?_
 rw [ar_]
 simp only [Tryz.ntmps170, List.length_cons, List.length_nil, Nat.reduceAdd, Nat.reduceSub, List.replicate_succ, List.replicate_zero, List.cons_append, List.nil_append, bd_]
 refine .seq (.rgn [] (by simp only [go_sem, seval]; rfl) ?_ ?_)
 ·(first | trivial | (simp; done) | (rw [Int.zero_sub, bc_ (by omega) (by omega)]; omega))
 refine .seq (.seq (.rgn [] (by simp only [go_sem, seval]; rfl) ?_ ?_))
 ·(first | trivial | (simp; done) | (rw [Int.zero_sub, bc_ (by omega) (by omega)]; omega))
 refine .condB (by simp only [go_sem, seval]; rfl) (by simp only [go_sem, seval]) (fun h5 => ?_) (fun h5 => ?_)
 ·simp at h5; omega
 ·refine .skip (.seq (.seq (.rgn [] (by simp only [go_sem, seval]; rfl) ?_ ?_)))
  ·(first | trivial | (simp; done) | (rw [Int.zero_sub, bc_ (by omega) (by omega)]; omega))
  refine .condB (by simp only [go_sem, seval]; rfl) (by simp only [go_sem, seval]) (fun h7 => ?_) (fun h7 => ?_)
  ·refine .seq (.rgn [a2_ A] (by simp only [go_sem, seval, bc_ (show -9223372036854775808 ≤ -n by omega) (by omega)]; rfl) ?_ ?_)
   ·(first | trivial | (simp; done) | (rw [Int.zero_sub, bc_ (by omega) (by omega)]; omega))
   refine .ret ⟨.inr rfl, ?_⟩
   exact Out.plain (by simp only [Tryz.results170]; rfl) (by simp only [aq_, a8_, go_sem, seval] <;> (split <;> rfl)) (by simp only [a7_, go_sem, seval] <;> (rw [acc_ (by omega)])) (by simp only [go_sem, seval])
  ·simp at h7; omega
end
section
set_option maxRecDepth 100000
set_option maxHeartbeats 1000000
theorem nv_ (a b : List Str) : bm_ (a ++ b) = bm_ a ++ bm_ b := by simp [bm_]
theorem a6_ (l : List Str) : (∀ r, r ∈ bm_ l → r.length = 1) = True := eq_true fun r hr => oy_ hr
theorem jg_ (l : List Str) : bm_ l = [] ↔ l = [] := by cases l <;> simp [bm_]
theorem te_ {e : E} {d : Int} (h : form e d = true) (must : Int) : wds e must = if e.kind = 3 ∧ a4_ e.s < must then [40] :: (wds e 0 ++ [[41]]) else wds e 0 := by
 have := wx_ h must 0
 unfold wds
 rw [this, ne_]
 by_cases h1 : e.kind = 3 <;> by_cases h2 : a4_ e.s < must <;> simp [h1, h2]
theorem ni_ {e : E} {d : Nat} (h : form e d = true) (hm : many e d ≤ 1000) (must : Int) : (wds e must).length ≤ 3000 := by
 have := db_ d e must h; omega
theorem ss_ {e : E} {d : Int} (h : form e d = true) (must : Int) (hm : must ≤ 4) : (lvl e < must) = (e.kind = 3 ∧ a4_ e.s < must) := by
 rcases (bb_ h).2 with ⟨k1, _⟩ | ⟨k1, _⟩ | ⟨k1, h1, h2, h3, h4, h5⟩ | ⟨k1, _⟩
 ·simp [lvl, k1]; omega
 ·simp [lvl, k1]; omega
 ·rw [pf_ k1 h2]; simp [k1]
 ·simp [lvl, k1]; omega
theorem ht_ (d : Nat) : ∀ (e : E) (t : Int), form e d = true → sm e = true → many e d ≤ 1000 → t ≤ 4 → -1000 ≤ t → ACall En 112 [.ag (eC e), .i .i64 t] [] [.sl false (bm_ (wds e t))] [] := by
 induction d with
 | zero => intro e t h; have := (bb_ h).1; omega
 | succ d ih =>
 intro e t h hs hm ht ht2
 obtain ⟨a1, a2, a3⟩ := fn_ hs
 have e1 : ((d + 1 : Nat) : Int) - 1 = (d : Int) := by omega
 have hd1 : (1 : Int) ≤ ((d + 1 : Nat) : Int) := by omega
 have g1 : e.kind = 1 → 0 ≤ e.n ∧ e.n ≤ 1000000 := fun hk => by
  rcases (bb_ h).2 with ⟨k1, h1, h2, h3, h4⟩ | ⟨k1, h1, h2, h3⟩ | ⟨k1, _⟩ | ⟨k1, _⟩ <;> omega
 have g3 : e.kind = 3 → e.kids.length = 2 ∧ 1 ≤ a4_ e.s ∧ a4_ e.s ≤ 3 ∧ form (e.kids.getD 0 E0) d = true ∧ form (e.kids.getD 1 E0) d = true ∧ many (e.kids.getD 0 E0) d ≤ 1000 ∧ many (e.kids.getD 1 E0) d ≤ 1000 ∧ lvl e = a4_ e.s := fun hk => by
  rcases (bb_ h).2 with ⟨k1, _⟩ | ⟨k1, _⟩ | ⟨k1, h1, h2, h3, h4, h5⟩ | ⟨k1, _⟩ <;> try omega
  rw [e1] at h4 h5
  have := cp_ h2
  have hm2 := hy_ hd1 h3
  rw [e1] at hm2
  have q1 := db_ d _ 0 h4
  have q2 := db_ d _ 0 h5
  exact ⟨h3, this.1, this.2, h4, h5, by omega, by omega, pf_ k1 h2⟩
 have g4 : e.kind = 4 → e.kids.length = 1 ∧ form (e.kids.getD 0 E0) d = true ∧ many (e.kids.getD 0 E0) d ≤ 1000 := fun hk => by
  rcases (bb_ h).2 with ⟨k1, _⟩ | ⟨k1, _⟩ | ⟨k1, _⟩ | ⟨k1, h1, h2, h3, h4⟩ <;> try omega
  rw [e1] at h4
  have hm2 := ir_ hd1 h3
  rw [e1] at hm2
  have q1 := db_ d _ 0 h4
  exact ⟨h3, h4, by omega⟩
 have g0 : e.kind = 1 ∨ e.kind = 2 ∨ e.kind = 3 ∨ e.kind = 4 := by
  rcases (bb_ h).2 with ⟨k1, _⟩ | ⟨k1, _⟩ | ⟨k1, _⟩ | ⟨k1, _⟩ <;> omega
 have hT : e.kind = 3 → wds e 0 = wds (e.kids.getD 0 E0) (if lvl e = 1 then 2 else lvl e) ++ [e.s] ++ wds (e.kids.getD 1 E0) (lvl e + 1) := fun hk => by
  have q := g3 hk
  rw [d8_ hk q.1, if_neg (by omega), q.2.2.2.2.2.2.2, show max 2 (a4_ e.s) = if a4_ e.s = 1 then 2 else a4_ e.s by split <;> omega]
 have hL : ∀ k, k < e.kids.length → ∀ m, (wds (e.kids.getD k E0) m).length ≤ 3000 := fun k hk m => by
  rcases g0 with hk4 | hk4 | hk4 | hk4
  ·rcases (bb_ h).2 with ⟨k1, h1, h2, h3, h4⟩ | ⟨k1, _⟩ | ⟨k1, _⟩ | ⟨k1, _⟩ <;> try omega
   rw [h4] at hk; simp at hk
  ·rcases (bb_ h).2 with ⟨k1, _⟩ | ⟨k1, h1, h2, h3⟩ | ⟨k1, _⟩ | ⟨k1, _⟩ <;> try omega
   rw [h3] at hk; simp at hk
  ·have := g3 hk4
   have hk2 : k = 0 ∨ k = 1 := by omega
   rcases hk2 with rfl | rfl
   ·exact ni_ this.2.2.2.1 this.2.2.2.2.2.1 _
   ·exact ni_ this.2.2.2.2.1 this.2.2.2.2.2.2.1 _
  ·have := g4 hk4
   have hk2 : k = 0 := by omega
   subst hk2
   exact ni_ this.2.1 this.2.2 _
 have hW := ni_ h hm
 have hA : e.kind = 4 → wds e 0 = wds (e.kids.getD 0 E0) 4 ++ [[97, 115], e.s] := fun hk => gt_ hk (g4 hk).1 0
 refine ah_ (fn := Tryz.f112) [] Tryz.func112 rfl rfl (by simp) fun C => ?_
 rw [ar_]
 simp only [Tryz.ntmps112, List.length_cons, List.length_nil, Nat.reduceAdd, Nat.reduceSub, List.replicate_succ, List.replicate_zero, List.cons_append, List.nil_append, bd_]
 refine .seq (.rgn [] (by simp only [go_sem, seval, ab_, aa_, List.length_append, List.take_of_length_le]; rfl) ?_ ?_)
 ·(first | trivial | (simp; done) | (simp [a6_]; done))
 refine .seq (.rgn [] (by simp only [go_sem, seval, ab_, aa_, List.length_append, List.take_of_length_le]; rfl) ?_ ?_)
 ·(first | trivial | (simp; done) | (simp [a6_]; done))
 refine .seq (.rgn [a2_ (lr_ e)] (by simp only [go_sem, seval, ab_, aa_, List.length_append, List.take_of_length_le]; rfl) ?_ ?_)
 ·(first | trivial | (simp; done) | (simp [a6_]; done))
 refine .seqJ (fun u : Unit => ⟨[.no, .i .i64 t, .no, .no, .no, .ow 150 1 0 (wds e 0).length, .i .i64 (lvl e), .no, .no, .no, .no, .no, .no, .no, .no, .no, .no, .no, .no, .no, .no, .no, .no, .no, .no, .no, .no, .no, .no, .no, .no, .no, .no, .no, .no, .no, .no, .no, .no, .no, .no, .no, .no, .no, .no, .no, .no, .no, .no, .no, .no, .no, .no, .no, .no, .no, .no, .no, .no, .no, .no, .no, .no, .no, .no, .no, .no, .no, .no, .no, .no, .no, .no], aw_ [(150, ⟨9, 1, bm_ (wds e 0)⟩)], us [150]⟩) (fun u : Unit => True) ?_ (fun u hJ => ?_)
 ·refine .seq (.rgn [] (by simp only [go_sem, seval, ab_, aa_, List.length_append, List.take_of_length_le]; rfl) ?_ ?_)
  ·(first | trivial | (simp; done) | (simp [a6_]; done))
  refine .block (.seq (.rgn [] (by simp only [go_sem, seval, ab_, aa_, List.length_append, List.take_of_length_le]; rfl) ?_ ?_))
  ·(first | trivial | (simp; done) | (simp [a6_]; done))
  refine .condB (by simp only [go_sem, seval, ab_, aa_, List.length_append, List.take_of_length_le]; rfl) (by simp only [go_sem, seval, ab_, aa_, List.length_append, List.take_of_length_le]) (fun h24 => ?_) (fun h24 => ?_)
  ·refine .rgn [a2_ (t3_ e.n (by have := g1 (by simpa using h24); omega) (by have := g1 (by simpa using h24); omega))] (by simp only [go_sem, seval, ab_, aa_, List.length_append, List.take_of_length_le]; rfl) ?_ ?_
   ·(first | trivial | (simp; done) | (simp [a6_]; done))
   refine Exists.intro (()) ⟨?_, ?_⟩
   ·trivial
   refine Can.trans (Can.swap 41 150 (by decide) (by decide) (by decide) (by decide) (by simp only [go_sem, seval, ab_, aa_, List.length_append, List.take_of_length_le, V.cl]) (by simp only [go_sem, seval, ab_, aa_, List.length_append, List.take_of_length_le, V.cl]) (by simp only [go_sem, seval, ab_, aa_, List.length_append, List.take_of_length_le, bn_, sw, swM, rnB] <;> rfl) (by simp only [go_sem, seval, ab_, aa_, List.length_append, List.take_of_length_le, bn_, sw, swM, rnB] <;> rfl) (by simp only [go_sem, seval, ab_, aa_, List.length_append, List.take_of_length_le, bn_, sw, swM, rnB] <;> rfl)) ?_
   exact Can.weak (Weak.lit (by simp only [go_sem, seval, ab_, aa_, List.length_append, List.take_of_length_le, an_, leV, al_, am_, V.inn, us, true_or, or_true] <;> (first | (rw [dv_ (by simpa using h24)]; rfl) | (rw [c9_ (by simpa using h32)]; rfl) | (rw [hT (by simpa using h39), ← hJ]; simp; omega) | (rw [hA (by simp_all)]; simp))) (by simp only [go_sem, seval, ab_, aa_, List.length_append, List.take_of_length_le, an_, leV, al_, am_, V.inn, us, true_or, or_true]) (by simp only [go_sem, seval, ab_, aa_, List.length_append, List.take_of_length_le, an_, leV, al_, am_, V.inn, us, true_or, or_true] <;> (first | (rw [dv_ (by simpa using h24), e6_ (by have := g1 (by simpa using h24); omega)]; rfl) | (rw [c9_ (by simpa using h32)]; rfl) | (rw [hT (by simpa using h39), ← hJ]; simp [bm_, ci_]; done) | (rw [hA (by simp_all)]; simp [bm_]))))
  ·refine .seq (.rgn [] (by simp only [go_sem, seval, ab_, aa_, List.length_append, List.take_of_length_le]; rfl) ?_ ?_)
   ·(first | trivial | (simp; done) | (simp [a6_]; done))
   refine .condB (by simp only [go_sem, seval, ab_, aa_, List.length_append, List.take_of_length_le]; rfl) (by simp only [go_sem, seval, ab_, aa_, List.length_append, List.take_of_length_le]) (fun h32 => ?_) (fun h32 => ?_)
   ·refine .rgn [] (by simp only [go_sem, seval, ab_, aa_, List.length_append, List.take_of_length_le]; rfl) ?_ ?_
    ·(first | trivial | (simp; done) | (simp [a6_]; done))
    refine Exists.intro (()) ⟨?_, ?_⟩
    ·trivial
    refine Can.trans (Can.swap 48 150 (by decide) (by decide) (by decide) (by decide) (by simp only [go_sem, seval, ab_, aa_, List.length_append, List.take_of_length_le, V.cl]) (by simp only [go_sem, seval, ab_, aa_, List.length_append, List.take_of_length_le, V.cl]) (by simp only [go_sem, seval, ab_, aa_, List.length_append, List.take_of_length_le, bn_, sw, swM, rnB] <;> rfl) (by simp only [go_sem, seval, ab_, aa_, List.length_append, List.take_of_length_le, bn_, sw, swM, rnB] <;> rfl) (by simp only [go_sem, seval, ab_, aa_, List.length_append, List.take_of_length_le, bn_, sw, swM, rnB] <;> rfl)) ?_
    exact Can.weak (Weak.lit (by simp only [go_sem, seval, ab_, aa_, List.length_append, List.take_of_length_le, an_, leV, al_, am_, V.inn, us, true_or, or_true] <;> (first | (rw [dv_ (by simpa using h24)]; rfl) | (rw [c9_ (by simpa using h32)]; rfl) | (rw [hT (by simpa using h39), ← hJ]; simp; omega) | (rw [hA (by simp_all)]; simp))) (by simp only [go_sem, seval, ab_, aa_, List.length_append, List.take_of_length_le, an_, leV, al_, am_, V.inn, us, true_or, or_true]) (by simp only [go_sem, seval, ab_, aa_, List.length_append, List.take_of_length_le, an_, leV, al_, am_, V.inn, us, true_or, or_true] <;> (first | (rw [dv_ (by simpa using h24), e6_ (by have := g1 (by simpa using h24); omega)]; rfl) | (rw [c9_ (by simpa using h32)]; rfl) | (rw [hT (by simpa using h39), ← hJ]; simp [bm_, ci_]; done) | (rw [hA (by simp_all)]; simp [bm_]))))
   ·refine .seq (.rgn [] (by simp only [go_sem, seval, ab_, aa_, List.length_append, List.take_of_length_le]; rfl) ?_ ?_)
    ·(first | trivial | (simp; done) | (simp [a6_]; done))
    refine .condB (by simp only [go_sem, seval, ab_, aa_, List.length_append, List.take_of_length_le]; rfl) (by simp only [go_sem, seval, ab_, aa_, List.length_append, List.take_of_length_le]) (fun h39 => ?_) (fun h39 => ?_)
    ·refine .seq (.rgn [] (by simp only [go_sem, seval, ab_, aa_, List.length_append, List.take_of_length_le]; rfl) ?_ ?_)
     ·(first | trivial | (simp; done) | (simp [a6_]; done))
     refine .seqJ (fun lf : Int => ⟨[.no, .i .i64 t, .pt 12 4 0 0, .no, .no, .sl true [], .i .i64 (lvl e), .i .i64 lf, .no, .no, .no, .no, .no, .no, .no, .no, .no, .no, .no, .no, .no, .no, .no, .no, .no, .no, .no, .no, .no, .no, .no, .no, .no, .no, .no, .no, .no, .no, .no, .no, .no, .no, .no, .no, .no, .no, .no, .no, .no, .no, .no, .no, .no, .no, .no, .no, .no, .no, .no, .no, .no, .no, .no, .no, .no, .no, .no, .no, .no, .no, .no, .no, .no], aw_ [(12, ⟨48, 4, [eC e]⟩)], us [12]⟩) (fun lf : Int => lf = if lvl e = 1 then 2 else lvl e) ?_ (fun lf hJ => ?_)
     ·refine .seq (.rgn [] (by simp only [go_sem, seval, ab_, aa_, List.length_append, List.take_of_length_le]; rfl) ?_ ?_)
      ·(first | trivial | (simp; done) | (simp [a6_]; done))
      refine .condB (by simp only [go_sem, seval, ab_, aa_, List.length_append, List.take_of_length_le]; rfl) (by simp only [go_sem, seval, ab_, aa_, List.length_append, List.take_of_length_le]) (fun h43 => ?_) (fun h43 => ?_)
      ·refine .rgn [] (by simp only [go_sem, seval, ab_, aa_, List.length_append, List.take_of_length_le]; rfl) ?_ ?_
       ·(first | trivial | (simp; done) | (simp [a6_]; done))
       refine Exists.intro (2) ⟨?_, ?_⟩
       ·simp_all
       exact Can.weak (Weak.lit (by simp only [go_sem, seval, ab_, aa_, List.length_append, List.take_of_length_le, an_, leV, al_, am_, V.inn, us, true_or, or_true] <;> (simp_all)) (by simp only [go_sem, seval, ab_, aa_, List.length_append, List.take_of_length_le, an_, leV, al_, am_, V.inn, us, true_or, or_true]) (by simp only [go_sem, seval, ab_, aa_, List.length_append, List.take_of_length_le, an_, leV, al_, am_, V.inn, us, true_or, or_true]))
      ·refine .skip ?_
       refine Exists.intro (lvl e) ⟨?_, ?_⟩
       ·simp_all
       exact Can.weak (Weak.lit (by simp only [go_sem, seval, ab_, aa_, List.length_append, List.take_of_length_le, an_, leV, al_, am_, V.inn, us, true_or, or_true] <;> (simp_all)) (by simp only [go_sem, seval, ab_, aa_, List.length_append, List.take_of_length_le, an_, leV, al_, am_, V.inn, us, true_or, or_true]) (by simp only [go_sem, seval, ab_, aa_, List.length_append, List.take_of_length_le, an_, leV, al_, am_, V.inn, us, true_or, or_true]))
     refine .rgnD [a2_ (ih (e.kids.getD 0 E0) lf (g3 (by simpa using h39)).2.2.2.1 (c5_ a3 _ (bo_ (by have := g3 (by simpa using h39); omega))) (g3 (by simpa using h39)).2.2.2.2.2.1 (by have := g3 (by simpa using h39); rw [hJ]; split <;> omega) (by have := g3 (by simpa using h39); rw [hJ]; split <;> omega)), a2_ (ih (e.kids.getD 1 E0) (lvl e + 1) (g3 (by simpa using h39)).2.2.2.2.1 (c5_ a3 _ (bo_ (by have := g3 (by simpa using h39); omega))) (g3 (by simpa using h39)).2.2.2.2.2.2.1 (by have := g3 (by simpa using h39); omega) (by have := g3 (by simpa using h39); omega))] enM (by simp only [go_sem, seval, ab_, aa_, List.length_append, List.take_of_length_le, d7_ (show 0 < e.kids.length by have := g3 (by simpa using h39); omega), d7_ (show 1 < e.kids.length by have := g3 (by simpa using h39); omega), bc_ (show -9223372036854775808 ≤ lvl e + 1 by have := g3 (by simpa using h39); omega) (by have := g3 (by simpa using h39); omega)]; rfl) (by rfl) ?_ ?_
     ·have q := g3 (by simpa using h39); have q1 := hL 0 (by omega) lf; have q2 : 1 < e.kids.length := (by omega); have q3 := hL 1 (by omega) (lvl e + 1); simp [-List.getD_eq_getElem?_getD, cc_, q2, a6_]; omega
     refine Exists.intro (()) ⟨?_, ?_⟩
     ·trivial
     refine Can.trans (Can.swap 73 150 (by decide) (by decide) (by decide) (by decide) (by simp only [go_sem, seval, ab_, aa_, List.length_append, List.take_of_length_le, V.cl]) (by simp only [go_sem, seval, ab_, aa_, List.length_append, List.take_of_length_le, V.cl]) (by simp only [go_sem, seval, ab_, aa_, List.length_append, List.take_of_length_le, bn_, sw, swM, rnB] <;> rfl) (by simp only [go_sem, seval, ab_, aa_, List.length_append, List.take_of_length_le, bn_, sw, swM, rnB] <;> rfl) (by simp only [go_sem, seval, ab_, aa_, List.length_append, List.take_of_length_le, bn_, sw, swM, rnB] <;> rfl)) ?_
     exact Can.weak (Weak.lit (by simp only [go_sem, seval, ab_, aa_, List.length_append, List.take_of_length_le, an_, leV, al_, am_, V.inn, us, true_or, or_true] <;> (first | (rw [dv_ (by simpa using h24)]; rfl) | (rw [c9_ (by simpa using h32)]; rfl) | (rw [hT (by simpa using h39), ← hJ]; simp; omega) | (rw [hA (by simp_all)]; simp))) (by simp only [go_sem, seval, ab_, aa_, List.length_append, List.take_of_length_le, an_, leV, al_, am_, V.inn, us, true_or, or_true]) (by simp only [go_sem, seval, ab_, aa_, List.length_append, List.take_of_length_le, an_, leV, al_, am_, V.inn, us, true_or, or_true] <;> (first | (rw [dv_ (by simpa using h24), e6_ (by have := g1 (by simpa using h24); omega)]; rfl) | (rw [c9_ (by simpa using h32)]; rfl) | (rw [hT (by simpa using h39), ← hJ]; simp [bm_, ci_]; done) | (rw [hA (by simp_all)]; simp [bm_]))))
    ·refine .rgnD [a2_ (ih (e.kids.getD 0 E0) 4 (g4 (by simp_all)).2.1 (c5_ a3 _ (bo_ (by have := g4 (by simp_all); omega))) (g4 (by simp_all)).2.2 (by decide) (by decide))] enM (by simp only [go_sem, seval, ab_, aa_, List.length_append, List.take_of_length_le, d7_ (show 0 < e.kids.length by have := g4 (by simp_all); omega)]; rfl) (by rfl) ?_ ?_
     ·have q := g4 (by simp_all); have q1 := hL 0 (by omega) 4; have q2 : 0 < e.kids.length := (by omega); simp [-List.getD_eq_getElem?_getD, cc_, q2, a6_]; omega
     refine Exists.intro (()) ⟨?_, ?_⟩
     ·trivial
     refine Can.trans (Can.swap 33 150 (by decide) (by decide) (by decide) (by decide) (by simp only [go_sem, seval, ab_, aa_, List.length_append, List.take_of_length_le, V.cl]) (by simp only [go_sem, seval, ab_, aa_, List.length_append, List.take_of_length_le, V.cl]) (by simp only [go_sem, seval, ab_, aa_, List.length_append, List.take_of_length_le, bn_, sw, swM, rnB] <;> rfl) (by simp only [go_sem, seval, ab_, aa_, List.length_append, List.take_of_length_le, bn_, sw, swM, rnB] <;> rfl) (by simp only [go_sem, seval, ab_, aa_, List.length_append, List.take_of_length_le, bn_, sw, swM, rnB] <;> rfl)) ?_
     exact Can.weak (Weak.lit (by simp only [go_sem, seval, ab_, aa_, List.length_append, List.take_of_length_le, an_, leV, al_, am_, V.inn, us, true_or, or_true] <;> (first | (rw [dv_ (by simpa using h24)]; rfl) | (rw [c9_ (by simpa using h32)]; rfl) | (rw [hT (by simpa using h39), ← hJ]; simp; omega) | (rw [hA (by simp_all)]; simp))) (by simp only [go_sem, seval, ab_, aa_, List.length_append, List.take_of_length_le, an_, leV, al_, am_, V.inn, us, true_or, or_true]) (by simp only [go_sem, seval, ab_, aa_, List.length_append, List.take_of_length_le, an_, leV, al_, am_, V.inn, us, true_or, or_true] <;> (first | (rw [dv_ (by simpa using h24), e6_ (by have := g1 (by simpa using h24); omega)]; rfl) | (rw [c9_ (by simpa using h32)]; rfl) | (rw [hT (by simpa using h39), ← hJ]; simp [bm_, ci_]; done) | (rw [hA (by simp_all)]; simp [bm_]))))
 refine .seq (.seq (.rgn [] (by simp only [go_sem, seval, ab_, aa_, List.length_append, List.take_of_length_le]; rfl) ?_ ?_))
 ·(first | trivial | (simp; done) | (simp [a6_]; done))
 refine .condB (by simp only [go_sem, seval, ab_, aa_, List.length_append, List.take_of_length_le]; rfl) (by simp only [go_sem, seval, ab_, aa_, List.length_append, List.take_of_length_le]) (fun h66 => ?_) (fun h66 => ?_)
 ·refine .seq (.rgn [] (by simp only [go_sem, seval, ab_, aa_, List.length_append, List.take_of_length_le]; rfl) ?_ ?_)
  ·have q := hW 0; simp [-List.getD_eq_getElem?_getD, cc_, a6_, jg_]; (first | omega | (refine ⟨⟨?_, by omega⟩, by omega, by omega⟩; intro e0; have := (db_ (d + 1) e 0 h).1; rw [e0] at this; simp at this))
  refine .frz 81 (by simp only [go_sem, seval, ab_, aa_, List.length_append, List.take_of_length_le]; rfl) (by simp only [go_sem, seval, ab_, aa_, List.length_append, List.take_of_length_le]) (by simp only [go_sem, seval, ab_, aa_, List.length_append, List.take_of_length_le]; rfl) (by simp only [go_sem, seval, ab_, aa_, List.length_append, List.take_of_length_le]; rfl) ?_
  refine .ret ⟨.inr rfl, ?_⟩
  exact Out.plain (by simp only [Tryz.results112]; rfl) (by simp only [aq_, a8_, go_sem, seval, ab_, aa_, List.length_append, List.take_of_length_le] <;> (split <;> rfl)) (by simp only [a7_, go_sem, seval, ab_, aa_, List.length_append, List.take_of_length_le] <;> (have q : e.kind = 3 ∧ a4_ e.s < t := (by rw [← ss_ h t ht]; simpa using h66); rw [te_ h t, if_pos q]; (first | (rw [if_pos (by omega), List.take_of_length_le (by simp [bm_]; omega)]; simp [bm_, peel])))) (by simp only [go_sem, seval, ab_, aa_, List.length_append, List.take_of_length_le])
 ·refine .skip (.seq (.rgn [] (by simp only [go_sem, seval, ab_, aa_, List.length_append, List.take_of_length_le]; rfl) ?_ ?_))
  ·(first | trivial | (simp; done) | (simp [a6_]; done))
  refine .frz 150 (by simp only [go_sem, seval, ab_, aa_, List.length_append, List.take_of_length_le]; rfl) (by simp only [go_sem, seval, ab_, aa_, List.length_append, List.take_of_length_le]) (by simp only [go_sem, seval, ab_, aa_, List.length_append, List.take_of_length_le]; rfl) (by simp only [go_sem, seval, ab_, aa_, List.length_append, List.take_of_length_le]; rfl) ?_
  refine .ret ⟨.inr rfl, ?_⟩
  exact Out.plain (by simp only [Tryz.results112]; rfl) (by simp only [aq_, a8_, go_sem, seval, ab_, aa_, List.length_append, List.take_of_length_le] <;> (split <;> rfl)) (by simp only [a7_, go_sem, seval, ab_, aa_, List.length_append, List.take_of_length_le] <;> (have q : ¬ (e.kind = 3 ∧ a4_ e.s < t) := (by rw [← ss_ h t ht]; simpa using h66); rw [te_ h t, if_neg q])) (by simp only [go_sem, seval, ab_, aa_, List.length_append, List.take_of_length_le])
end
section
set_option maxRecDepth 100000
set_option maxHeartbeats 1000000
theorem vs_ {e : E} (h : eok e = true) (must : Int) : wds e must ≠ [] := fun e0 => by have := (cn_ h must).1; rw [e0] at this; simp at this
theorem uk_ {l : List Str} {k : Nat} (h : k < l.length) : bv_ (l.take (k + 1)) = (if 0 < k then bv_ (l.take k) ++ [32] else []) ++ l.getD k [] := by
 have snoc : ∀ (a : List Str) (s : Str), a ≠ [] → bv_ (a ++ [s]) = bv_ a ++ 32 :: s := fun a s ha => by
  induction a with
  | nil => exact absurd rfl ha
  | cons x a ih =>
   cases a with
   | nil => rw [fe_]; show bv_ [x, s] = _; rw [er_, fe_]
   | cons y a => rw [List.cons_append, List.cons_append, er_, er_, ← List.cons_append, ih (by simp)]; simp
 rw [List.take_add_one, List.getElem?_eq_getElem h, List.getD_eq_getElem?_getD, List.getElem?_eq_getElem h]
 simp only [Option.toList_some, Option.getD_some]
 by_cases hk : 0 < k
 ·rw [snoc _ _ (by intro e; have := congrArg List.length e; rw [List.length_take] at this; simp only [List.length_nil] at this; omega), if_pos hk]; simp
 ·have : k = 0 := by omega
  subst this; simp [fe_]
theorem w0_ {l : List Str} (k : Nat) : (bv_ (l.take k)).length ≤ (bv_ l).length := by
 by_cases h : l.take k = []
 ·rw [h]; simp [ff_]
 ·have h1 := f6_ _ h
  have h2 : l ≠ [] := fun e => h (by rw [e]; simp)
  have h3 := f6_ _ h2
  have h4 : ((l.take k).map List.length).sum + (l.take k).length ≤ (l.map List.length).sum + l.length := by
   conv => rhs; rw [← List.take_append_drop k l]
   rw [List.map_append, List.sum_append, List.length_append]; omega
  omega
theorem ig_ (l : List Str) (hl : l.length < 1099511627776) (hb : (bv_ l).length < 1099511627776) : ACall En 61 [.sl false (bm_ l)] [] [.s (bv_ l)] [] := by
 refine ah_ (fn := Tryz.f61) [] Tryz.func61 rfl rfl (by simp) fun C => ?_
 rw [ar_]
 simp only [Tryz.ntmps61, List.length_cons, List.length_nil, Nat.reduceAdd, Nat.reduceSub, List.replicate_succ, List.replicate_zero, List.cons_append, List.nil_append, bd_]
 refine .seq (.rgn [] (by simp only [go_sem, seval, ab_, aa_]; rfl) ?_ ?_)
 ·first | trivial | simp
 refine .seq (.rgn [] (by simp only [go_sem, seval, ab_, aa_]; rfl) ?_ ?_)
 ·first | trivial | simp
 refine .seq (.seq (.rgn [] (by simp only [go_sem, seval, ab_, aa_]; rfl) ?_ ?_))
 ·first | trivial | simp
 refine .block (.loopK (fun k : Nat => ⟨[.sl false (bm_ l), .no, .no, .s (bv_ (l.take k)), .i .i64 k, .no, .no, .no, .no, .no, .no, .no, .no, .no, .no, .no, .no, .no, .no, .no, .no, .no], aw_ [], us []⟩) (fun k : Nat => k ≤ l.length) (fun k : Nat => l.length - k) (0) ?_ ?_ (fun k hI => ?_))
 ·simp
 ·exact Can.weak (Weak.lit (by simp only [go_sem, seval, ab_, aa_, an_, leV, al_, am_, V.inn, us, true_or, or_true] <;> (simp [ff_])) (by simp only [go_sem, seval, ab_, aa_, an_, leV, al_, am_, V.inn, us, true_or, or_true]) (by simp only [go_sem, seval, ab_, aa_, an_, leV, al_, am_, V.inn, us, true_or, or_true]))
 refine .seq (.seq (.rgn [] (by simp only [go_sem, seval, ab_, aa_]; rfl) ?_ ?_))
 ·first | trivial | simp
 refine .condB (by simp only [go_sem, seval, ab_, aa_]; rfl) (by simp only [go_sem, seval, ab_, aa_]) (fun h8 => ?_) (fun h8 => ?_)
 ·refine .skip (.seq (.block (.seqJ (fun q : Str => ⟨[.sl false (bm_ l), .no, .no, .s q, .i .i64 k, .no, .no, .no, .no, .no, .no, .no, .no, .no, .no, .no, .no, .no, .no, .no, .no, .no], aw_ [], us []⟩) (fun q : Str => q = if 0 < k then bv_ (l.take k) ++ [32] else []) ?_ (fun q hJ => ?_))))
  ·refine .seq (.rgn [] (by simp only [go_sem, seval, ab_, aa_]; rfl) ?_ ?_)
   ·first | trivial | simp
   refine .condB (by simp only [go_sem, seval, ab_, aa_]; rfl) (by simp only [go_sem, seval, ab_, aa_]) (fun h12 => ?_) (fun h12 => ?_)
   ·refine .rgn [] (by simp only [go_sem, seval, ab_, aa_]; rfl) ?_ ?_
    ·have q := w0_ (l := l) k; simp; omega
    refine Exists.intro (bv_ (l.take k) ++ [32]) ⟨?_, ?_⟩
    ·simp at h12; simp [h12]
    exact Can.weak (Weak.lit (by simp only [go_sem, seval, ab_, aa_, an_, leV, al_, am_, V.inn, us, true_or, or_true] <;> ((simp at h12; subst h12; simp [ff_]))) (by simp only [go_sem, seval, ab_, aa_, an_, leV, al_, am_, V.inn, us, true_or, or_true]) (by simp only [go_sem, seval, ab_, aa_, an_, leV, al_, am_, V.inn, us, true_or, or_true]))
   ·refine .skip ?_
    refine Exists.intro ([]) ⟨?_, ?_⟩
    ·simp at h12; simp [h12]
    exact Can.weak (Weak.lit (by simp only [go_sem, seval, ab_, aa_, an_, leV, al_, am_, V.inn, us, true_or, or_true] <;> ((simp at h12; subst h12; simp [ff_]))) (by simp only [go_sem, seval, ab_, aa_, an_, leV, al_, am_, V.inn, us, true_or, or_true]) (by simp only [go_sem, seval, ab_, aa_, an_, leV, al_, am_, V.inn, us, true_or, or_true]))
  refine .rgn [] (by simp only [go_sem, seval, ab_, aa_, co_ (show k < l.length by simpa using h8)]; rfl) ?_ ?_
  ·have q1 := w0_ (l := l) (k + 1); rw [uk_ (by simpa using h8), ← hJ, List.length_append] at q1; refine ⟨⟨by omega, by simpa using h8⟩, by omega⟩
  refine .rgn [] (by simp only [go_sem, seval, ab_, aa_]; rfl) ?_ ?_
  ·first | trivial | simp
  refine Exists.intro (k + 1) ⟨?_, ?_, ?_⟩
  ·simp at h8; omega
  ·simp at h8; omega
  exact Can.weak (Weak.lit (by simp only [go_sem, seval, ab_, aa_, an_, leV, al_, am_, V.inn, us, true_or, or_true] <;> (rw [bc_ (by simp at h8; omega) (by simp at h8; omega)]; refine ⟨?_, by simp⟩; first | (rw [hJ, uk_ (by simpa using h8)]; done))) (by simp only [go_sem, seval, ab_, aa_, an_, leV, al_, am_, V.inn, us, true_or, or_true]) (by simp only [go_sem, seval, ab_, aa_, an_, leV, al_, am_, V.inn, us, true_or, or_true]))
 ·refine .exit (.seq (.rgn [] (by simp only [go_sem, seval, ab_, aa_]; rfl) ?_ ?_))
  ·first | trivial | simp
  refine .ret ⟨.inr rfl, ?_⟩
  exact Out.plain (by simp only [Tryz.results61]; rfl) (by simp only [aq_, a8_, go_sem, seval, ab_, aa_] <;> (split <;> rfl)) (by simp only [a7_, go_sem, seval, ab_, aa_] <;> (simp at h8; rw [List.take_of_length_le h8])) (by simp only [go_sem, seval, ab_, aa_])
end
end Go.Proofs.YtefmbmafdgedmaaGreatDoor
