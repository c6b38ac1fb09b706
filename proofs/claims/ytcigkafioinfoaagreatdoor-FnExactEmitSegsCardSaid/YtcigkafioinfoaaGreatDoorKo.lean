/- What a line is turned into, the reference's: words with their places. Conditions: none. -/
import Derived.Test.YtcigkafioinfoaaGreatDoorKl
import Derived.Test.YtcigkafioinfoaaGreatDoorKx
import Derived.Test.YtcigkafioinfoaaGreatDoorKn
import Derived.Test.YtcigkafioinfoaaGreatDoorKd
import Derived.Test.YtcigkafioinfoaaGreatDoorKi
import Derived.Test.YtcigkafioinfoaaGreatDoorKb
set_option linter.unusedVariables false
set_option linter.unusedSimpArgs false
namespace Go.Proofs.YtcigkafioinfoaaGreatDoor
section
set_option maxRecDepth 100000
set_option maxHeartbeats 4000000
theorem xk_ {l : Wd} {k : Nat} (h : k < l.length) : gh_ (l.take (k + 1)) = gh_ (l.take k) + ((l.getD k ([], 0)).1.length + 1) := by
 have e : l.take (k + 1) = l.take k ++ [l.getD k ([], 0)] := by
  rw [List.take_add_one, T6_ h, T8_, T6_ h]; rfl
 rw [e, k8_, qf_, ke_]; omega
theorem aag_ (l : Wd) (k : Nat) : gh_ (l.take k) ≤ gh_ l := by
 conv => rhs; rw [← List.take_append_drop k l]
 have := n4_ (l.drop k)
 rw [k8_]; omega
theorem aaz_ {l : Wd} {k : Nat} (h : k < l.length) : (c2_ 0 (l.map (·.1))).getD k 0 = gh_ (l.take k) := by
 rw [l3_ _ _ (by simpa using h), gh_, List.map_take]; omega
theorem yb_ (l : Wd) (hl : l.length ≤ 1000000) (hw : gh_ l < 1099511627776) : ACall En 153 [.sl false (wdR l)] [] [.sl false (inR (c2_ 0 (l.map (·.1))))] [] := by
 have hp : ∀ k, cz_ (de_ (inR (c2_ 0 (l.map (·.1)))) [.i .i64 0] k) = true := fun k => hu_ (ah_ _) rfl
 have hll : (inR (c2_ 0 (l.map (·.1)))).length = l.length := by rw [a0_, bi_, List.length_map]
 have hd1 : ∀ k j, ((de_ (inR (c2_ 0 (l.map (·.1)))) [.i .i64 0] k).getD j []).drop 1 = [] := th_ _ _ (fun r hr => wh_ hr) rfl
 refine an_ (fn := Tryz.f153) [] Tryz.func153 rfl rfl (by simp) fun C => ?_
 rw [bb_]
 simp only [Tryz.ntmps153, T7_, List.length_nil, Nat.reduceAdd, Nat.reduceSub, List.replicate_succ, List.replicate_zero, List.cons_append, List.nil_append, bu_]
 refine .seq (.rgn [] (by simp only [go_sem, seval, ad_, ab_, ah_, hp, hd1, au_, hll]; rfl) ?_ ?_)
 ·(first | trivial)
 refine .seq (.rgn [] (by simp only [go_sem, seval, ad_, ab_, ah_, hp, hd1, au_, hll]; rfl) ?_ ?_)
 ·simp; omega
 refine .seq (.rgn [] (by simp only [go_sem, seval, ad_, ab_, ah_, hp, hd1, au_, hll]; rfl) ?_ ?_)
 ·(first | trivial)
 refine .seq (.seq (.rgn [] (by simp only [go_sem, seval, ad_, ab_, ah_, hp, hd1, au_, hll]; rfl) ?_ ?_))
 ·(first | trivial)
 refine .block (.loopK (fun k : Nat => ⟨[.no, .no, .no, .ow 19 1 0 l.length, .i .i64 (gh_ (l.take k)), .no, .no, .no, .no, .no, .sl false (wdR l), .i .i64 l.length, .i .i64 k, .no, .no, .no, .no, .no, .no, .no, .no, .no, .no, .no, .no, .no, .no, .no, .no], bf_ [(19, ⟨3, 1, de_ (inR (c2_ 0 (l.map (·.1)))) [.i .i64 0] k⟩)], us [19]⟩) (fun k : Nat => k ≤ l.length) (fun k : Nat => l.length - k) (0) ?_ ?_ (fun k hI => ?_))
 ·simp
 ·exact Can.weak (Weak.lit (by simp only [go_sem, seval, ad_, ab_, ah_, hp, hd1, au_, hll, a2_, leV, az_, ay_, V.inn, us, T9_, Ta_] <;> (simp [ke_])) (by simp only [go_sem, seval, ad_, ab_, ah_, hp, hd1, au_, hll, a2_, leV, az_, ay_, V.inn, us, T9_, Ta_]) (by simp only [go_sem, seval, ad_, ab_, ah_, hp, hd1, au_, hll, a2_, leV, az_, ay_, V.inn, us, T9_, Ta_] <;> (simp [gx_, hll])))
 refine .seq (.rgn [] (by simp only [go_sem, seval, ad_, ab_, ah_, hp, hd1, au_, hll]; rfl) ?_ ?_)
 ·(first | trivial)
 refine .seq (.condB (by simp only [go_sem, seval, ad_, ab_, ah_, hp, hd1, au_, hll]; rfl) (by simp only [go_sem, seval, ad_, ab_, ah_, hp, hd1, au_, hll]) (fun h13 => ?_) (fun h13 => ?_))
 ·refine .skip (.seq (.block (.seq (.rgn [] (by simp only [go_sem, seval, ad_, ab_, ah_, hp, hd1, au_, hll, hk_ (show k < l.length by simpa using h13)]; rfl) ?_ ?_))))
  ·simp only [T3_] at h13; simp; omega
  refine .seq (.rgn [] (by simp only [go_sem, seval, ad_, ab_, ah_, hp, hd1, au_, hll]; rfl) ?_ ?_)
  ·simp only [T3_] at h13; simp; omega
  refine .rgn [] (by simp only [go_sem, seval, ad_, ab_, ah_, hp, hd1, au_, hll]; rfl) ?_ ?_
  ·(first | trivial)
  refine .rgn [] (by simp only [go_sem, seval, ad_, ab_, ah_, hp, hd1, au_, hll]; rfl) ?_ ?_
  ·(first | trivial)
  refine Exists.intro (k + 1) ⟨?_, ?_, ?_⟩
  ·simp at h13; omega
  ·simp at h13; omega
  exact Can.weak (Weak.lit (by simp only [go_sem, seval, ad_, ab_, ah_, hp, hd1, au_, hll, a2_, leV, az_, ay_, V.inn, us, T9_, Ta_] <;> ((have q := xk_ (show k < l.length by simpa using h13)); (have q2 := aag_ l (k + 1)); (have q3 := n4_ (l.take k)); (refine ⟨?_, ?_⟩; (rw [bv_ (show -9223372036854775808 ≤ (((l.getD k ([], 0)).1.length : Int) + 1) by omega) (by omega), bv_ (by omega) (by omega), q]); (rw [bv_ (by simp at h13; omega) (by simp at h13; omega)]; simp)))) (by simp only [go_sem, seval, ad_, ab_, ah_, hp, hd1, au_, hll, a2_, leV, az_, ay_, V.inn, us, T9_, Ta_]) (by simp only [go_sem, seval, ad_, ab_, ah_, hp, hd1, au_, hll, a2_, leV, az_, ay_, V.inn, us, T9_, Ta_] <;> ((rw [← g8_ (by rw [hll]; simpa using h13), hj_ (by rw [bi_, List.length_map]; simpa using h13), aaz_ (by simpa using h13)]))))
 ·refine .exit (.seq (.rgn [] (by simp only [go_sem, seval, ad_, ab_, ah_, hp, hd1, au_, hll]; rfl) ?_ ?_))
  ·(first | trivial)
  refine .frz 19 (by simp only [go_sem, seval, ad_, ab_, ah_, hp, hd1, au_, hll]; rfl) (by simp only [go_sem, seval, ad_, ab_, ah_, hp, hd1, au_, hll]) (by simp only [go_sem, seval, ad_, ab_, ah_, hp, hd1, au_, hll]; rfl) (by simp only [go_sem, seval, ad_, ab_, ah_, hp, hd1, au_, hll]; rfl) ?_
  refine .ret ⟨.inr rfl, ?_⟩
  exact Out.plain (by simp only [Tryz.results153]; rfl) (by simp only [ba_, bs_, go_sem, seval, ad_, ab_, ah_, hp, hd1, au_, hll] <;> (split <;> rfl)) (by simp only [bq_, go_sem, seval, ad_, ab_, ah_, hp, hd1, au_, hll] <;> (simp at h13; rw [g1_ (by omega)]; simp [← hll, T1_, peel])) (by simp only [go_sem, seval, ad_, ab_, ah_, hp, hd1, au_, hll])
theorem z5_ {l : Wd} {k : Nat} (h : k < l.length) (n : Int) : shf n (l.take (k + 1)) = shf n (l.take k) ++ [((l.getD k ([], 0)).1, if 0 ≤ (l.getD k ([], 0)).2 then (l.getD k ([], 0)).2 + n else (l.getD k ([], 0)).2)] := by
 have e : l.take (k + 1) = l.take k ++ [l.getD k ([], 0)] := by
  rw [List.take_add_one, T6_ h, T8_, T6_ h]; rfl
 rw [e, aeo_]; congr 1
 simp only [shf, List.map_cons, List.map_nil]
 split <;> rfl
theorem hs_ (l : Wd) (n : Int) (hl : l.length ≤ 1000000) (hb : ∀ p ∈ l, p.2 ≤ 1000000) (h0 : 0 ≤ n) (h1 : n ≤ 1000000) : ACall En 148 [.sl false (wdR l), .i .i64 n] [] [.sl false (wdR (shf n l))] [] := by
 refine an_ (fn := Tryz.f148) [] Tryz.func148 rfl rfl (by simp) fun C => ?_
 rw [bb_]
 simp only [Tryz.ntmps148, T7_, List.length_nil, Nat.reduceAdd, Nat.reduceSub, List.replicate_succ, List.replicate_zero, List.cons_append, List.nil_append, bu_]
 refine .seq (.rgn [] (by simp only [go_sem, seval, ad_, ab_, a9_]; rfl) ?_ ?_)
 ·(first | trivial | (simp; done) | (simp at h12; simp; omega))
 refine .seq (.rgn [] (by simp only [go_sem, seval, ad_, ab_, a9_]; rfl) ?_ ?_)
 ·(first | trivial | (simp; done) | (simp at h12; simp; omega))
 refine .seq (.seq (.rgn [] (by simp only [go_sem, seval, ad_, ab_, a9_]; rfl) ?_ ?_))
 ·(first | trivial | (simp; done) | (simp at h12; simp; omega))
 refine .block (.loopK (fun k : Nat => ⟨[.sl false (wdR l), .i .i64 n, .no, .no, .no, .ow 60 2 0 k, .i .i64 k, .no, .no, .no, .no, .no, .no, .no, .no, .no, .no, .no, .no, .no, .no, .no, .no, .no, .no, .no, .no, .no, .no, .no, .no, .no], bf_ [(60, ⟨131, 2, wdR (shf n (l.take k))⟩)], us [60]⟩) (fun k : Nat => k ≤ l.length) (fun k : Nat => l.length - k) (0) ?_ ?_ (fun k hI => ?_))
 ·simp
 ·refine Can.trans (Can.ownSlot 5 60 131 2 (by simp only [go_sem, seval, ad_, ab_, a9_] <;> rfl) (by simp only [go_sem, seval, ad_, ab_, a9_]) (by simp only [go_sem, seval, ad_, ab_, a9_] <;> rfl)) ?_
  exact Can.weak (Weak.lit (by simp only [go_sem, seval, ad_, ab_, a9_, a2_, leV, az_, ay_, V.inn, us, T9_, Ta_] <;> (simp)) (by simp only [go_sem, seval, ad_, ab_, a9_, a2_, leV, az_, ay_, V.inn, us, T9_, Ta_]) (by simp only [go_sem, seval, ad_, ab_, a9_, a2_, leV, az_, ay_, V.inn, us, T9_, Ta_] <;> (simp [shf, wdR])))
 refine .seq (.seq (.rgn [] (by simp only [go_sem, seval, ad_, ab_, a9_]; rfl) ?_ ?_))
 ·(first | trivial | (simp; done) | (simp at h12; simp; omega))
 refine .condB (by simp only [go_sem, seval, ad_, ab_, a9_]; rfl) (by simp only [go_sem, seval, ad_, ab_, a9_]) (fun h12 => ?_) (fun h12 => ?_)
 ·refine .skip (.seq (.block (.seq (.rgn [] (by simp only [go_sem, seval, ad_, ab_, a9_, hk_ (show k < l.length by simpa using h12)]; rfl) ?_ ?_))))
  ·(first | trivial | (simp; done) | (simp at h12; simp; omega))
  refine .seqJ (fun v : Int => ⟨[.sl false (wdR l), .i .i64 n, .no, .no, .no, .ow 60 2 0 k, .i .i64 k, .pt 17 2 0 0, .no, .no, .no, .no, .no, .no, .no, .no, .no, .no, .no, .no, .no, .no, .no, .no, .no, .no, .no, .no, .no, .no, .no, .no], bf_ [(60, ⟨131, 2, wdR (shf n (l.take k))⟩), (17, ⟨131, 2, [[.s (l.getD k ([], 0)).1, .i .i64 v]]⟩)], us [17, 60]⟩) (fun v : Int => v = if 0 ≤ (l.getD k ([], 0)).2 then (l.getD k ([], 0)).2 + n else (l.getD k ([], 0)).2) ?_ (fun v hJ => ?_)
  ·refine .seq (.rgn [] (by simp only [go_sem, seval, ad_, ab_, a9_]; rfl) ?_ ?_)
   ·(first | trivial | (simp; done) | (simp at h12; simp; omega))
   refine .condB (by simp only [go_sem, seval, ad_, ab_, a9_]; rfl) (by simp only [go_sem, seval, ad_, ab_, a9_]) (fun h21 => ?_) (fun h21 => ?_)
   ·refine .rgn [] (by simp only [go_sem, seval, ad_, ab_, a9_]; rfl) ?_ ?_
    ·(first | trivial | (simp; done) | (simp at h12; simp; omega))
    refine Exists.intro ((l.getD k ([], 0)).2 + n) ⟨?_, ?_⟩
    ·(simp only [T3_, T4_] at h21; first | rw [if_pos (by omega)] | rw [if_neg (by omega)])
    exact Can.weak (Weak.lit (by simp only [go_sem, seval, ad_, ab_, a9_, a2_, leV, az_, ay_, V.inn, us, T9_, Ta_]) (by simp only [go_sem, seval, ad_, ab_, a9_, a2_, leV, az_, ay_, V.inn, us, T9_, Ta_]) (by simp only [go_sem, seval, ad_, ab_, a9_, a2_, leV, az_, ay_, V.inn, us, T9_, Ta_] <;> ((simp only [T3_, T4_] at h21; have := hb _ (b2_ (d := ([], 0)) (show k < l.length by simpa using h12)); first | rfl | (rw [bv_ (by omega) (by omega)]; done) | (simp; done) | trace_state))))
   ·refine .skip ?_
    refine Exists.intro ((l.getD k ([], 0)).2) ⟨?_, ?_⟩
    ·(simp only [T3_, T4_] at h21; first | rw [if_pos (by omega)] | rw [if_neg (by omega)])
    exact Can.weak (Weak.lit (by simp only [go_sem, seval, ad_, ab_, a9_, a2_, leV, az_, ay_, V.inn, us, T9_, Ta_]) (by simp only [go_sem, seval, ad_, ab_, a9_, a2_, leV, az_, ay_, V.inn, us, T9_, Ta_]) (by simp only [go_sem, seval, ad_, ab_, a9_, a2_, leV, az_, ay_, V.inn, us, T9_, Ta_] <;> ((simp only [T3_, T4_] at h21; have := hb _ (b2_ (d := ([], 0)) (show k < l.length by simpa using h12)); first | rfl | (rw [bv_ (by omega) (by omega)]; done) | (simp; done) | trace_state))))
  refine .rgn [] (by simp only [go_sem, seval, ad_, ab_, a9_]; rfl) ?_ ?_
  ·simp at h12; simp [bw_, cm_]; omega
  refine .rgn [] (by simp only [go_sem, seval, ad_, ab_, a9_]; rfl) ?_ ?_
  ·(first | trivial | (simp; done) | (simp at h12; simp; omega))
  refine Exists.intro (k + 1) ⟨?_, ?_, ?_⟩
  ·simp at h12; omega
  ·simp at h12; omega
  refine Can.trans (Can.swap 40 60 (by decide) (by decide) (by decide) (by decide) (by simp only [go_sem, seval, ad_, ab_, a9_, V.cl]) (by simp only [go_sem, seval, ad_, ab_, a9_, V.cl]) (by simp only [go_sem, seval, ad_, ab_, a9_, b9_, sw, swM, rnB] <;> rfl) (by simp only [go_sem, seval, ad_, ab_, a9_, b9_, sw, swM, rnB] <;> rfl) (by simp only [go_sem, seval, ad_, ab_, a9_, b9_, sw, swM, rnB] <;> rfl)) ?_
  exact Can.weak (Weak.lit (by simp only [go_sem, seval, ad_, ab_, a9_, a2_, leV, az_, ay_, V.inn, us, T9_, Ta_] <;> (rw [bv_ (by simp at h12; omega) (by simp at h12; omega)]; simp)) (by simp only [go_sem, seval, ad_, ab_, a9_, a2_, leV, az_, ay_, V.inn, us, T9_, Ta_]) (by simp only [go_sem, seval, ad_, ab_, a9_, a2_, leV, az_, ay_, V.inn, us, T9_, Ta_] <;> (rw [z5_ (by simpa using h12), kj_, ← hJ]; rfl)))
 ·refine .exit (.seq (.rgn [] (by simp only [go_sem, seval, ad_, ab_, a9_]; rfl) ?_ ?_))
  ·(first | trivial | (simp; done) | (simp at h12; simp; omega))
  refine .frz 60 (by simp only [go_sem, seval, ad_, ab_, a9_]; rfl) (by simp only [go_sem, seval, ad_, ab_, a9_]) (by simp only [go_sem, seval, ad_, ab_, a9_]; rfl) (by simp only [go_sem, seval, ad_, ab_, a9_]; rfl) ?_
  refine .ret ⟨.inr rfl, ?_⟩
  exact Out.plain (by simp only [Tryz.results148]; rfl) (by simp only [ba_, bs_, go_sem, seval, ad_, ab_, a9_] <;> (split <;> rfl)) (by simp only [bq_, go_sem, seval, ad_, ab_, a9_] <;> (simp at h12; (obtain rfl : k = l.length := (by omega)); rw [T1_ (Nat.le_refl _)]; simp [T1_, a9_, ad_, peel])) (by simp only [go_sem, seval, ad_, ab_, a9_])
theorem aco_ (l : List Str) (hl : l.length ≤ 1000000) (hw : wid l < 1099511627776) : ACall En 83 [.sl false (c1_ l)] [] [.sl false (inR (c2_ 0 l))] [] := by
 refine an_ (fn := Tryz.f83) [] Tryz.func83 rfl rfl (by simp) fun C => ?_
 rw [bb_]
 simp only [Tryz.ntmps83, T7_, List.length_nil, Nat.reduceAdd, Nat.reduceSub, List.replicate_succ, List.replicate_zero, List.cons_append, List.nil_append, bu_]
 refine .seq (.rgn [] (by simp only [go_sem, seval, ae_, ac_, ah_]; rfl) ?_ ?_)
 ·(first | trivial | (simp; done) | (simp at h10; simp; omega))
 refine .seq (.rgn [] (by simp only [go_sem, seval, ae_, ac_, ah_]; rfl) ?_ ?_)
 ·(first | trivial | (simp; done) | (simp at h10; simp; omega))
 refine .seq (.rgn [] (by simp only [go_sem, seval, ae_, ac_, ah_]; rfl) ?_ ?_)
 ·(first | trivial | (simp; done) | (simp at h10; simp; omega))
 refine .seq (.seq (.rgn [] (by simp only [go_sem, seval, ae_, ac_, ah_]; rfl) ?_ ?_))
 ·(first | trivial | (simp; done) | (simp at h10; simp; omega))
 refine .block (.loopK (fun k : Nat => ⟨[.sl false (c1_ l), .no, .no, .ow 60 1 0 k, .i .i64 (wid (l.take k)), .i .i64 k, .no, .no, .no, .no, .no, .no, .no, .no, .no, .no, .no, .no, .no, .no, .no, .no, .no, .no, .no, .no], bf_ [(60, ⟨3, 1, inR ((c2_ 0 l).take k)⟩)], us [60]⟩) (fun k : Nat => k ≤ l.length) (fun k : Nat => l.length - k) (0) ?_ ?_ (fun k hI => ?_))
 ·simp
 ·refine Can.trans (Can.ownSlot 3 60 3 1 (by simp only [go_sem, seval, ae_, ac_, ah_] <;> rfl) (by simp only [go_sem, seval, ae_, ac_, ah_]) (by simp only [go_sem, seval, ae_, ac_, ah_] <;> rfl)) ?_
  exact Can.weak (Weak.lit (by simp only [go_sem, seval, ae_, ac_, ah_, a2_, leV, az_, ay_, V.inn, us, T9_, Ta_] <;> (simp [re_])) (by simp only [go_sem, seval, ae_, ac_, ah_, a2_, leV, az_, ay_, V.inn, us, T9_, Ta_]) (by simp only [go_sem, seval, ae_, ac_, ah_, a2_, leV, az_, ay_, V.inn, us, T9_, Ta_] <;> (simp [inR])))
 refine .seq (.seq (.rgn [] (by simp only [go_sem, seval, ae_, ac_, ah_]; rfl) ?_ ?_))
 ·(first | trivial | (simp; done) | (simp at h10; simp; omega))
 refine .condB (by simp only [go_sem, seval, ae_, ac_, ah_]; rfl) (by simp only [go_sem, seval, ae_, ac_, ah_]) (fun h10 => ?_) (fun h10 => ?_)
 ·refine .skip (.seq (.block (.seq (.rgn [] (by simp only [go_sem, seval, ae_, ac_, ah_]; rfl) ?_ ?_))))
  ·simp at h10; simp [ace_, cm_, a0_, bi_]; omega
  refine .rgn [] (by simp only [go_sem, seval, ae_, ac_, ah_, n8_ (show k < l.length by simpa using h10)]; rfl) ?_ ?_
  ·(first | trivial | (simp; done) | (simp at h10; simp; omega))
  refine .rgn [] (by simp only [go_sem, seval, ae_, ac_, ah_]; rfl) ?_ ?_
  ·(first | trivial | (simp; done) | (simp at h10; simp; omega))
  refine Exists.intro (k + 1) ⟨?_, ?_, ?_⟩
  ·simp at h10; omega
  ·simp at h10; omega
  refine Can.trans (Can.swap 26 60 (by decide) (by decide) (by decide) (by decide) (by simp only [go_sem, seval, ae_, ac_, ah_, V.cl]) (by simp only [go_sem, seval, ae_, ac_, ah_, V.cl]) (by simp only [go_sem, seval, ae_, ac_, ah_, b9_, sw, swM, rnB] <;> rfl) (by simp only [go_sem, seval, ae_, ac_, ah_, b9_, sw, swM, rnB] <;> rfl) (by simp only [go_sem, seval, ae_, ac_, ah_, b9_, sw, swM, rnB] <;> rfl)) ?_
  exact Can.weak (Weak.lit (by simp only [go_sem, seval, ae_, ac_, ah_, a2_, leV, az_, ay_, V.inn, us, T9_, Ta_] <;> ((have q := abf_ (show k < l.length by simpa using h10)); (have q2 := adz_ l (k + 1)); (repeat' apply And.intro) <;> first | (simp; done) | (rw [bv_ (by simp at h10; omega) (by simp at h10; omega)]; simp; done) | (rw [bv_ (show -9223372036854775808 ≤ ((wid (l.take k) : Int) + ((l.getD k []).length : Int)) by omega) (by omega), bv_ (by omega) (by omega)]; omega) | trace_state)) (by simp only [go_sem, seval, ae_, ac_, ah_, a2_, leV, az_, ay_, V.inn, us, T9_, Ta_]) (by simp only [go_sem, seval, ae_, ac_, ah_, a2_, leV, az_, ay_, V.inn, us, T9_, Ta_] <;> ((rw [List.take_add_one, T6_ (show k < (c2_ 0 l).length by rw [bi_]; simpa using h10), vw_]; (have := l3_ l 0 (show k < l.length by simpa using h10)); rw [T8_, T6_ (show k < (c2_ 0 l).length by rw [bi_]; simpa using h10), Option.getD_some] at this; rw [this]; simp [inR]))))
 ·refine .exit (.seq (.rgn [] (by simp only [go_sem, seval, ae_, ac_, ah_]; rfl) ?_ ?_))
  ·(first | trivial | (simp; done) | (simp at h10; simp; omega))
  refine .frz 60 (by simp only [go_sem, seval, ae_, ac_, ah_]; rfl) (by simp only [go_sem, seval, ae_, ac_, ah_]) (by simp only [go_sem, seval, ae_, ac_, ah_]; rfl) (by simp only [go_sem, seval, ae_, ac_, ah_]; rfl) ?_
  refine .ret ⟨.inr rfl, ?_⟩
  exact Out.plain (by simp only [Tryz.results83]; rfl) (by simp only [ba_, bs_, go_sem, seval, ae_, ac_, ah_] <;> (split <;> rfl)) (by simp only [bq_, go_sem, seval, ae_, ac_, ah_] <;> (simp at h10; (obtain rfl : k = l.length := (by omega)); rw [T1_ (by rw [bi_]; exact Nat.le_refl _)]; simp [T1_, a0_, bi_, peel])) (by simp only [go_sem, seval, ae_, ac_, ah_])
end
section
set_option maxRecDepth 100000
set_option maxHeartbeats 4000000
theorem aeg_ (x y : Int) : ACall En 203 [.i .i64 x, .i .i64 y] [] [.i .i64 (max x y)] [] := by
 refine an_ (fn := Tryz.f203) [] Tryz.func203 rfl rfl (by simp) fun C => ?_
 rw [bb_]
 simp only [Tryz.ntmps203, T7_, List.length_nil, Nat.reduceAdd, Nat.reduceSub, List.replicate_succ, List.replicate_zero, List.cons_append, List.nil_append, bu_]
 refine .seq (.rgn [] (by simp only [go_sem, seval]; rfl) ?_ ?_)
 ·first | trivial | simp
 refine .seq (.seq (.rgn [] (by simp only [go_sem, seval]; rfl) ?_ ?_))
 ·first | trivial | simp
 refine .condB (by simp only [go_sem, seval]; rfl) (by simp only [go_sem, seval]) (fun h7 => ?_) (fun h7 => ?_)
 ·refine .seq (.rgn [] (by simp only [go_sem, seval]; rfl) ?_ ?_)
  ·first | trivial | simp
  refine .ret ⟨.inr rfl, ?_⟩
  exact Out.plain (by simp only [Tryz.results203]; rfl) (by simp only [ba_, bs_, go_sem, seval] <;> (split <;> rfl)) (by simp only [bq_, go_sem, seval] <;> (simp only [T3_] at h7; rw [show max x y = x by omega])) (by simp only [go_sem, seval])
 ·refine .skip (.seq (.rgn [] (by simp only [go_sem, seval]; rfl) ?_ ?_))
  ·first | trivial | simp
  refine .ret ⟨.inr rfl, ?_⟩
  exact Out.plain (by simp only [Tryz.results203]; rfl) (by simp only [ba_, bs_, go_sem, seval] <;> (split <;> rfl)) (by simp only [bq_, go_sem, seval] <;> (simp only [T4_] at h7; rw [show max x y = y by omega])) (by simp only [go_sem, seval])
theorem tp_ (d : Nat) : ∀ (e : E) (t b : Int), form e d = true → sm e = true → many e d ≤ 1000 → t ≤ 4 → b ≤ 4 → -1000 ≤ t → -1000 ≤ b → ACall En 149 [.ag (eC e), .i .i64 t, .i .i64 b] [] [.sl false (wdR (l8 e t b))] [] := by
 induction d with
 | zero => intro e t b h; have := (cd_ h).1; omega
 | succ d ih =>
 intro e t b h hs hm ht hb ht2 hb2
 obtain ⟨a1, a2, a3⟩ := d2_ hs
 have e1 : ((d + 1 : Nat) : Int) - 1 = (d : Int) := by omega
 have hd1 : (1 : Int) ≤ ((d + 1 : Nat) : Int) := by omega
 have g1 : e.kind = 1 → 0 ≤ e.n ∧ e.n ≤ 1000000 := fun hk => by
  rcases (cd_ h).2 with ⟨k1, h1, h2, h3, h4⟩ | ⟨k1, h1, h2, h3⟩ | ⟨k1, _⟩ | ⟨k1, _⟩ <;> omega
 have g3 : e.kind = 3 → e.kids.length = 2 ∧ 1 ≤ bx_ e.s ∧ bx_ e.s ≤ 3 ∧ form (e.kids.getD 0 E0) d = true ∧ form (e.kids.getD 1 E0) d = true ∧ many (e.kids.getD 0 E0) d ≤ 1000 ∧ many (e.kids.getD 1 E0) d ≤ 1000 ∧ lvl e = bx_ e.s := fun hk => by
  rcases (cd_ h).2 with ⟨k1, _⟩ | ⟨k1, _⟩ | ⟨k1, h1, h2, h3, h4, h5⟩ | ⟨k1, _⟩ <;> try omega
  rw [e1] at h4 h5
  have := er_ h2
  have hm2 := hq_ hd1 h3
  rw [e1] at hm2
  have q1 := do_ d _ 0 h4
  have q2 := do_ d _ 0 h5
  exact ⟨h3, this.1, this.2, h4, h5, by omega, by omega, vr_ k1 h2⟩
 have g4 : e.kind = 4 → e.kids.length = 1 ∧ form (e.kids.getD 0 E0) d = true ∧ many (e.kids.getD 0 E0) d ≤ 1000 := fun hk => by
  rcases (cd_ h).2 with ⟨k1, _⟩ | ⟨k1, _⟩ | ⟨k1, _⟩ | ⟨k1, h1, h2, h3, h4⟩ <;> try omega
  rw [e1] at h4
  have hm2 := iu_ hd1 h3
  rw [e1] at hm2
  have q1 := do_ d _ 0 h4
  exact ⟨h3, h4, by omega⟩
 have g0 : e.kind = 1 ∨ e.kind = 2 ∨ e.kind = 3 ∨ e.kind = 4 := by
  rcases (cd_ h).2 with ⟨k1, _⟩ | ⟨k1, _⟩ | ⟨k1, _⟩ | ⟨k1, _⟩ <;> omega
 have hlv : lvl e = if e.kind = 3 then bx_ e.s else 4 := by
  by_cases hk : e.kind = 3
  ·rw [if_pos hk, (g3 hk).2.2.2.2.2.2.2]
  ·rw [if_neg hk, lvl, if_neg hk]
 have hC : e.kind ≠ 4 → (l8c e).length ≤ 7000 ∧ ∀ p ∈ l8c e, p.2 ≤ 7000 := fun hk => by
  rcases g0 with hk4 | hk4 | hk4 | hk4
  ·simp [l8c, hk4]
  ·simp [l8c, hk4]
  ·have q := g3 hk4
   have q1 := kp_ q.2.2.2.1 q.2.2.2.2.2.1 (t := max 2 (bx_ e.s)) (b := max 2 (bx_ e.s)) (by omega) (by omega)
   have q2 := kp_ q.2.2.2.2.1 q.2.2.2.2.2.2.1 (t := bx_ e.s + 1) (b := bx_ e.s + 1) (by omega) (by omega)
   have q3 := h2_ d _ q.2.2.2.1 q.2.2.2.2.2.1 (max 2 (bx_ e.s))
   simp only [l8c, hk4, show ¬ (3 : Int) = 1 by omega, show ¬ (3 : Int) = 2 by omega, if_false]
   refine ⟨by simp only [T2_, T7_, a9_]; omega, fun p hp => ?_⟩
   rcases List.mem_append.1 hp with hp | hp
   ·have := q1.2 p hp; omega
   ·rcases List.mem_cons.1 hp with rfl | hp
    ·dsimp only; omega
    ·simp only [shf, List.mem_map] at hp
     obtain ⟨u, hu, rfl⟩ := hp
     have := q2.2 u hu
     split
     ·dsimp only; omega
     ·omega
  ·exact absurd hk4 hk
 have hN : e.kind ≠ 4 → l8c e ≠ [] := fun hk => by
  rcases g0 with k | k | k | k
  ·simp [l8c, k]
  ·simp [l8c, k]
  ·simp [l8c, k]
  ·exact absurd k hk
 have hT : e.kind ≠ 4 → l8 e t b = brk (decide (lvl e < b)) (shf (if lvl e < t then 1 else 0) (l8c e)) := fun hk => by
  rw [adh_ (by rcases g0 with k | k | k | k; exact .inl k; exact .inr (.inl k); exact .inr (.inr ⟨k, (g3 k).1⟩); exact absurd k hk)]
  rw [hlv]
  by_cases k3 : e.kind = 3
  ·simp [k3]
  ·simp [k3, show ¬ (4 : Int) < b by omega, show ¬ (4 : Int) < t by omega]
 refine an_ (fn := Tryz.f149) [] Tryz.func149 rfl rfl (by simp) fun C => ?_
 rw [bb_]
 simp only [Tryz.ntmps149, T7_, List.length_nil, Nat.reduceAdd, Nat.reduceSub, List.replicate_succ, List.replicate_zero, List.cons_append, List.nil_append, bu_]
 refine .seq (.rgn [] (by simp only [go_sem, seval, ad_, ab_, ae_, ac_, T2_, T1_, a9_]; rfl) ?_ ?_)
 ·(first | trivial | (simp; done) | (simp [cm_, bw_]; done))
 refine .seq (.rgn [] (by simp only [go_sem, seval, ad_, ab_, ae_, ac_, T2_, T1_, a9_]; rfl) ?_ ?_)
 ·(first | trivial | (simp; done) | (simp [cm_, bw_]; done))
 refine .seq (.rgn [br_ (qb_ e)] (by simp only [go_sem, seval, ad_, ab_, ae_, ac_, T2_, T1_, a9_]; rfl) ?_ ?_)
 ·(first | trivial | (simp; done) | (simp [cm_, bw_]; done))
 refine .seqJ (fun op : Int => ⟨[.no, .i .i64 t, .i .i64 b, .pt 13 4 0 0, .no, .no, .no, .i .i64 op, .i .i64 (lvl e), .no, .no, .no, .no, .no, .no, .no, .no, .no, .no, .no, .no, .no, .no, .no, .no, .no, .no, .no, .no, .no, .no, .no, .no, .no, .no, .no, .no, .no, .no, .no, .no, .no, .no, .no, .no, .no, .no, .no, .no, .no, .no, .no, .no, .no, .no, .no, .no, .no, .no, .no, .no, .no, .no, .no, .no, .no, .no, .no, .no, .no, .no, .no, .no, .no, .no, .no, .no, .no, .no, .no, .no, .no, .no, .no, .no, .no, .no, .no, .no, .no, .no, .no, .no, .no, .no, .no, .no, .no, .no, .no, .no, .no], bf_ [(13, ⟨33, 4, [eC e]⟩)], us [13]⟩) (fun op : Int => op = if lvl e < t then 1 else 0) ?_ (fun op hJ => ?_)
 ·refine .seq (.rgn [] (by simp only [go_sem, seval, ad_, ab_, ae_, ac_, T2_, T1_, a9_]; rfl) ?_ ?_)
  ·(first | trivial | (simp; done) | (simp [cm_, bw_]; done))
  refine .condB (by simp only [go_sem, seval, ad_, ab_, ae_, ac_, T2_, T1_, a9_]; rfl) (by simp only [go_sem, seval, ad_, ab_, ae_, ac_, T2_, T1_, a9_]) (fun h18 => ?_) (fun h18 => ?_)
  ·refine .rgn [] (by simp only [go_sem, seval, ad_, ab_, ae_, ac_, T2_, T1_, a9_]; rfl) ?_ ?_
   ·(first | trivial | (simp; done) | (simp [cm_, bw_]; done))
   refine Exists.intro (1) ⟨?_, ?_⟩
   ·simp_all
   exact Can.weak (Weak.lit (by simp only [go_sem, seval, ad_, ab_, ae_, ac_, T2_, T1_, a9_, a2_, leV, az_, ay_, V.inn, us, T9_, Ta_]) (by simp only [go_sem, seval, ad_, ab_, ae_, ac_, T2_, T1_, a9_, a2_, leV, az_, ay_, V.inn, us, T9_, Ta_]) (by simp only [go_sem, seval, ad_, ab_, ae_, ac_, T2_, T1_, a9_, a2_, leV, az_, ay_, V.inn, us, T9_, Ta_]))
  ·refine .skip ?_
   refine Exists.intro (0) ⟨?_, ?_⟩
   ·simp_all
   exact Can.weak (Weak.lit (by simp only [go_sem, seval, ad_, ab_, ae_, ac_, T2_, T1_, a9_, a2_, leV, az_, ay_, V.inn, us, T9_, Ta_]) (by simp only [go_sem, seval, ad_, ab_, ae_, ac_, T2_, T1_, a9_, a2_, leV, az_, ay_, V.inn, us, T9_, Ta_]) (by simp only [go_sem, seval, ad_, ab_, ae_, ac_, T2_, T1_, a9_, a2_, leV, az_, ay_, V.inn, us, T9_, Ta_]))
 refine .seq (.rgn [] (by simp only [go_sem, seval, ad_, ab_, ae_, ac_, T2_, T1_, a9_]; rfl) ?_ ?_)
 ·(first | trivial | (simp; done) | (simp [cm_, bw_]; done))
 refine .seqJ (fun u : Unit => ⟨[.no, .no, .i .i64 b, .no, .no, .no, .no, .i .i64 op, .i .i64 (lvl e), .sl false (wdR (l8c e)), .no, .no, .no, .no, .no, .no, .no, .no, .no, .no, .no, .no, .no, .no, .no, .no, .no, .no, .no, .no, .no, .no, .no, .no, .no, .no, .no, .no, .no, .no, .no, .no, .no, .no, .no, .no, .no, .no, .no, .no, .no, .no, .no, .no, .no, .no, .no, .no, .no, .no, .no, .no, .no, .no, .no, .no, .no, .no, .no, .no, .no, .no, .no, .no, .no, .no, .no, .no, .no, .no, .no, .no, .no, .no, .no, .no, .no, .no, .no, .no, .no, .no, .no, .no, .no, .no, .no, .no, .no, .no, .no, .no], bf_ [], us []⟩) (fun u : Unit => e.kind ≠ 4 ∧ op = if lvl e < t then 1 else 0) ?_ (fun u hJ => ?_)
 ·refine .seq (.rgn [] (by simp only [go_sem, seval, ad_, ab_, ae_, ac_, T2_, T1_, a9_]; rfl) ?_ ?_)
  ·(first | trivial | (simp; done) | (simp [cm_, bw_]; done))
  refine .block (.seq (.rgn [] (by simp only [go_sem, seval, ad_, ab_, ae_, ac_, T2_, T1_, a9_]; rfl) ?_ ?_))
  ·(first | trivial | (simp; done) | (simp [cm_, bw_]; done))
  refine .condB (by simp only [go_sem, seval, ad_, ab_, ae_, ac_, T2_, T1_, a9_]; rfl) (by simp only [go_sem, seval, ad_, ab_, ae_, ac_, T2_, T1_, a9_]) (fun h30 => ?_) (fun h30 => ?_)
  ·refine .rgn [br_ (so_ e.n (by have := g1 (by simpa using h30); omega) (by have := g1 (by simpa using h30); omega))] (by simp only [go_sem, seval, ad_, ab_, ae_, ac_, T2_, T1_, a9_]; rfl) ?_ ?_
   ·(first | trivial | (simp; done) | (simp [cm_, bw_]; done))
   refine Exists.intro (()) ⟨?_, ?_⟩
   ·exact ⟨by simp_all, hJ⟩
   refine Can.trans (Can.frz 48 (by simp only [go_sem, seval, ad_, ab_, ae_, ac_, T2_, T1_, a9_] <;> rfl) (by simp only [go_sem, seval, ad_, ab_, ae_, ac_, T2_, T1_, a9_]) (by simp only [go_sem, seval, ad_, ab_, ae_, ac_, T2_, T1_, a9_] <;> rfl) (by simp only [go_sem, seval, ad_, ab_, ae_, ac_, T2_, T1_, a9_] <;> rfl)) ?_
   exact Can.weak (Weak.lit (by simp only [go_sem, seval, ad_, ab_, ae_, ac_, T2_, T1_, a9_, a2_, leV, az_, ay_, V.inn, us, T9_, Ta_] <;> (first | (have k1 : e.kind = 1 := (by simpa using h30); rw [e0_ (g1 k1).1]; simp [l8c, k1, wdR, bh_]; done) | (have k1 : e.kind = 2 := (by simpa using h39); simp [l8c, k1, wdR, bh_]; done) | (have k1 : e.kind = 3 := (by simpa using h47); have q := (g3 k1).2.2.2.2.2.2.2; rw [q, show max (bx_ e.s) 2 = max 2 (bx_ e.s) by omega]; simp [l8c, k1, wdR, bh_]; done) | trace_state)) (by simp only [go_sem, seval, ad_, ab_, ae_, ac_, T2_, T1_, a9_, a2_, leV, az_, ay_, V.inn, us, T9_, Ta_]) (by simp only [go_sem, seval, ad_, ab_, ae_, ac_, T2_, T1_, a9_, a2_, leV, az_, ay_, V.inn, us, T9_, Ta_]))
  ·refine .seq (.rgn [] (by simp only [go_sem, seval, ad_, ab_, ae_, ac_, T2_, T1_, a9_]; rfl) ?_ ?_)
   ·(first | trivial | (simp; done) | (simp [cm_, bw_]; done))
   refine .condB (by simp only [go_sem, seval, ad_, ab_, ae_, ac_, T2_, T1_, a9_]; rfl) (by simp only [go_sem, seval, ad_, ab_, ae_, ac_, T2_, T1_, a9_]) (fun h39 => ?_) (fun h39 => ?_)
   ·refine .rgn [] (by simp only [go_sem, seval, ad_, ab_, ae_, ac_, T2_, T1_, a9_]; rfl) ?_ ?_
    ·(first | trivial | (simp; done) | (simp [cm_, bw_]; done))
    refine Exists.intro (()) ⟨?_, ?_⟩
    ·exact ⟨by simp_all, hJ⟩
    refine Can.trans (Can.frz 56 (by simp only [go_sem, seval, ad_, ab_, ae_, ac_, T2_, T1_, a9_] <;> rfl) (by simp only [go_sem, seval, ad_, ab_, ae_, ac_, T2_, T1_, a9_]) (by simp only [go_sem, seval, ad_, ab_, ae_, ac_, T2_, T1_, a9_] <;> rfl) (by simp only [go_sem, seval, ad_, ab_, ae_, ac_, T2_, T1_, a9_] <;> rfl)) ?_
    exact Can.weak (Weak.lit (by simp only [go_sem, seval, ad_, ab_, ae_, ac_, T2_, T1_, a9_, a2_, leV, az_, ay_, V.inn, us, T9_, Ta_] <;> (first | (have k1 : e.kind = 1 := (by simpa using h30); rw [e0_ (g1 k1).1]; simp [l8c, k1, wdR, bh_]; done) | (have k1 : e.kind = 2 := (by simpa using h39); simp [l8c, k1, wdR, bh_]; done) | (have k1 : e.kind = 3 := (by simpa using h47); have q := (g3 k1).2.2.2.2.2.2.2; rw [q, show max (bx_ e.s) 2 = max 2 (bx_ e.s) by omega]; simp [l8c, k1, wdR, bh_]; done) | trace_state)) (by simp only [go_sem, seval, ad_, ab_, ae_, ac_, T2_, T1_, a9_, a2_, leV, az_, ay_, V.inn, us, T9_, Ta_]) (by simp only [go_sem, seval, ad_, ab_, ae_, ac_, T2_, T1_, a9_, a2_, leV, az_, ay_, V.inn, us, T9_, Ta_]))
   ·refine .seq (.rgn [] (by simp only [go_sem, seval, ad_, ab_, ae_, ac_, T2_, T1_, a9_]; rfl) ?_ ?_)
    ·(first | trivial | (simp; done) | (simp [cm_, bw_]; done))
    refine .condB (by simp only [go_sem, seval, ad_, ab_, ae_, ac_, T2_, T1_, a9_]; rfl) (by simp only [go_sem, seval, ad_, ab_, ae_, ac_, T2_, T1_, a9_]) (fun h47 => ?_) (fun h47 => ?_)
    ·refine .seq (.rgn [br_ (aeg_ (lvl e) 2)] (by simp only [go_sem, seval, ad_, ab_, ae_, ac_, T2_, T1_, a9_]; rfl) ?_ ?_)
     ·(first | trivial | (simp; done) | (simp [cm_, bw_]; done))
     refine .seq (.rgn [br_ (ih (e.kids.getD 0 E0) (max (lvl e) 2) (max (lvl e) 2) (g3 (by simpa using h47)).2.2.2.1 (c0_ a3 _ (b2_ (by have := g3 (by simpa using h47); omega))) (g3 (by simpa using h47)).2.2.2.2.2.1 (by have := g3 (by simpa using h47); omega) (by have := g3 (by simpa using h47); omega) (by omega) (by omega))] (by simp only [go_sem, seval, ad_, ab_, ae_, ac_, T2_, T1_, a9_, c7_ (show 0 < e.kids.length by have := g3 (by simpa using h47); omega)]; rfl) ?_ ?_)
     ·have q := g3 (by simpa using h47); simp; omega
     refine .seq (.rgn [br_ (jh_ d (e.kids.getD 0 E0) (max (lvl e) 2) (g3 (by simpa using h47)).2.2.2.1 (c0_ a3 _ (b2_ (by have := g3 (by simpa using h47); omega))) (g3 (by simpa using h47)).2.2.2.2.2.1 (by have := g3 (by simpa using h47); omega) (by omega))] (by simp only [go_sem, seval, ad_, ab_, ae_, ac_, T2_, T1_, a9_, c7_ (show 0 < e.kids.length by have := g3 (by simpa using h47); omega)]; rfl) ?_ ?_)
     ·have q := g3 (by simpa using h47); simp; omega
     refine .seq (.rgn [br_ (ih (e.kids.getD 1 E0) (lvl e + 1) (lvl e + 1) (g3 (by simpa using h47)).2.2.2.2.1 (c0_ a3 _ (b2_ (by have := g3 (by simpa using h47); omega))) (g3 (by simpa using h47)).2.2.2.2.2.2.1 (by have := g3 (by simpa using h47); omega) (by have := g3 (by simpa using h47); omega) (by have := g3 (by simpa using h47); omega) (by have := g3 (by simpa using h47); omega))] (by simp only [go_sem, seval, ad_, ab_, ae_, ac_, T2_, T1_, a9_, c7_ (show 1 < e.kids.length by have := g3 (by simpa using h47); omega), bv_ (show -9223372036854775808 ≤ lvl e + 1 by have := g3 (by simpa using h47); omega) (by have := g3 (by simpa using h47); omega)]; rfl) ?_ ?_)
     ·have q := g3 (by simpa using h47); simp; omega
     refine .rgnD [br_ (hs_ (l8 (e.kids.getD 1 E0) (lvl e + 1) (lvl e + 1)) ((wds (e.kids.getD 0 E0) (max (lvl e) 2)).length + 1) (by have q := g3 (by simpa using h47); have := (kp_ q.2.2.2.2.1 q.2.2.2.2.2.2.1 (t := lvl e + 1) (b := lvl e + 1) (by omega) (by omega)).1; omega) (fun p hp => by have q := g3 (by simpa using h47); have := (kp_ q.2.2.2.2.1 q.2.2.2.2.2.2.1 (t := lvl e + 1) (b := lvl e + 1) (by omega) (by omega)).2 p hp; omega) (by omega) (by have q := g3 (by simpa using h47); have := h2_ d _ q.2.2.2.1 q.2.2.2.2.2.1 (max (lvl e) 2); omega))] enM (by simp only [go_sem, seval, ad_, ab_, ae_, ac_, T2_, T1_, a9_, bv_ (show -9223372036854775808 ≤ ((wds (e.kids.getD 0 E0) (max (lvl e) 2)).length : Int) + 1 by omega) (by have q := g3 (by simpa using h47); have := h2_ d _ q.2.2.2.1 q.2.2.2.2.2.1 (max (lvl e) 2); omega)]; rfl) (by rfl) ?_ ?_
     ·have q := g3 (by simpa using h47); have q1 := (kp_ q.2.2.2.1 q.2.2.2.2.2.1 (t := max (lvl e) 2) (b := max (lvl e) 2) (by omega) (by omega)).1; have q2 := (kp_ q.2.2.2.2.1 q.2.2.2.2.2.2.1 (t := lvl e + 1) (b := lvl e + 1) (by omega) (by omega)).1; simp [-List.getD_eq_getElem?_getD, cm_, bw_]; omega
     refine Exists.intro (()) ⟨?_, ?_⟩
     ·exact ⟨by simp_all, hJ⟩
     refine Can.trans (Can.frz 97 (by simp only [go_sem, seval, ad_, ab_, ae_, ac_, T2_, T1_, a9_] <;> rfl) (by simp only [go_sem, seval, ad_, ab_, ae_, ac_, T2_, T1_, a9_]) (by simp only [go_sem, seval, ad_, ab_, ae_, ac_, T2_, T1_, a9_] <;> rfl) (by simp only [go_sem, seval, ad_, ab_, ae_, ac_, T2_, T1_, a9_] <;> rfl)) ?_
     exact Can.weak (Weak.lit (by simp only [go_sem, seval, ad_, ab_, ae_, ac_, T2_, T1_, a9_, a2_, leV, az_, ay_, V.inn, us, T9_, Ta_] <;> (first | (have k1 : e.kind = 1 := (by simpa using h30); rw [e0_ (g1 k1).1]; simp [l8c, k1, wdR, bh_]; done) | (have k1 : e.kind = 2 := (by simpa using h39); simp [l8c, k1, wdR, bh_]; done) | (have k1 : e.kind = 3 := (by simpa using h47); have q := (g3 k1).2.2.2.2.2.2.2; rw [q, show max (bx_ e.s) 2 = max 2 (bx_ e.s) by omega]; simp [l8c, k1, wdR, bh_]; done) | trace_state)) (by simp only [go_sem, seval, ad_, ab_, ae_, ac_, T2_, T1_, a9_, a2_, leV, az_, ay_, V.inn, us, T9_, Ta_]) (by simp only [go_sem, seval, ad_, ab_, ae_, ac_, T2_, T1_, a9_, a2_, leV, az_, ay_, V.inn, us, T9_, Ta_]))
    ·refine .seq (.rgn [br_ (ih (e.kids.getD 0 E0) 4 b (g4 (by simp_all)).2.1 (c0_ a3 _ (b2_ (by have := g4 (by simp_all); omega))) (g4 (by simp_all)).2.2 (by decide) hb (by decide) hb2), br_ (hs_ (l8 (e.kids.getD 0 E0) 4 b) op (by have q := g4 (by simp_all); have := (kp_ q.2.1 q.2.2 (t := 4) (b := b) (by omega) hb).1; omega) (fun p hp => by have q := g4 (by simp_all); have := (kp_ q.2.1 q.2.2 (t := 4) (b := b) (by omega) hb).2 p hp; omega) (by rw [hJ]; split <;> decide) (by rw [hJ]; split <;> decide))] (by simp only [go_sem, seval, ad_, ab_, ae_, ac_, T2_, T1_, a9_, c7_ (show 0 < e.kids.length by have := g4 (by simp_all); omega)]; rfl) ?_ ?_)
     ·have q := g4 (by simp_all); simp; omega
     refine .ret ⟨.inr rfl, ?_⟩
     exact Out.plain (by simp only [Tryz.results149]; rfl) (by simp only [ba_, bs_, go_sem, seval, ad_, ab_, ae_, ac_, T2_, T1_, a9_] <;> (split <;> rfl)) (by simp only [bq_, go_sem, seval, ad_, ab_, ae_, ac_, T2_, T1_, a9_] <;> (have k4 : e.kind = 4 := (by simp_all); rw [afr_ k4 (g4 k4).1, show op = 0 by rw [hJ, if_neg (by rw [hlv, if_neg (by omega)]; omega)], kv_])) (by simp only [go_sem, seval, ad_, ab_, ae_, ac_, T2_, T1_, a9_])
 refine .seq (.rgn [br_ (hs_ (l8c e) op (by have := hC hJ.1; omega) (fun p hp => by have := (hC hJ.1).2 p hp; omega) (by rw [hJ.2]; split <;> decide) (by rw [hJ.2]; split <;> decide))] (by simp only [go_sem, seval, ad_, ab_, ae_, ac_, T2_, T1_, a9_]; rfl) ?_ ?_)
 ·(first | trivial | (simp; done) | (simp [cm_, bw_]; done))
 refine .seq (.seq (.rgn [] (by simp only [go_sem, seval, ad_, ab_, ae_, ac_, T2_, T1_, a9_]; rfl) ?_ ?_))
 ·(first | trivial | (simp; done) | (simp [cm_, bw_]; done))
 refine .condB (by simp only [go_sem, seval, ad_, ab_, ae_, ac_, T2_, T1_, a9_]; rfl) (by simp only [go_sem, seval, ad_, ab_, ae_, ac_, T2_, T1_, a9_]) (fun h93 => ?_) (fun h93 => ?_)
 ·refine .seq (.rgn [] (by simp only [go_sem, seval, ad_, ab_, ae_, ac_, T2_, T1_, a9_]; rfl) ?_ ?_)
  ·have q := hC hJ.1; have q2 := hN hJ.1; simp [cm_, bw_, e2_, shf, q2]; omega
  refine .frz 110 (by simp only [go_sem, seval, ad_, ab_, ae_, ac_, T2_, T1_, a9_]; rfl) (by simp only [go_sem, seval, ad_, ab_, ae_, ac_, T2_, T1_, a9_]) (by simp only [go_sem, seval, ad_, ab_, ae_, ac_, T2_, T1_, a9_]; rfl) (by simp only [go_sem, seval, ad_, ab_, ae_, ac_, T2_, T1_, a9_]; rfl) ?_
  refine .ret ⟨.inr rfl, ?_⟩
  exact Out.plain (by simp only [Tryz.results149]; rfl) (by simp only [ba_, bs_, go_sem, seval, ad_, ab_, ae_, ac_, T2_, T1_, a9_] <;> (split <;> rfl)) (by simp only [bq_, go_sem, seval, ad_, ab_, ae_, ac_, T2_, T1_, a9_] <;> (rw [hT hJ.1, h93, hJ.2, if_pos (by omega), T1_ (by simp [ad_, a9_]; omega)]; simp [brk, wdR, peel])) (by simp only [go_sem, seval, ad_, ab_, ae_, ac_, T2_, T1_, a9_])
 ·refine .skip (.seq (.rgn [] (by simp only [go_sem, seval, ad_, ab_, ae_, ac_, T2_, T1_, a9_]; rfl) ?_ ?_))
  ·(first | trivial | (simp; done) | (simp [cm_, bw_]; done))
  refine .ret ⟨.inr rfl, ?_⟩
  exact Out.plain (by simp only [Tryz.results149]; rfl) (by simp only [ba_, bs_, go_sem, seval, ad_, ab_, ae_, ac_, T2_, T1_, a9_] <;> (split <;> rfl)) (by simp only [bq_, go_sem, seval, ad_, ab_, ae_, ac_, T2_, T1_, a9_] <;> (rw [hT hJ.1, h93, hJ.2]; rfl)) (by simp only [go_sem, seval, ad_, ab_, ae_, ac_, T2_, T1_, a9_])
theorem pj_ {e : E} (h : eok e = true) : (l8 e 1 1).length ≤ 3000 ∧ ∀ p ∈ l8 e 1 1, -1 ≤ p.2 ∧ p.2 ≤ 3000 := kp_ (d := 5) (ci_ h) (hn_ h) (by decide) (by decide)
theorem acc_ {e : E} (h : eok e = true) : l8 e 1 1 ≠ [] := fun e0 => by
 have T := h9_ 5 e 1 1 0 (ci_ h) (by decide) (by decide) (by decide)
 have h1 := fe_ 5 e (ci_ h)
 have h2 := (do_ 5 (bare e) 1 h1.1).1
 have h3 := T.len
 rw [e0, l5_] at h3
 simp only [List.length_nil] at h3; omega
theorem ab2_ (s : Sl) (h : c8_ s = true) (hs : fg_ s = true) : ACall En 82 [.ag (sC s)] [] [.sl false (wdR (l8L s))] [] := by
 obtain ⟨h0, h1, h2⟩ := fr_ h
 obtain ⟨s1, s1', s2, s3⟩ := d9_ hs
 have X : s.kind = 1 ∨ s.kind = 2 ∨ s.kind = 3 → _ := fun hk => tp_ 5 s.expr 1 1 (ci_ (h1 hk)) s2 (hn_ (h1 hk)) (by decide) (by decide) (by decide) (by decide)
 have X3 : s.kind = 3 → _ := fun hk => tp_ 5 s.thn 1 1 (ci_ (h2 hk)) s3 (hn_ (h2 hk)) (by decide) (by decide) (by decide) (by decide)
 have W : s.kind = 3 → _ := fun hk => jh_ 5 s.expr 1 (ci_ (h1 (.inr (.inr hk)))) s2 (hn_ (h1 (.inr (.inr hk)))) (by decide) (by decide)
 have Sh : s.kind = 1 ∨ s.kind = 2 ∨ s.kind = 3 → ∀ n : Int, 0 ≤ n → n ≤ 1000000 → _ := fun hk n hn hn2 => hs_ (l8 s.expr 1 1) n (by have := (pj_ (h1 hk)).1; omega) (fun p hp => by have := (pj_ (h1 hk)).2 p hp; omega) hn hn2
 have Sh3 : s.kind = 3 → ∀ n : Int, 0 ≤ n → n ≤ 1000000 → _ := fun hk n hn hn2 => hs_ (l8 s.thn 1 1) n (by have := (pj_ (h2 hk)).1; omega) (fun p hp => by have := (pj_ (h2 hk)).2 p hp; omega) hn hn2
 have hW : s.kind = 3 → (wds s.expr 1).length ≤ 36 := fun hk => (c9_ (h1 (.inr (.inr hk))) 1).2.1
 refine an_ (fn := Tryz.f82) [] Tryz.func82 rfl rfl (by simp) fun C => ?_
 rw [bb_]
 simp only [Tryz.ntmps82, T7_, List.length_nil, Nat.reduceAdd, Nat.reduceSub, List.replicate_succ, List.replicate_zero, List.cons_append, List.nil_append, bu_]
 refine .seq (.rgn [] (by simp only [go_sem, seval, ad_, ab_, ae_, ac_, T2_, T1_, a9_, aa_]; rfl) ?_ ?_)
 ·(first | trivial | (simp; done) | (simp [cm_, bw_]; done))
 refine .seq (.seq (.rgn [] (by simp only [go_sem, seval, ad_, ab_, ae_, ac_, T2_, T1_, a9_, aa_]; rfl) ?_ ?_))
 ·(first | trivial | (simp; done) | (simp [cm_, bw_]; done))
 refine .block (.seq (.rgn [] (by simp only [go_sem, seval, ad_, ab_, ae_, ac_, T2_, T1_, a9_, aa_]; rfl) ?_ ?_))
 ·(first | trivial | (simp; done) | (simp [cm_, bw_]; done))
 refine .condB (by simp only [go_sem, seval, ad_, ab_, ae_, ac_, T2_, T1_, a9_, aa_]; rfl) (by simp only [go_sem, seval, ad_, ab_, ae_, ac_, T2_, T1_, a9_, aa_]) (fun h7 => ?_) (fun h7 => ?_)
 ·refine .seq (.rgnD [br_ (X (.inl (by simpa using h7))), br_ (Sh (.inl (by simpa using h7)) 5 (by decide) (by decide))] enM (by simp only [go_sem, seval, ad_, ab_, ae_, ac_, T2_, T1_, a9_, aa_]; rfl) (by rfl) ?_ ?_)
  ·have k := h1 (.inl (by simpa using h7)); have q := (pj_ k).1; have q2 := acc_ k; simp [cm_, bw_, e2_, shf, q2]; omega
  refine .frz 28 (by simp only [go_sem, seval, ad_, ab_, ae_, ac_, T2_, T1_, a9_, aa_]; rfl) (by simp only [go_sem, seval, ad_, ab_, ae_, ac_, T2_, T1_, a9_, aa_]) (by simp only [go_sem, seval, ad_, ab_, ae_, ac_, T2_, T1_, a9_, aa_]; rfl) (by simp only [go_sem, seval, ad_, ab_, ae_, ac_, T2_, T1_, a9_, aa_]; rfl) ?_
  refine .ret ⟨.inr rfl, ?_⟩
  exact Out.plain (by simp only [Tryz.results82]; rfl) (by simp only [ba_, bs_, go_sem, seval, ad_, ab_, ae_, ac_, T2_, T1_, a9_, aa_] <;> (split <;> rfl)) (by simp only [bq_, go_sem, seval, ad_, ab_, ae_, ac_, T2_, T1_, a9_, aa_] <;> (have k : s.kind = 1 := (by simpa using h7); rw [if_pos (by omega), T1_ (by simp [ad_, a9_]; omega)]; simp [l8L, k, wdR, peel, wEq])) (by simp only [go_sem, seval, ad_, ab_, ae_, ac_, T2_, T1_, a9_, aa_])
 ·refine .seq (.rgn [] (by simp only [go_sem, seval, ad_, ab_, ae_, ac_, T2_, T1_, a9_, aa_]; rfl) ?_ ?_)
  ·(first | trivial | (simp; done) | (simp [cm_, bw_]; done))
  refine .condB (by simp only [go_sem, seval, ad_, ab_, ae_, ac_, T2_, T1_, a9_, aa_]; rfl) (by simp only [go_sem, seval, ad_, ab_, ae_, ac_, T2_, T1_, a9_, aa_]) (fun h19 => ?_) (fun h19 => ?_)
  ·refine .seq (.rgn [br_ (X (.inr (.inl (by simpa using h19)))), br_ (Sh (.inr (.inl (by simpa using h19))) 1 (by decide) (by decide))] (by simp only [go_sem, seval, ad_, ab_, ae_, ac_, T2_, T1_, a9_, aa_]; rfl) ?_ ?_)
   ·have k := h1 (.inr (.inl (by simpa using h19))); have q := (pj_ k).1; have q2 := acc_ k; simp [cm_, bw_, e2_, shf, q2]; omega
   refine .frz 37 (by simp only [go_sem, seval, ad_, ab_, ae_, ac_, T2_, T1_, a9_, aa_]; rfl) (by simp only [go_sem, seval, ad_, ab_, ae_, ac_, T2_, T1_, a9_, aa_]) (by simp only [go_sem, seval, ad_, ab_, ae_, ac_, T2_, T1_, a9_, aa_]; rfl) (by simp only [go_sem, seval, ad_, ab_, ae_, ac_, T2_, T1_, a9_, aa_]; rfl) ?_
   refine .ret ⟨.inr rfl, ?_⟩
   exact Out.plain (by simp only [Tryz.results82]; rfl) (by simp only [ba_, bs_, go_sem, seval, ad_, ab_, ae_, ac_, T2_, T1_, a9_, aa_] <;> (split <;> rfl)) (by simp only [bq_, go_sem, seval, ad_, ab_, ae_, ac_, T2_, T1_, a9_, aa_] <;> (have k : s.kind = 2 := (by simpa using h19); rw [if_pos (by omega), T1_ (by simp [ad_, a9_]; omega)]; simp [l8L, k, wdR, peel, fm_])) (by simp only [go_sem, seval, ad_, ab_, ae_, ac_, T2_, T1_, a9_, aa_])
  ·refine .seq (.rgn [] (by simp only [go_sem, seval, ad_, ab_, ae_, ac_, T2_, T1_, a9_, aa_]; rfl) ?_ ?_)
   ·(first | trivial | (simp; done) | (simp [cm_, bw_]; done))
   refine .condB (by simp only [go_sem, seval, ad_, ab_, ae_, ac_, T2_, T1_, a9_, aa_]; rfl) (by simp only [go_sem, seval, ad_, ab_, ae_, ac_, T2_, T1_, a9_, aa_]) (fun h28 => ?_) (fun h28 => ?_)
   ·refine .seq (.rgn [br_ (W (by simpa using h28))] (by simp only [go_sem, seval, ad_, ab_, ae_, ac_, T2_, T1_, a9_, aa_]; rfl) ?_ ?_)
    ·(first | trivial | (simp; done) | (simp [cm_, bw_]; done))
    refine .seq (.rgn [br_ (X (.inr (.inr (by simpa using h28)))), br_ (Sh (.inr (.inr (by simpa using h28))) 1 (by decide) (by decide))] (by simp only [go_sem, seval, ad_, ab_, ae_, ac_, T2_, T1_, a9_, aa_]; rfl) ?_ ?_)
    ·have k := h1 (.inr (.inr (by simpa using h28))); have q := (pj_ k).1; have q2 := acc_ k; simp [cm_, bw_, e2_, shf, q2]; omega
    refine .seq (.rgn [] (by simp only [go_sem, seval, ad_, ab_, ae_, ac_, T2_, T1_, a9_, aa_, bv_ (show -9223372036854775808 ≤ ((wds s.expr 1).length : Int) + 1 by omega) (by have := hW (by simpa using h28); omega)]; rfl) ?_ ?_)
    ·have k := h1 (.inr (.inr (by simpa using h28))); have q := (pj_ k).1; simp [cm_, bw_]; omega
    refine .seq (.rgn [br_ (X3 (by simpa using h28)), br_ (Sh3 (by simpa using h28) ((wds s.expr 1).length + 2) (by omega) (by have := hW (by simpa using h28); omega))] (by simp only [go_sem, seval, ad_, ab_, ae_, ac_, T2_, T1_, a9_, aa_, bv_ (show -9223372036854775808 ≤ ((wds s.expr 1).length : Int) + 2 by omega) (by have := hW (by simpa using h28); omega)]; rfl) ?_ ?_)
    ·have k := h1 (.inr (.inr (by simpa using h28))); have q := (pj_ k).1; have k2 := h2 (by simpa using h28); have q2 := (pj_ k2).1; simp [cm_, bw_]; omega
    refine .frz 65 (by simp only [go_sem, seval, ad_, ab_, ae_, ac_, T2_, T1_, a9_, aa_]; rfl) (by simp only [go_sem, seval, ad_, ab_, ae_, ac_, T2_, T1_, a9_, aa_]) (by simp only [go_sem, seval, ad_, ab_, ae_, ac_, T2_, T1_, a9_, aa_]; rfl) (by simp only [go_sem, seval, ad_, ab_, ae_, ac_, T2_, T1_, a9_, aa_]; rfl) ?_
    refine .ret ⟨.inr rfl, ?_⟩
    exact Out.plain (by simp only [Tryz.results82]; rfl) (by simp only [ba_, bs_, go_sem, seval, ad_, ab_, ae_, ac_, T2_, T1_, a9_, aa_] <;> (split <;> rfl)) (by simp only [bq_, go_sem, seval, ad_, ab_, ae_, ac_, T2_, T1_, a9_, aa_] <;> (have k : s.kind = 3 := (by simpa using h28); rw [if_pos (by omega), T1_ (by simp [ad_, a9_]; omega)]; simp [l8L, k, wdR, peel, fm_, wIf, j7_])) (by simp only [go_sem, seval, ad_, ab_, ae_, ac_, T2_, T1_, a9_, aa_])
   ·refine .skip (.seq (.rgn [] (by simp only [go_sem, seval, ad_, ab_, ae_, ac_, T2_, T1_, a9_, aa_]; rfl) ?_ ?_))
    ·(first | trivial | (simp; done) | (simp [cm_, bw_]; done))
    refine .can (Can.slotLe 2 (.sl false []) (by simp only [go_sem, seval, ad_, ab_, ae_, ac_, T2_, T1_, a9_, aa_] <;> trivial) (by simp only [go_sem, seval, ad_, ab_, ae_, ac_, T2_, T1_, a9_, aa_] <;> rfl)) ?_
    refine .ret ⟨.inr rfl, ?_⟩
    exact Out.plain (by simp only [Tryz.results82]; rfl) (by simp only [ba_, bs_, go_sem, seval, ad_, ab_, ae_, ac_, T2_, T1_, a9_, aa_] <;> (split <;> rfl)) (by simp only [bq_, go_sem, seval, ad_, ab_, ae_, ac_, T2_, T1_, a9_, aa_] <;> (have k : s.kind = 0 := (by simp_all); simp [l8L, k, wdR])) (by simp only [go_sem, seval, ad_, ab_, ae_, ac_, T2_, T1_, a9_, aa_])
theorem hh_ {s : Sl} (h : c8_ s = true) : (l8L s).length = (bw (bof s)).length ∧ (l8L s).map (·.1) = bw (bof s) := by
 obtain ⟨h0, h1, h2⟩ := fr_ h
 have T : ∀ e : E, eok e = true → (l8 e 1 1).map (·.1) = wds (bare e) 1 := fun e he => by
  rw [(h9_ 5 e 1 1 0 (ci_ he) (by decide) (by decide) (by decide)).fst, e5_]
 have hm : (l8L s).map (·.1) = bw (bof s) := by
  unfold l8L bw bof
  rcases h0 with k | k | k | k
  ·simp [k]
  ·simp [k, rt_, T _ (h1 (.inl k))]
  ·simp [k, rt_, T _ (h1 (.inr (.inl k)))]
  ·simp [k, rt_, T _ (h1 (.inr (.inr k))), T _ (h2 k)]
 exact ⟨by rw [← hm, List.length_map], hm⟩
end
section
set_option maxRecDepth 100000
set_option maxHeartbeats 4000000
theorem zo_ {e : E} {d : Int} (h : form e d = true) (nx : Int) : src e 1 nx = src e 0 nx := by
 rw [xa_ h 1 nx]
 obtain ⟨_, h1 | h1 | h1 | h1⟩ := cd_ h
 ·simp [h1.1, brk]
 ·simp [h1.1, brk]
 ·have := er_ h1.2.2.1
  rw [decide_eq_false (show ¬ bx_ e.s < 1 by omega), Bool.and_false]; rfl
 ·simp [h1.1, brk]
def Ltr (L : Wd) : Wd → Wd → Prop
 | [], [] => True
 | w :: B, c :: C => c.1 = w.1 ∧ ((w.2 = -1 ∧ c.2 = -1 ∧ (w.1 = [40] ∨ w.1 = [41] ∨ w.1 = j7_)) ∨ (0 ≤ w.2 ∧ 0 ≤ c.2 ∧ ∃ u, L[c.2.toNat]? = some u ∧ u.2 = w.2 ∧ (u.1 = w.1 ∨ (u.1 = h1_ ∧ w.1 = fm_) ∨ (u.1 = h5_ ∧ w.1 = wIf)))) ∧ Ltr L B C
 | _, _ => False
theorem Ltr.app {L : Wd} : ∀ {B C B' C' : Wd}, Ltr L B C → Ltr L B' C' → Ltr L (B ++ B') (C ++ C')
 | [], [], _, _, _, h => h
 | [], _ :: _, _, _, h, _ => by simp [Ltr] at h
 | _ :: _, [], _, _, h, _ => by simp [Ltr] at h
 | w :: B, c :: C, B', C', h, k => by
  simp only [Ltr] at h
  simp only [List.cons_append, Ltr]
  exact ⟨h.1, h.2.1, h.2.2.app k⟩
theorem Ltr.right {L Q : Wd} : ∀ {B C : Wd}, Ltr L B C → Ltr (L ++ Q) B C
 | [], [], _ => by simp [Ltr]
 | [], _ :: _, h => by simp [Ltr] at h
 | _ :: _, [], h => by simp [Ltr] at h
 | w :: B, c :: C, h => by
  simp only [Ltr] at h ⊢
  refine ⟨h.1, ?_, h.2.2.right⟩
  rcases h.2.1 with h1 | ⟨h1, h2, u, h3, h4⟩
  ·exact .inl h1
  ·exact .inr ⟨h1, h2, u, by rw [List.getElem?_append_left (List.getElem?_eq_some_iff.1 h3).1]; exact h3, h4⟩
def ri_ (l : Wd) : Prop := ∀ p ∈ l, p.2 = -1 → p.1 = [40] ∨ p.1 = [41]
theorem q7_ : ∀ (d : Nat) (e : E) (must nx : Int), form e d = true → pla e = true → 0 ≤ nx → ri_ (src e must nx)
 | 0, e, must, nx, h, _, _ => by have := (cd_ h).1; omega
 | d + 1, e, must, nx, h, hp, hn0 => by
  have e1 : ((d + 1 : Nat) : Int) - 1 = (d : Int) := by omega
  obtain ⟨h0, h1 | h1 | h1 | h1⟩ := cd_ h
  ·rw [m1_ h1.1]; intro p hp h; simp at hp; subst hp; dsimp only at h; omega
  ·rw [kq_ h1.1]; intro p hp h; simp at hp; subst hp; dsimp only at h; omega
  ·obtain ⟨k, hn, ho, hl, ha, hb⟩ := h1
   rw [e1] at ha hb
   have hpk : t4_ e.kids = true := by rw [ze_] at hp; simp only [T5_] at hp; exact hp.2
   rw [n2_ hl] at hpk
   simp only [t4_, Bool.and_true, T5_] at hpk
   have hc := do_ d _ 0 ha
   have A := q7_ d _ (max 2 (bx_ e.s)) (nx + 1) ha hpk.1 (by omega)
   have B := q7_ d _ (bx_ e.s + 1) (nx + 1 + cnt (e.kids.getD 0 E0)) hb hpk.2 (by omega)
   rw [hl_ k hl]
   have core : ri_ (src (e.kids.getD 0 E0) (max 2 (bx_ e.s)) (nx + 1) ++ (e.s, nx) :: src (e.kids.getD 1 E0) (bx_ e.s + 1) (nx + 1 + cnt (e.kids.getD 0 E0))) := by
    intro p hp h
    rcases List.mem_append.1 hp with hp | hp
    ·exact A p hp h
    ·rcases List.mem_cons.1 hp with rfl | hp
     ·dsimp only at h; omega
     ·exact B p hp h
   cases decide (bx_ e.s < must) with
   | false => exact core
   | true =>
    intro p hp h
    simp only [brk, if_true, List.mem_cons, List.mem_append, List.not_mem_nil, or_false] at hp
    rcases hp with rfl | hp | rfl
    ·exact .inl rfl
    ·exact core p (by simpa using hp) h
    ·exact .inr rfl
  ·rw [ze_] at hp; simp [h1.1] at hp
theorem Ltr.of {L P : Wd} : ∀ {B C : Wd}, ri_ B → Trc L B C → Ltr (P ++ L) B (shf P.length C)
 | [], [], _, _ => by simp [shf, Ltr]
 | [], _ :: _, _, h => by simp [Trc] at h
 | _ :: _, [], _, h => by simp [Trc] at h
 | w :: B, c :: C, hb, h => by
  simp only [Trc] at h
  have ih := Ltr.of (P := P) (fun p hp => hb p (List.mem_cons_of_mem _ hp)) h.2.2
  simp only [shf, List.map_cons, Ltr] at ih ⊢
  rcases h.2.1 with ⟨h1, h2⟩ | ⟨h1, h2, h3⟩
  ·rw [if_neg (by omega)]
   refine ⟨h.1, .inl ⟨h1, h2, ?_⟩, ih⟩
   rcases hb w List.mem_cons_self h1 with q | q
   ·exact .inl q
   ·exact .inr (.inl q)
  ·rw [if_pos h2]
   refine ⟨h.1, .inr ⟨h1, by dsimp only; omega, w, ?_, rfl, .inl rfl⟩, ih⟩
   dsimp only
   rw [show (c.2 + (P.length : Int)).toNat = P.length + c.2.toNat by omega, List.getElem?_append_right (by omega), Nat.add_sub_cancel_left]
   exact h3
theorem k5_ {e : E} (h : eok e = true) (P : Wd) (nx : Int) (hn : 0 ≤ nx) : Ltr (P ++ src e 0 nx) (src (bare e) 0 nx) (shf P.length (l8 e 1 1)) := by
 have hb := fe_ 5 e (ci_ h)
 have T := h9_ 5 e 1 1 nx (ci_ h) (by decide) (by decide) hn
 rw [zo_ (ci_ h), zo_ hb.1] at T
 exact Ltr.of (q7_ 5 _ 0 nx hb.1 (kl_ e (lr_ h)) hn) T
theorem om_ {s : Sl} (h : c8_ s = true) : Ltr (d0_ s) (ej_ (bof s)) (l8L s) := by
 obtain ⟨h0, h1, h2⟩ := fr_ h
 unfold d0_ ej_ bof l8L
 rcases h0 with k | k | k | k
 ·simp [k, Ltr]
 ·have q := k5_ (h1 (.inl k)) [(vt_, 100), (s.name, 101), (j7_, -1), (s.type, -1), (wEq, 102)] 0 (by decide)
  simp only [k, if_true, show ¬ (1 : Int) = 0 by omega, if_false]
  simp only [List.cons_append, List.nil_append, T7_, List.length_nil] at q
  simp only [Ltr]
  exact ⟨trivial, .inr ⟨by decide, by decide, (s.name, 101), rfl, rfl, .inl rfl⟩, trivial, .inr ⟨by decide, by decide, (wEq, 102), rfl, rfl, .inl rfl⟩, q⟩
 ·have q := k5_ (h1 (.inr (.inl k))) [(h1_, 103)] 0 (by decide)
  simp only [k, if_true, show ¬ (2 : Int) = 0 by omega, show ¬ (2 : Int) = 1 by omega, if_false]
  simp only [List.cons_append, List.nil_append, T7_, List.length_nil] at q
  simp only [Ltr]
  exact ⟨trivial, .inr ⟨by decide, by decide, (h1_, 103), rfl, rfl, .inr (.inl ⟨rfl, trivial⟩)⟩, q⟩
 ·have he := h1 (.inr (.inr k))
  have q := k5_ he [(h5_, 100)] 0 (by decide)
  have hc := (do_ 5 _ 0 (ci_ he)).2.2.2
  have q2 := k5_ (h2 k) ((h5_, 100) :: src s.expr 0 0 ++ [(h1_, 103)]) (cnt s.expr) (by omega)
  have hl : (src s.expr 0 0).length = (wds s.expr 1).length := by rw [l5_, go_ (ci_ he)]
  simp only [k, if_true, show ¬ (3 : Int) = 0 by omega, show ¬ (3 : Int) = 1 by omega, show ¬ (3 : Int) = 2 by omega, if_false]
  rw [it_ 5 _ (ci_ he)]
  refine Ltr.app (Ltr.app (B := (wIf, 100) :: _) (C := (wIf, 0) :: _) ?_ ?_) ?_
  ·simp only [List.cons_append, List.nil_append, T7_, List.length_nil] at q
   simp only [Ltr]
   refine ⟨trivial, .inr ⟨by decide, by decide, (h5_, 100), rfl, rfl, .inr (.inr ⟨rfl, trivial⟩)⟩, ?_⟩
   have := (q.right (Q := [(h1_, 103)])).right (Q := src s.thn 0 (cnt s.expr))
   simpa using this
  ·simp only [Ltr]
   refine ⟨trivial, .inl ⟨trivial, trivial, .inr (.inr trivial)⟩, trivial, .inr ⟨by decide, by omega, (h1_, 103), ?_, rfl, .inr (.inl ⟨rfl, trivial⟩)⟩, trivial⟩
   rw [← hl, show (((src s.expr 0 0).length : Int) + 1).toNat = (src s.expr 0 0).length + 1 by omega]
   simp
  ·have e2 : ((((h5_, 100) :: src s.expr 0 0 ++ [(h1_, 103)] : Wd).length : Nat) : Int) = ((wds s.expr 1).length : Int) + 2 := by rw [← hl]; simp; omega
   rw [e2] at q2
   simpa using q2
theorem sq_ {s : Sl} (h : c8_ s = true) : (ids (d0_ s)).Nodup := by
 obtain ⟨h0, h1, h2⟩ := fr_ h
 have I : ∀ e : E, eok e = true → ∀ nx : Int, 0 ≤ nx → nx ≤ 12 → (ids (src e 0 nx)).Nodup ∧ ∀ i ∈ ids (src e 0 nx), nx ≤ i ∧ i < nx + cnt e ∧ i < 100 := fun e he nx hn hn2 => by
  have := ng_ 5 e 0 nx (ci_ he) hn
  have hc := jr_ he
  exact ⟨this.1, fun i hi => by have := this.2 i hi; omega⟩
 unfold d0_
 rcases h0 with k | k | k | k
 ·simp [k, ids]
 ·obtain ⟨i1, i2⟩ := I _ (h1 (.inl k)) 0 (by decide) (by decide)
  simp only [k, if_true, hz_, show (0 : Int) ≤ 100 by omega, show (0 : Int) ≤ 101 by omega, show (0 : Int) ≤ 102 by omega, show ¬ (0 : Int) ≤ -1 by omega, if_false]
  simp only [List.nodup_cons, List.mem_cons]
  exact ⟨fun h => by rcases h with h | h | h; omega; omega; have := i2 _ h; omega, fun h => by rcases h with h | h; omega; have := i2 _ h; omega, fun h => by have := i2 _ h; omega, i1⟩
 ·obtain ⟨i1, i2⟩ := I _ (h1 (.inr (.inl k))) 0 (by decide) (by decide)
  simp only [k, if_true, show ¬ (2 : Int) = 1 by omega, if_false, hz_, show (0 : Int) ≤ 103 by omega, List.nodup_cons]
  exact ⟨fun h => by have := i2 _ h; omega, i1⟩
 ·have he := h1 (.inr (.inr k))
  have hc := jr_ he
  obtain ⟨i1, i2⟩ := I _ he 0 (by decide) (by decide)
  obtain ⟨j1, j2⟩ := I _ (h2 k) (cnt s.expr) (by omega) (by omega)
  rw [if_neg (by omega), if_neg (by omega), if_pos k]
  have e1 : ids ((h5_, 100) :: src s.expr 0 0 ++ [(h1_, 103)] ++ src s.thn 0 (cnt s.expr)) = 100 :: (ids (src s.expr 0 0) ++ 103 :: ids (src s.thn 0 (cnt s.expr))) := by
   simp [m7_, hz_, wj_]
  rw [e1]
  refine List.nodup_cons.2 ⟨fun h => ?_, List.nodup_append.2 ⟨i1, List.nodup_cons.2 ⟨fun h => by have := j2 _ h; omega, j1⟩, fun a ha b hb => ?_⟩⟩
  ·rcases List.mem_append.1 h with h | h
   ·have := i2 _ h; omega
   ·rcases List.mem_cons.1 h with h | h
    ·omega
    ·have := j2 _ h; omega
  ·have q := i2 a ha
   rcases List.mem_cons.1 hb with rfl | hb
   ·omega
   ·have := j2 b hb; omega
def fq_ (s : Sl) : List Int := (ej_ (bof s)).map fun w => if w.2 < 0 then -1 else fi_ 0 (d0_ s) w.2
theorem Ltr.len {L : Wd} : ∀ {B C : Wd}, Ltr L B C → C.length = B.length
 | [], [], _ => rfl
 | [], _ :: _, h => by simp [Ltr] at h
 | _ :: _, [], h => by simp [Ltr] at h
 | w :: B, c :: C, h => by
  simp only [Ltr] at h
  simp only [T7_, h.2.2.len]
theorem Ltr.get {L : Wd} : ∀ {B C : Wd}, Ltr L B C → ∀ {j : Nat} {w : Str × Int}, B[j]? = some w → ∃ c, C[j]? = some c ∧ c.1 = w.1 ∧ ((w.2 = -1 ∧ c.2 = -1 ∧ (w.1 = [40] ∨ w.1 = [41] ∨ w.1 = j7_)) ∨ (0 ≤ w.2 ∧ 0 ≤ c.2 ∧ ∃ u, L[c.2.toNat]? = some u ∧ u.2 = w.2 ∧ (u.1 = w.1 ∨ (u.1 = h1_ ∧ w.1 = fm_) ∨ (u.1 = h5_ ∧ w.1 = wIf))))
 | [], [], _, j, w, hw => by simp at hw
 | [], _ :: _, h, _, _, _ => by simp [Ltr] at h
 | _ :: _, [], h, _, _, _ => by simp [Ltr] at h
 | v :: B, c :: C, h, j, w, hw => by
  simp only [Ltr] at h
  cases j with
  | zero =>
   simp only [List.getElem?_cons_zero, Option.some.injEq] at hw; subst hw
   exact ⟨c, rfl, h.1, h.2.1⟩
  | succ j =>
   simp only [List.getElem?_cons_succ] at hw ⊢
   exact h.2.2.get hw
theorem w7_ {s : Sl} (h : c8_ s = true) : im_ s = fq_ s := by
 have T := om_ h
 have hn := sq_ h
 have hm := mz_ h
 unfold im_ fq_
 apply List.ext_getElem?
 intro j
 rw [List.getElem?_map, List.getElem?_map]
 cases hj : (ej_ (bof s))[j]? with
 | none =>
  have : (l8L s)[j]? = none := List.getElem?_eq_none (by rw [T.len]; exact List.getElem?_eq_none_iff.1 hj)
  rw [this]; rfl
 | some w =>
  obtain ⟨c, c1, c2, c3⟩ := T.get hj
  rw [c1]
  simp only [Option.map_some, Option.some.injEq]
  rcases c3 with ⟨q1, q2, _⟩ | ⟨q1, q2, u, q3, q4, _⟩
  ·rw [if_pos (by omega), if_pos (by omega)]
  ·rw [if_neg (by omega), if_neg (by omega)]
   have := lb_ 0 hn q3 (by omega)
   rw [hm, q4] at this
   rw [T8_, this]; rfl
theorem ae2_ {s : Sl} (h : c8_ s = true) {w : Str × Int} (hw : w ∈ ej_ (bof s)) (h0 : 0 ≤ w.2) : w.2 ∈ ids (d0_ s) := by
 obtain ⟨j, hj⟩ := List.mem_iff_getElem?.1 hw
 obtain ⟨c, _, _, c3⟩ := (om_ h).get hj
 rcases c3 with ⟨q1, _⟩ | ⟨_, _, u, q3, q4, _⟩
 ·omega
 ·exact q4_.2 ⟨List.mem_map.2 ⟨u, List.mem_of_getElem? q3, q4⟩, h0⟩
theorem afw_ {s : Sl} (h : c8_ s = true) : ∀ p ∈ l8L s, p.2 < ((sw' s).length : Int) := fun p hp => by
 have T := om_ h
 obtain ⟨j, hj⟩ := List.mem_iff_getElem?.1 hp
 have hl := (List.getElem?_eq_some_iff.1 hj).1
 rw [T.len] at hl
 obtain ⟨c, c1, _, c3⟩ := T.get (T6_ hl)
 rw [hj] at c1; cases c1
 rcases c3 with ⟨_, q2, _⟩ | ⟨_, q2, u, q3, _⟩
 ·omega
 ·have := (List.getElem?_eq_some_iff.1 q3).1
  have e : (d0_ s).length = (sw' s).length := by rw [← mz_ h, List.length_map]
  omega
end
section
set_option maxRecDepth 100000
set_option maxHeartbeats 4000000
def emT (s : Sl) : Str := if sok s then cj_ (bw (bof s)) else []
def emF (s : Sl) : List Int := if sok s then fq_ s else []
theorem aay_ {s : Sl} (h : c8_ s = true) : wid (sw' s) ≤ 1000 := by
 have := oa_ h
 have h2 := acp_ (fun s hs => (this.2 s hs).2)
 rw [wg_]; omega
theorem gw_ (s : Sl) : (im_ s).length = (l8L s).length := by simp [im_]
theorem qd_ {s : Sl} {k : Nat} (h : k < (l8L s).length) : (im_ s).getD k 0 = if ((l8L s).getD k ([], 0)).2 < 0 then -1 else (c2_ 0 (sw' s)).getD ((l8L s).getD k ([], 0)).2.toNat 0 := by
 simp [im_, T8_, T6_ h]
theorem tb_ {l : List Int} {k : Nat} (h : k < l.length) : inR (l.take (k + 1)) = inR (l.take k) ++ [[.i .i64 (l.getD k 0)]] := by
 rw [List.take_add_one, T6_ h, vw_, T8_, T6_ h]; rfl
theorem qg_ {l : List Str} {k : Nat} (h : k < l.length) : c1_ (l.take (k + 1)) = c1_ (l.take k) ++ [[.s (l.getD k [])]] := by
 rw [List.take_add_one, T6_ h, abk_, T8_, T6_ h]; rfl
theorem ac6_ {l : Wd} {k : Nat} (h : k < l.length) : (l.map (·.1)).getD k [] = (l.getD k ([], 0)).1 := by
 simp [T8_, T6_ h]
theorem tk_ (s : Sl) (hs : fg_ s = true) : ACall En 19 [.ag (sC s)] [] [.s (emT s), .sl false (inR (emF s))] [] := by
 have L : sok s = true → (l8L s).length ≤ 76 := fun h => by have := (pu_ (hx_ (d7_ h))).1; have := (hh_ (d7_ h)).1; omega
 have hm : sok s = true → (l8L s).map (·.1) = bw (bof s) := fun h => (hh_ (d7_ h)).2
 refine an_ (fn := Tryz.f19) [] Tryz.func19 rfl rfl (by simp) fun C => ?_
 rw [bb_]
 simp only [Tryz.ntmps19, T7_, List.length_nil, Nat.reduceAdd, Nat.reduceSub, List.replicate_succ, List.replicate_zero, List.cons_append, List.nil_append, bu_]
 refine .seq (.rgn [] (by simp only [go_sem, seval, aa_, ad_, ab_, ae_, ac_, a0_, ah_, bi_]; rfl) ?_ ?_)
 ·(first | trivial | (simp; done) | (simp at h23; simp; omega))
 refine .seq (.seq (.rgn [br_ (l7_ s hs)] (by simp only [go_sem, seval, aa_, ad_, ab_, ae_, ac_, a0_, ah_, bi_]; rfl) ?_ ?_))
 ·(first | trivial | (simp; done) | (simp at h23; simp; omega))
 refine .condB (by simp only [go_sem, seval, aa_, ad_, ab_, ae_, ac_, a0_, ah_, bi_]; rfl) (by simp only [go_sem, seval, aa_, ad_, ab_, ae_, ac_, a0_, ah_, bi_]) (fun h11 => ?_) (fun h11 => ?_)
 ·refine .seq (.rgn [] (by simp only [go_sem, seval, aa_, ad_, ab_, ae_, ac_, a0_, ah_, bi_]; rfl) ?_ ?_)
  ·(first | trivial | (simp; done) | (simp at h23; simp; omega))
  refine .ret ⟨.inr rfl, ?_⟩
  exact Out.plainL (by simp only [Tryz.results19]; rfl) (by simp only [ba_, bs_, go_sem, seval, aa_, ad_, ab_, ae_, ac_, a0_, ah_, bi_] <;> (split <;> rfl)) (by simp only [bq_, go_sem, seval, aa_, ad_, ab_, ae_, ac_, a0_, ah_, bi_] <;> (simp at h11; simp [emT, emF, h11, inR, ler])) (by simp only [go_sem, seval, aa_, ad_, ab_, ae_, ac_, a0_, ah_, bi_])
 ·refine .skip (.seq (.rgn [dw_ (sok s = true) (fun h => ab2_ s (d7_ h) hs)] (by simp only [go_sem, seval, aa_, ad_, ab_, ae_, ac_, a0_, ah_, bi_]; rfl) ?_ ?_))
  ·simpa using h11
  refine .seq (.rgn [dw_ (sok s = true) (fun h => lj_ s (d7_ h) hs), dw_ (sok s = true) (fun h => aco_ (sw' s) (by have := (oa_ (d7_ h)).1; omega) (by have := aay_ (d7_ h); omega))] (by simp only [go_sem, seval, aa_, ad_, ab_, ae_, ac_, a0_, ah_, bi_]; rfl) ?_ ?_)
  ·simpa using h11
  refine .seq (.rgn [] (by simp only [go_sem, seval, aa_, ad_, ab_, ae_, ac_, a0_, ah_, bi_]; rfl) ?_ ?_)
  ·(first | trivial | (simp; done) | (simp at h23; simp; omega))
  refine .seq (.rgn [] (by simp only [go_sem, seval, aa_, ad_, ab_, ae_, ac_, a0_, ah_, bi_]; rfl) ?_ ?_)
  ·(first | trivial | (simp; done) | (simp at h23; simp; omega))
  refine .seq (.seq (.rgn [] (by simp only [go_sem, seval, aa_, ad_, ab_, ae_, ac_, a0_, ah_, bi_]; rfl) ?_ ?_))
  ·(first | trivial | (simp; done) | (simp at h23; simp; omega))
  refine .block (.loopK (fun k : Nat => ⟨[.no, .no, .no, .no, .sl false (wdR (l8L s)), .sl false (inR (c2_ 0 (sw' s))), .ow 60 1 0 k, .ow 61 1 0 k, .i .i64 k, .no, .no, .no, .no, .no, .no, .no, .no, .no, .no, .no, .no, .no, .no, .no, .no, .no, .no, .no, .no, .no, .no, .no, .no, .no, .no, .no, .no, .no, .no, .no, .no, .no, .no, .no, .no, .no, .no, .no, .no, .no, .no, .no, .no, .no, .no, .no, .no], bf_ [(60, ⟨9, 1, c1_ ((bw (bof s)).take k)⟩), (61, ⟨3, 1, inR ((im_ s).take k)⟩)], us [60, 61]⟩) (fun k : Nat => k ≤ (l8L s).length ∧ sok s = true) (fun k : Nat => (l8L s).length - k) (0) ?_ ?_ (fun k hI => ?_))
  ·exact ⟨by simp, by simpa using h11⟩
  ·refine Can.trans (Can.ownSlot 6 60 9 1 (by simp only [go_sem, seval, aa_, ad_, ab_, ae_, ac_, a0_, ah_, bi_] <;> rfl) (by simp only [go_sem, seval, aa_, ad_, ab_, ae_, ac_, a0_, ah_, bi_]) (by simp only [go_sem, seval, aa_, ad_, ab_, ae_, ac_, a0_, ah_, bi_] <;> rfl)) ?_
   refine Can.trans (Can.ownSlot 7 61 3 1 (by simp only [go_sem, seval, aa_, ad_, ab_, ae_, ac_, a0_, ah_, bi_] <;> rfl) (by simp only [go_sem, seval, aa_, ad_, ab_, ae_, ac_, a0_, ah_, bi_]) (by simp only [go_sem, seval, aa_, ad_, ab_, ae_, ac_, a0_, ah_, bi_] <;> rfl)) ?_
   exact Can.weak (Weak.lit (by simp only [go_sem, seval, aa_, ad_, ab_, ae_, ac_, a0_, ah_, bi_, a2_, leV, az_, ay_, V.inn, us, T9_, Ta_] <;> (simp)) (by simp only [go_sem, seval, aa_, ad_, ab_, ae_, ac_, a0_, ah_, bi_, a2_, leV, az_, ay_, V.inn, us, T9_, Ta_]) (by simp only [go_sem, seval, aa_, ad_, ab_, ae_, ac_, a0_, ah_, bi_, a2_, leV, az_, ay_, V.inn, us, T9_, Ta_] <;> (simp [c1_, inR])))
  refine .seq (.seq (.rgn [] (by simp only [go_sem, seval, aa_, ad_, ab_, ae_, ac_, a0_, ah_, bi_]; rfl) ?_ ?_))
  ·(first | trivial | (simp; done) | (simp at h23; simp; omega))
  refine .condB (by simp only [go_sem, seval, aa_, ad_, ab_, ae_, ac_, a0_, ah_, bi_]; rfl) (by simp only [go_sem, seval, aa_, ad_, ab_, ae_, ac_, a0_, ah_, bi_]) (fun h23 => ?_) (fun h23 => ?_)
  ·refine .skip (.seqJ (fun u : Unit => ⟨[.no, .no, .no, .no, .sl false (wdR (l8L s)), .sl false (inR (c2_ 0 (sw' s))), .ow 43 1 0 (k + 1), .ow 61 1 0 (k + 1), .i .i64 k, .no, .no, .no, .no, .no, .no, .no, .no, .no, .no, .no, .no, .no, .no, .no, .no, .no, .no, .no, .no, .no, .no, .no, .no, .no, .no, .no, .no, .no, .no, .no, .no, .no, .no, .no, .no, .no, .no, .no, .no, .no, .no, .no, .no, .no, .no, .no, .no], bf_ [(43, ⟨9, 1, c1_ ((bw (bof s)).take (k + 1))⟩), (61, ⟨3, 1, inR ((im_ s).take (k + 1))⟩)], us [43, 61]⟩) (fun u : Unit => True) ?_ (fun u hJ => ?_))
   ·refine .block (.seq (.rgn [] (by simp only [go_sem, seval, aa_, ad_, ab_, ae_, ac_, a0_, ah_, bi_, hk_ (show k < (l8L s).length by simpa using h23)]; rfl) ?_ ?_))
    ·simp only [T3_] at h23; have q := L hI.2; have q2 := (hh_ (d7_ hI.2)).1; simp; omega
    refine .seq (.rgn [] (by simp only [go_sem, seval, aa_, ad_, ab_, ae_, ac_, a0_, ah_, bi_, hk_ (show k < (l8L s).length by simpa using h23)]; rfl) ?_ ?_)
    ·(first | trivial | (simp; done) | (simp at h23; simp; omega))
    refine .condB (by simp only [go_sem, seval, aa_, ad_, ab_, ae_, ac_, a0_, ah_, bi_]; rfl) (by simp only [go_sem, seval, aa_, ad_, ab_, ae_, ac_, a0_, ah_, bi_]) (fun h39 => ?_) (fun h39 => ?_)
    ·refine .rgn [] (by simp only [go_sem, seval, aa_, ad_, ab_, ae_, ac_, a0_, ah_, bi_]; rfl) ?_ ?_
     ·simp only [T3_] at h23; have q := L hI.2; have q2 := gw_ s; simp; omega
     refine Exists.intro (()) ⟨?_, ?_⟩
     ·trivial
     refine Can.trans (Can.swap 52 61 (by decide) (by decide) (by decide) (by decide) (by simp only [go_sem, seval, aa_, ad_, ab_, ae_, ac_, a0_, ah_, bi_, V.cl]) (by simp only [go_sem, seval, aa_, ad_, ab_, ae_, ac_, a0_, ah_, bi_, V.cl]) (by simp only [go_sem, seval, aa_, ad_, ab_, ae_, ac_, a0_, ah_, bi_, b9_, sw, swM, rnB] <;> rfl) (by simp only [go_sem, seval, aa_, ad_, ab_, ae_, ac_, a0_, ah_, bi_, b9_, sw, swM, rnB] <;> rfl) (by simp only [go_sem, seval, aa_, ad_, ab_, ae_, ac_, a0_, ah_, bi_, b9_, sw, swM, rnB] <;> rfl)) ?_
     exact Can.weak (Weak.lit (by simp only [go_sem, seval, aa_, ad_, ab_, ae_, ac_, a0_, ah_, bi_, a2_, leV, az_, ay_, V.inn, us, T9_, Ta_] <;> (simp)) (by simp only [go_sem, seval, aa_, ad_, ab_, ae_, ac_, a0_, ah_, bi_, a2_, leV, az_, ay_, V.inn, us, T9_, Ta_]) (by simp only [go_sem, seval, aa_, ad_, ab_, ae_, ac_, a0_, ah_, bi_, a2_, leV, az_, ay_, V.inn, us, T9_, Ta_] <;> ((simp only [T3_] at h23); (have q2 := (hh_ (d7_ hI.2)).1); rw [qg_ (show k < (bw (bof s)).length by omega), tb_ (show k < (im_ s).length by rw [gw_]; omega), qd_ (show k < (l8L s).length by omega), ← hm hI.2, ac6_ (show k < (l8L s).length by omega)]; (first | (simp only [T3_] at h39; rw [if_pos h39]; simp; done) | (simp only [T4_] at h39; rw [if_neg h39]; simp; done) | trace_state))))
    ·refine .rgn [] (by simp only [go_sem, seval, aa_, ad_, ab_, ae_, ac_, a0_, ah_, bi_, hk_ (show k < (l8L s).length by simpa using h23), hj_ (show ((l8L s).getD k ([], 0)).2.toNat < (c2_ 0 (sw' s)).length by have := afw_ (d7_ hI.2) _ (b2_ (d := ([], 0)) (show k < (l8L s).length by simpa using h23)); simp only [T4_] at h39; rw [bi_]; omega)]; rfl) ?_ ?_
     ·simp only [T3_] at h23; simp only [T4_] at h39; have q := L hI.2; have q2 := gw_ s; have q3 := afw_ (d7_ hI.2) _ (b2_ (d := ([], 0)) (show k < (l8L s).length by omega)); simp [-List.getD_eq_getElem?_getD]; omega
     refine Exists.intro (()) ⟨?_, ?_⟩
     ·trivial
     refine Can.trans (Can.swap 63 61 (by decide) (by decide) (by decide) (by decide) (by simp only [go_sem, seval, aa_, ad_, ab_, ae_, ac_, a0_, ah_, bi_, V.cl]) (by simp only [go_sem, seval, aa_, ad_, ab_, ae_, ac_, a0_, ah_, bi_, V.cl]) (by simp only [go_sem, seval, aa_, ad_, ab_, ae_, ac_, a0_, ah_, bi_, b9_, sw, swM, rnB] <;> rfl) (by simp only [go_sem, seval, aa_, ad_, ab_, ae_, ac_, a0_, ah_, bi_, b9_, sw, swM, rnB] <;> rfl) (by simp only [go_sem, seval, aa_, ad_, ab_, ae_, ac_, a0_, ah_, bi_, b9_, sw, swM, rnB] <;> rfl)) ?_
     exact Can.weak (Weak.lit (by simp only [go_sem, seval, aa_, ad_, ab_, ae_, ac_, a0_, ah_, bi_, a2_, leV, az_, ay_, V.inn, us, T9_, Ta_] <;> (simp)) (by simp only [go_sem, seval, aa_, ad_, ab_, ae_, ac_, a0_, ah_, bi_, a2_, leV, az_, ay_, V.inn, us, T9_, Ta_]) (by simp only [go_sem, seval, aa_, ad_, ab_, ae_, ac_, a0_, ah_, bi_, a2_, leV, az_, ay_, V.inn, us, T9_, Ta_] <;> ((simp only [T3_] at h23); (have q2 := (hh_ (d7_ hI.2)).1); rw [qg_ (show k < (bw (bof s)).length by omega), tb_ (show k < (im_ s).length by rw [gw_]; omega), qd_ (show k < (l8L s).length by omega), ← hm hI.2, ac6_ (show k < (l8L s).length by omega)]; (first | (simp only [T3_] at h39; rw [if_pos h39]; simp; done) | (simp only [T4_] at h39; rw [if_neg h39]; simp; done) | trace_state))))
   refine .rgn [] (by simp only [go_sem, seval, aa_, ad_, ab_, ae_, ac_, a0_, ah_, bi_]; rfl) ?_ ?_
   ·(first | trivial | (simp; done) | (simp at h23; simp; omega))
   refine Exists.intro (k + 1) ⟨?_, ?_, ?_⟩
   ·simp at h23; exact ⟨by omega, hI.2⟩
   ·simp at h23; omega
   refine Can.trans (Can.swap 43 60 (by decide) (by decide) (by decide) (by decide) (by simp only [go_sem, seval, aa_, ad_, ab_, ae_, ac_, a0_, ah_, bi_, V.cl]) (by simp only [go_sem, seval, aa_, ad_, ab_, ae_, ac_, a0_, ah_, bi_, V.cl]) (by simp only [go_sem, seval, aa_, ad_, ab_, ae_, ac_, a0_, ah_, bi_, b9_, sw, swM, rnB] <;> rfl) (by simp only [go_sem, seval, aa_, ad_, ab_, ae_, ac_, a0_, ah_, bi_, b9_, sw, swM, rnB] <;> rfl) (by simp only [go_sem, seval, aa_, ad_, ab_, ae_, ac_, a0_, ah_, bi_, b9_, sw, swM, rnB] <;> rfl)) ?_
   exact Can.weak (Weak.lit (by simp only [go_sem, seval, aa_, ad_, ab_, ae_, ac_, a0_, ah_, bi_, a2_, leV, az_, ay_, V.inn, us, T9_, Ta_] <;> ((have q := L hI.2); rw [bv_ (by simp at h23; omega) (by simp at h23; omega)]; simp)) (by simp only [go_sem, seval, aa_, ad_, ab_, ae_, ac_, a0_, ah_, bi_, a2_, leV, az_, ay_, V.inn, us, T9_, Ta_]) (by simp only [go_sem, seval, aa_, ad_, ab_, ae_, ac_, a0_, ah_, bi_, a2_, leV, az_, ay_, V.inn, us, T9_, Ta_]))
  ·refine .exit (.seq (.rgn [zl_ (sok s = true) (fun h => j6_ (bw (bof s)) (by have := (pu_ (hx_ (d7_ h))).1; omega) (by have := wf_ (hx_ (d7_ h)); omega))] (by simp only [go_sem, seval, aa_, ad_, ab_, ae_, ac_, a0_, ah_, bi_]; rfl) ?_ ?_))
   ·simp only [T4_] at h23; have q2 := (hh_ (d7_ hI.2)).1; obtain rfl : k = (bw (bof s)).length := (by omega); refine ⟨?_, hI.2⟩; rw [T1_ (Nat.le_refl _), if_pos (Nat.le_refl _), T1_ (by rw [ae_]; exact Nat.le_refl _)]; exact fk_ _
   refine .frz 61 (by simp only [go_sem, seval, aa_, ad_, ab_, ae_, ac_, a0_, ah_, bi_]; rfl) (by simp only [go_sem, seval, aa_, ad_, ab_, ae_, ac_, a0_, ah_, bi_]) (by simp only [go_sem, seval, aa_, ad_, ab_, ae_, ac_, a0_, ah_, bi_]; rfl) (by simp only [go_sem, seval, aa_, ad_, ab_, ae_, ac_, a0_, ah_, bi_]; rfl) ?_
   refine .ret ⟨.inr rfl, ?_⟩
   exact Out.plainL (by simp only [Tryz.results19]; rfl) (by simp only [ba_, bs_, go_sem, seval, aa_, ad_, ab_, ae_, ac_, a0_, ah_, bi_] <;> (split <;> rfl)) (by simp only [bq_, go_sem, seval, aa_, ad_, ab_, ae_, ac_, a0_, ah_, bi_] <;> (simp at h11; simp only [T4_] at h23; have q2 := (hh_ (d7_ hI.2)).1; have q3 := gw_ s; obtain rfl : k = (im_ s).length := (by omega); rw [T1_ (Nat.le_refl _), if_pos (Nat.le_refl _), T1_ (by rw [a0_]; exact Nat.le_refl _), w7_ (d7_ hI.2)]; simp [emT, emF, h11, peel, bh_, fk_])) (by simp only [go_sem, seval, aa_, ad_, ab_, ae_, ac_, a0_, ah_, bi_])
theorem acd_ : En.P.underlying 180 = some (.map 3 3) := Tryz.underlying180
theorem aca_ : En.P.underlying 3 = some (.int .i64) := Tryz.underlying3
theorem acr_ {s : Sl} (h : c8_ s = true) : (d0_ s).length ≤ 76 ∧ gh_ (d0_ s) ≤ 1000 := by
 have h1 := (oa_ h).1
 have h2 := aay_ h
 rw [← mz_ h] at h1 h2
 exact ⟨by simpa using h1, by unfold gh_; omega⟩
theorem ab7_ {b : Bl} (h : jl_ b = true) : (ej_ b).length ≤ 76 := by
 have h1 := (pu_ h).1
 rw [← wy_ h] at h1
 simpa using h1
theorem ya_ (s : Sl) : (fq_ s).length = (ej_ (bof s)).length := by simp [fq_]
theorem qs_ {s : Sl} {k : Nat} (h : k < (ej_ (bof s)).length) : (fq_ s).getD k 0 = if ((ej_ (bof s)).getD k ([], 0)).2 < 0 then -1 else fi_ 0 (d0_ s) ((ej_ (bof s)).getD k ([], 0)).2 := by
 simp [fq_, T8_, T6_ h]
theorem m8_ {l : List Int} {k : Nat} (h : k < l.length) (z : List V) {r : List V} (hr : r = [.i .i64 (l.getD k 0)]) : (de_ (inR l) z k).set k r = de_ (inR l) z (k + 1) := by
 rw [hr, ← hj_ h]; exact g8_ (by rw [a0_]; exact h)
theorem aep_ {s : Sl} (h : c8_ s = true) {k : Nat} (hk : k < (ej_ (bof s)).length) (h0 : 0 ≤ ((ej_ (bof s)).getD k ([], 0)).2) : i2_ (mq_ (d0_ s) (d0_ s).length) ((ej_ (bof s)).getD k ([], 0)).2 = some (fi_ 0 (d0_ s) ((ej_ (bof s)).getD k ([], 0)).2) :=
 aac_ (sq_ h) (ae2_ h (b2_ hk) h0)
theorem agc_ (s : Sl) (h : c8_ s = true) (hs : fg_ s = true) : ACall En 87 [.ag (sC s)] [] [.s (cj_ (bw (bof s))), .ow 0 1 0 (fq_ s).length] [⟨3, 1, inR (fq_ s)⟩] := by
 obtain ⟨l1, l2⟩ := acr_ h
 have hb := hx_ h
 have hsb := wa_ hs
 have l3 := ab7_ hb
 have W := tj_ s h hs
 have Cl := yb_ (d0_ s) (by omega) (by omega)
 have Bo := td_ s hs (hi_ h).1 (hi_ h).2
 have Bw := uf_ (bof s) hb hsb
 have Bt := ade_ (bof s) hb hsb
 have hfl := ya_ s
 have hll : (inR (fq_ s)).length = (ej_ (bof s)).length := by rw [a0_, hfl]
 have hp : ∀ k, cz_ (de_ (inR (fq_ s)) [.i .i64 0] k) = true := fun k => hu_ (ah_ _) rfl
 have hd1 : ∀ k j, ((de_ (inR (fq_ s)) [.i .i64 0] k).getD j []).drop 1 = [] := th_ _ _ (fun r hr => wh_ hr) rfl
 have hcl : (c2_ 0 ((d0_ s).map (·.1))).length = (d0_ s).length := by rw [bi_, List.length_map]
 refine an_ (fn := Tryz.f87) [46] Tryz.func87 rfl rfl (by simp) fun C => ?_
 rw [bb_]
 simp only [Tryz.ntmps87, T7_, List.length_nil, Nat.reduceAdd, Nat.reduceSub, List.replicate_succ, List.replicate_zero, List.cons_append, List.nil_append, bu_]
 refine .seq (.rgn [] (by simp only [go_sem, seval, aa_, a3_, ad_, ab_, a0_, ah_, hcl, hll, hp, hd1, au_, bt_]; rfl) ?_ ?_)
 ·first | trivial | simp
 refine .seq (.rgnS [12] [aft_ En 70] (by simp only [go_sem, seval, aa_, a3_, ad_, ab_, a0_, ah_, hcl, hll, hp, hd1, au_, bt_]; rfl) ?_ ?_)
 ·first | trivial | simp
 refine .seq (.rgn [br_ W] (by simp only [go_sem, seval, aa_, a3_, ad_, ab_, a0_, ah_, hcl, hll, hp, hd1, au_, bt_]; rfl) ?_ ?_)
 ·first | trivial | simp
 refine .seq (.seq (.rgn [br_ Cl] (by simp only [go_sem, seval, aa_, a3_, ad_, ab_, a0_, ah_, hcl, hll, hp, hd1, au_, bt_]; rfl) ?_ ?_))
 ·first | trivial | simp
 refine .block (.loopK (fun k : Nat => ⟨[.no, .pt 11 11 0 0, .no, .no, .pt 70 0 0 0, .sl false (wdR (d0_ s)), .no, .no, .no, .no, .no, .no, .no, .no, .no, .no, .sl false (inR (c2_ 0 ((d0_ s).map (·.1)))), .i .i64 (d0_ s).length, .i .i64 k, .no, .no, .no, .no, .no, .no, .no, .no, .no, .no, .no, .no, .no, .no, .no, .no, .no, .no, .no, .no, .no, .no, .no, .no, .no, .no, .no, .no, .no, .no, .no, .no, .no, .no, .no, .no, .no, .no, .no, .no, .no, .no, .no], bf_ [(11, ⟨35, 11, [sC s]⟩), (70, ⟨0, 0, mR (mq_ (d0_ s) k)⟩)], us [11, 70]⟩) (fun k : Nat => k ≤ (d0_ s).length) (fun k : Nat => (d0_ s).length - k) (0) ?_ ?_ (fun k hI => ?_))
 ·simp
 ·exact Can.weak (Weak.lit (by simp only [go_sem, seval, aa_, a3_, ad_, ab_, a0_, ah_, hcl, hll, hp, hd1, au_, bt_, a2_, leV, az_, ay_, V.inn, us, T9_, Ta_] <;> (simp)) (by simp only [go_sem, seval, aa_, a3_, ad_, ab_, a0_, ah_, hcl, hll, hp, hd1, au_, bt_, a2_, leV, az_, ay_, V.inn, us, T9_, Ta_]) (by simp only [go_sem, seval, aa_, a3_, ad_, ab_, a0_, ah_, hcl, hll, hp, hd1, au_, bt_, a2_, leV, az_, ay_, V.inn, us, T9_, Ta_] <;> (simp [yy_, mR, aa_])))
 refine .seq (.rgn [] (by simp only [go_sem, seval, aa_, a3_, ad_, ab_, a0_, ah_, hcl, hll, hp, hd1, au_, bt_]; rfl) ?_ ?_)
 ·first | trivial | simp
 refine .seq (.condB (by simp only [go_sem, seval, aa_, a3_, ad_, ab_, a0_, ah_, hcl, hll, hp, hd1, au_, bt_]; rfl) (by simp only [go_sem, seval, aa_, a3_, ad_, ab_, a0_, ah_, hcl, hll, hp, hd1, au_, bt_]) (fun h19 => ?_) (fun h19 => ?_))
 ·refine .skip (.seq (.block (.seq (.rgn [] (by simp only [go_sem, seval, aa_, a3_, ad_, ab_, a0_, ah_, hcl, hll, hp, hd1, au_, bt_, hj_ (show k < (c2_ 0 ((d0_ s).map (·.1))).length by rw [hcl]; simpa using h19)]; rfl) ?_ ?_))))
  ·simp only [T3_] at h19; omega
  refine .rgnS [0] [af5_ En 70 (mq_ (d0_ s) k) 180 3 3 ((d0_ s).getD k ([], 0)).2 ((c2_ 0 ((d0_ s).map (·.1))).getD k 0) acd_ aca_] (by simp only [go_sem, seval, aa_, a3_, ad_, ab_, a0_, ah_, hcl, hll, hp, hd1, au_, bt_, hk_ (show k < (d0_ s).length by simpa using h19)]; rfl) ?_ ?_
  ·simp only [T3_] at h19; omega
  refine .rgn [] (by simp only [go_sem, seval, aa_, a3_, ad_, ab_, a0_, ah_, hcl, hll, hp, hd1, au_, bt_]; rfl) ?_ ?_
  ·first | trivial | simp
  refine Exists.intro (k + 1) ⟨?_, ?_, ?_⟩
  ·simp at h19; omega
  ·simp at h19; omega
  exact Can.weak (Weak.lit (by simp only [go_sem, seval, aa_, a3_, ad_, ab_, a0_, ah_, hcl, hll, hp, hd1, au_, bt_, a2_, leV, az_, ay_, V.inn, us, T9_, Ta_] <;> (rw [bv_ (by simp at h19; omega) (by simp at h19; omega)]; simp)) (by simp only [go_sem, seval, aa_, a3_, ad_, ab_, a0_, ah_, hcl, hll, hp, hd1, au_, bt_, a2_, leV, az_, ay_, V.inn, us, T9_, Ta_]) (by simp only [go_sem, seval, aa_, a3_, ad_, ab_, a0_, ah_, hcl, hll, hp, hd1, au_, bt_, a2_, leV, az_, ay_, V.inn, us, T9_, Ta_] <;> (rw [xy_ (show k < (d0_ s).length by simpa using h19)])))
 ·refine .exit (.seq (.rgn [br_ Bo, br_ Bw] (by simp only [go_sem, seval, aa_, a3_, ad_, ab_, a0_, ah_, hcl, hll, hp, hd1, au_, bt_]; rfl) ?_ ?_))
  ·first | trivial | simp
  refine .seq (.rgn [] (by simp only [go_sem, seval, aa_, a3_, ad_, ab_, a0_, ah_, hcl, hll, hp, hd1, au_, bt_]; rfl) ?_ ?_)
  ·omega
  refine .seq (.seq (.rgn [] (by simp only [go_sem, seval, aa_, a3_, ad_, ab_, a0_, ah_, hcl, hll, hp, hd1, au_, bt_]; rfl) ?_ ?_))
  ·first | trivial | simp
  refine .block (.loopK (fun k : Nat => ⟨[.no, .pt 11 11 0 0, .no, .no, .pt 70 0 0 0, .no, .no, .no, .no, .ow 46 1 0 (ej_ (bof s)).length, .no, .no, .no, .no, .no, .no, .no, .no, .no, .no, .no, .no, .no, .no, .no, .no, .no, .no, .no, .no, .no, .no, .no, .no, .no, .no, .no, .sl false (wdR (ej_ (bof s))), .i .i64 (ej_ (bof s)).length, .i .i64 k, .no, .no, .no, .no, .no, .no, .no, .no, .no, .no, .no, .no, .no, .no, .no, .no, .no, .no, .no, .no, .no, .no], bf_ [(11, ⟨35, 11, [sC s]⟩), (70, ⟨0, 0, mR (mq_ (d0_ s) (d0_ s).length)⟩), (46, ⟨3, 1, de_ (inR (fq_ s)) [.i .i64 0] k⟩)], us [11, 46, 70]⟩) (fun k : Nat => k ≤ (ej_ (bof s)).length) (fun k : Nat => (ej_ (bof s)).length - k) (0) ?_ ?_ (fun k hI => ?_))
  ·simp
  ·exact Can.weak (Weak.lit (by simp only [go_sem, seval, aa_, a3_, ad_, ab_, a0_, ah_, hcl, hll, hp, hd1, au_, bt_, a2_, leV, az_, ay_, V.inn, us, T9_, Ta_] <;> (simp)) (by simp only [go_sem, seval, aa_, a3_, ad_, ab_, a0_, ah_, hcl, hll, hp, hd1, au_, bt_, a2_, leV, az_, ay_, V.inn, us, T9_, Ta_]) (by simp only [go_sem, seval, aa_, a3_, ad_, ab_, a0_, ah_, hcl, hll, hp, hd1, au_, bt_, a2_, leV, az_, ay_, V.inn, us, T9_, Ta_] <;> ((simp only [T4_] at h19); (obtain rfl : k = (d0_ s).length := (by omega)); simp [gx_, hll])))
  refine .seq (.rgn [] (by simp only [go_sem, seval, aa_, a3_, ad_, ab_, a0_, ah_, hcl, hll, hp, hd1, au_, bt_]; rfl) ?_ ?_)
  ·first | trivial | simp
  refine .seq (.condB (by simp only [go_sem, seval, aa_, a3_, ad_, ab_, a0_, ah_, hcl, hll, hp, hd1, au_, bt_]; rfl) (by simp only [go_sem, seval, aa_, a3_, ad_, ab_, a0_, ah_, hcl, hll, hp, hd1, au_, bt_]) (fun h40 => ?_) (fun h40 => ?_))
  ·refine .skip (.seqJ (fun u : Unit => ⟨[.no, .pt 11 11 0 0, .no, .no, .pt 70 0 0 0, .no, .no, .no, .no, .ow 46 1 0 (ej_ (bof s)).length, .no, .no, .no, .no, .no, .no, .no, .no, .no, .no, .no, .no, .no, .no, .no, .no, .no, .no, .no, .no, .no, .no, .no, .no, .no, .no, .no, .sl false (wdR (ej_ (bof s))), .i .i64 (ej_ (bof s)).length, .i .i64 k, .no, .no, .no, .no, .no, .no, .no, .no, .no, .no, .no, .no, .no, .no, .no, .no, .no, .no, .no, .no, .no, .no], bf_ [(11, ⟨35, 11, [sC s]⟩), (70, ⟨0, 0, mR (mq_ (d0_ s) (d0_ s).length)⟩), (46, ⟨3, 1, de_ (inR (fq_ s)) [.i .i64 0] (k + 1)⟩)], us [11, 46, 70]⟩) (fun u : Unit => True) ?_ (fun u hJ => ?_))
   ·refine .block (.seq (.rgn [] (by simp only [go_sem, seval, aa_, a3_, ad_, ab_, a0_, ah_, hcl, hll, hp, hd1, au_, bt_, hk_ (show k < (ej_ (bof s)).length by simpa using h40)]; rfl) ?_ ?_))
    ·simp only [T3_] at h40; omega
    refine .seq (.rgn [] (by simp only [go_sem, seval, aa_, a3_, ad_, ab_, a0_, ah_, hcl, hll, hp, hd1, au_, bt_]; rfl) ?_ ?_)
    ·simp only [T3_] at h40; omega
    refine .seq (.rgn [] (by simp only [go_sem, seval, aa_, a3_, ad_, ab_, a0_, ah_, hcl, hll, hp, hd1, au_, bt_]; rfl) ?_ ?_)
    ·first | trivial | simp
    refine .condB (by simp only [go_sem, seval, aa_, a3_, ad_, ab_, a0_, ah_, hcl, hll, hp, hd1, au_, bt_]; rfl) (by simp only [go_sem, seval, aa_, a3_, ad_, ab_, a0_, ah_, hcl, hll, hp, hd1, au_, bt_]) (fun h49 => ?_) (fun h49 => ?_)
    ·refine .rgnS [55] [afs_ En 70 (mq_ (d0_ s) (d0_ s).length) 180 3 3 ((ej_ (bof s)).getD k ([], 0)).2 (fi_ 0 (d0_ s) ((ej_ (bof s)).getD k ([], 0)).2) acd_ aca_] (by simp only [go_sem, seval, aa_, a3_, ad_, ab_, a0_, ah_, hcl, hll, hp, hd1, au_, bt_]; rfl) ?_ ?_
     ·simp only [T3_] at h40 h49; refine ⟨⟨aep_ h (by omega) (by omega), by omega⟩, ?_⟩; rw [List.length_set, au_, hll]; omega
     refine Exists.intro (()) ⟨?_, ?_⟩
     ·trivial
     exact Can.weak (Weak.lit (by simp only [go_sem, seval, aa_, a3_, ad_, ab_, a0_, ah_, hcl, hll, hp, hd1, au_, bt_, a2_, leV, az_, ay_, V.inn, us, T9_, Ta_]) (by simp only [go_sem, seval, aa_, a3_, ad_, ab_, a0_, ah_, hcl, hll, hp, hd1, au_, bt_, a2_, leV, az_, ay_, V.inn, us, T9_, Ta_]) (by simp only [go_sem, seval, aa_, a3_, ad_, ab_, a0_, ah_, hcl, hll, hp, hd1, au_, bt_, a2_, leV, az_, ay_, V.inn, us, T9_, Ta_] <;> ((simp only [T3_] at h40); (have q := qs_ (show k < (ej_ (bof s)).length by omega)); (have q2 : k < (fq_ s).length := (by omega)); (first | (simp only [T3_] at h49; rw [if_neg (by omega)] at q; rw [List.set_set, ← q, m8_ q2 [.i .i64 0]]; congr 1; (have q3 : k < (de_ (inR (fq_ s)) [.i .i64 0] k).length := (by rw [au_, hll]; omega)); simp [T8_, q3]; done) | (simp only [T4_] at h49; rw [if_pos (by omega)] at q; rw [m8_ q2 [.i .i64 0] (by rw [q])]; done) | trace_state))))
    ·refine .skip ?_
     refine Exists.intro (()) ⟨?_, ?_⟩
     ·trivial
     exact Can.weak (Weak.lit (by simp only [go_sem, seval, aa_, a3_, ad_, ab_, a0_, ah_, hcl, hll, hp, hd1, au_, bt_, a2_, leV, az_, ay_, V.inn, us, T9_, Ta_]) (by simp only [go_sem, seval, aa_, a3_, ad_, ab_, a0_, ah_, hcl, hll, hp, hd1, au_, bt_, a2_, leV, az_, ay_, V.inn, us, T9_, Ta_]) (by simp only [go_sem, seval, aa_, a3_, ad_, ab_, a0_, ah_, hcl, hll, hp, hd1, au_, bt_, a2_, leV, az_, ay_, V.inn, us, T9_, Ta_] <;> ((simp only [T3_] at h40); (have q := qs_ (show k < (ej_ (bof s)).length by omega)); (have q2 : k < (fq_ s).length := (by omega)); (first | (simp only [T3_] at h49; rw [if_neg (by omega)] at q; rw [List.set_set, ← q, m8_ q2 [.i .i64 0]]; congr 1; (have q3 : k < (de_ (inR (fq_ s)) [.i .i64 0] k).length := (by rw [au_, hll]; omega)); simp [T8_, q3]; done) | (simp only [T4_] at h49; rw [if_pos (by omega)] at q; rw [m8_ q2 [.i .i64 0] (by rw [q])]; done) | trace_state))))
   refine .rgn [] (by simp only [go_sem, seval, aa_, a3_, ad_, ab_, a0_, ah_, hcl, hll, hp, hd1, au_, bt_]; rfl) ?_ ?_
   ·first | trivial | simp
   refine Exists.intro (k + 1) ⟨?_, ?_, ?_⟩
   ·simp at h40; omega
   ·simp at h40; omega
   exact Can.weak (Weak.lit (by simp only [go_sem, seval, aa_, a3_, ad_, ab_, a0_, ah_, hcl, hll, hp, hd1, au_, bt_, a2_, leV, az_, ay_, V.inn, us, T9_, Ta_] <;> (rw [bv_ (by simp at h40; omega) (by simp at h40; omega)]; simp)) (by simp only [go_sem, seval, aa_, a3_, ad_, ab_, a0_, ah_, hcl, hll, hp, hd1, au_, bt_, a2_, leV, az_, ay_, V.inn, us, T9_, Ta_]) (by simp only [go_sem, seval, aa_, a3_, ad_, ab_, a0_, ah_, hcl, hll, hp, hd1, au_, bt_, a2_, leV, az_, ay_, V.inn, us, T9_, Ta_]))
  ·refine .exit (.seq (.rgn [br_ Bo, br_ Bt] (by simp only [go_sem, seval, aa_, a3_, ad_, ab_, a0_, ah_, hcl, hll, hp, hd1, au_, bt_]; rfl) ?_ ?_))
   ·first | trivial | simp
   refine .ret ⟨.inr rfl, ?_⟩
   exact Out.mem' (by simp only [Tryz.results87]; rfl) (by simp only [ba_, bs_, go_sem, seval, aa_, a3_, ad_, ab_, a0_, ah_, hcl, hll, hp, hd1, au_, bt_]) (by simp only [bq_, rns, rn, go_sem, seval, aa_, a3_, ad_, ab_, a0_, ah_, hcl, hll, hp, hd1, au_, bt_] <;> (rw [hfl])) (by simp) rfl (by decide) (by simp only [go_sem, seval, aa_, a3_, ad_, ab_, a0_, ah_, hcl, hll, hp, hd1, au_, bt_]) (by simp only [bt_, go_sem, seval, aa_, a3_, ad_, ab_, a0_, ah_, hcl, hll, hp, hd1, au_, bt_]) (by simp only [bn_, go_sem, seval, aa_, a3_, ad_, ab_, a0_, ah_, hcl, hll, hp, hd1, au_, bt_] <;> (simp only [T4_] at h40; rw [g1_ (by rw [hll]; omega)]))
end
section
set_option maxRecDepth 100000
set_option maxHeartbeats 4000000
def colLe (X Y : Wd) : Prop := gh_ X ≤ gh_ Y ∧ ∀ i, 0 ≤ i → ((i ∈ X.map (·.2) ↔ i ∈ Y.map (·.2)) ∧ (i ∈ X.map (·.2) → fi_ 0 X i ≤ fi_ 0 Y i))
theorem colLe.refl (X : Wd) : colLe X X := ⟨Int.le_refl _, fun _ _ => ⟨Iff.rfl, fun _ => Int.le_refl _⟩⟩
theorem colLe.app {X X' Y Y' : Wd} (h : colLe X X') (k : colLe Y Y') : colLe (X ++ Y) (X' ++ Y') := by
 refine ⟨by rw [k8_, k8_]; have := h.1; have := k.1; omega, fun i hi => ?_⟩
 obtain ⟨h1, h2⟩ := h.2 i hi
 obtain ⟨k1, k2⟩ := k.2 i hi
 refine ⟨by simp only [List.map_append, List.mem_append, h1, k1], fun hm => ?_⟩
 rw [ld_, ld_]
 by_cases hx : i ∈ X.map (·.2)
 ·rw [if_pos hx, if_pos (h1.1 hx)]; exact h2 hx
 ·rw [if_neg hx, if_neg (fun q => hx (h1.2 q))]
  have hy : i ∈ Y.map (·.2) := by
   rw [List.map_append] at hm
   exact (List.mem_append.1 hm).resolve_left hx
  rw [lg_ i (gh_ X) Y 0 hy, lg_ i (gh_ X') Y' 0 (k1.1 hy)]
  have := k2 hy
  have := h.1
  omega
theorem colLe.none {Q : Wd} (h : ∀ p ∈ Q, p.2 = -1) : colLe [] Q := by
 refine ⟨by rw [ke_]; exact n4_ Q, fun i hi => ⟨⟨fun q => by simp at q, fun q => ?_⟩, fun q => by simp at q⟩⟩
 obtain ⟨p, hp, e⟩ := List.mem_map.1 q
 have := h p hp
 omega
end
end Go.Proofs.YtcigkafioinfoaaGreatDoor
