/- What a line is turned into, the reference's: words with their places. Conditions: none. -/
import Derived.Test.YtilppnadkfgnfaaGreatDoorKl
import Derived.Test.YtilppnadkfgnfaaGreatDoorKx
import Derived.Test.YtilppnadkfgnfaaGreatDoorKn
import Derived.Test.YtilppnadkfgnfaaGreatDoorKd
import Derived.Test.YtilppnadkfgnfaaGreatDoorKi
import Derived.Test.YtilppnadkfgnfaaGreatDoorKb
set_option linter.unusedVariables false
set_option linter.unusedSimpArgs false
namespace Go.Proofs.YtilppnadkfgnfaaGreatDoor
section
set_option maxRecDepth 100000
set_option maxHeartbeats 4000000
theorem aa7_ {l : Wd} {k : Nat} (h : k < l.length) : fr_ (l.take (k + 1)) = fr_ (l.take k) + ((l.getD k ([], 0)).1.length + 1) := by
 have e : l.take (k + 1) = l.take k ++ [l.getD k ([], 0)] := by
  rw [List.take_add_one, T6_ h, T8_, T6_ h]; rfl
 rw [e, kt_, mj_, k6_]; omega
theorem aee_ (l : Wd) (k : Nat) : fr_ (l.take k) ≤ fr_ l := by
 conv => rhs; rw [← List.take_append_drop k l]
 have := lg_ (l.drop k)
 rw [kt_]; omega
theorem afw_ {l : Wd} {k : Nat} (h : k < l.length) : (b8_ 0 (l.map (·.1))).getD k 0 = fr_ (l.take k) := by
 rw [g1_ _ _ (by simpa using h), fr_, List.map_take]; omega
theorem abc_ (l : Wd) (hl : l.length ≤ 1000000) (hw : fr_ l < 1099511627776) : ACall En 111 [.sl false (wdR l)] [] [.sl false (inR (b8_ 0 (l.map (·.1))))] [] := by
 have hp : ∀ k, b4_ (eh_ (inR (b8_ 0 (l.map (·.1)))) [.i .i64 0] k) = true := fun k => gy_ (ac_ _) rfl
 have hll : (inR (b8_ 0 (l.map (·.1)))).length = l.length := by rw [ai_, a6_, List.length_map]
 have hd1 : ∀ k j, ((eh_ (inR (b8_ 0 (l.map (·.1)))) [.i .i64 0] k).getD j []).drop 1 = [] := wb_ _ _ (fun r hr => z5_ hr) rfl
 refine al_ (fn := Tryz.f111) [] Tryz.func111 rfl rfl (by simp) fun C => ?_
 rw [ay_]
 simp only [Tryz.ntmps111, T7_, List.length_nil, Nat.reduceAdd, Nat.reduceSub, List.replicate_succ, List.replicate_zero, List.cons_append, List.nil_append, bp_]
 refine .seq (.rgn [] (by simp only [go_sem, seval, ag_, ae_, ac_, hp, hd1, aw_, hll]; rfl) ?_ ?_)
 ·(first | trivial)
 refine .seq (.rgn [] (by simp only [go_sem, seval, ag_, ae_, ac_, hp, hd1, aw_, hll]; rfl) ?_ ?_)
 ·simp; omega
 refine .seq (.rgn [] (by simp only [go_sem, seval, ag_, ae_, ac_, hp, hd1, aw_, hll]; rfl) ?_ ?_)
 ·(first | trivial)
 refine .seq (.seq (.rgn [] (by simp only [go_sem, seval, ag_, ae_, ac_, hp, hd1, aw_, hll]; rfl) ?_ ?_))
 ·(first | trivial)
 refine .block (.loopK (fun k : Nat => ⟨[.no, .no, .no, .ow 19 1 0 l.length, .i .i64 (fr_ (l.take k)), .no, .no, .no, .no, .no, .sl false (wdR l), .i .i64 l.length, .i .i64 k, .no, .no, .no, .no, .no, .no, .no, .no, .no, .no, .no, .no, .no, .no, .no, .no], bc_ [(19, ⟨3, 1, eh_ (inR (b8_ 0 (l.map (·.1)))) [.i .i64 0] k⟩)], us [19]⟩) (fun k : Nat => k ≤ l.length) (fun k : Nat => l.length - k) (0) ?_ ?_ (fun k hI => ?_))
 ·simp
 ·exact Can.weak (Weak.lit (by simp only [go_sem, seval, ag_, ae_, ac_, hp, hd1, aw_, hll, as_, leV, aq_, ar_, V.inn, us, T9_, Ta_] <;> (simp [k6_])) (by simp only [go_sem, seval, ag_, ae_, ac_, hp, hd1, aw_, hll, as_, leV, aq_, ar_, V.inn, us, T9_, Ta_]) (by simp only [go_sem, seval, ag_, ae_, ac_, hp, hd1, aw_, hll, as_, leV, aq_, ar_, V.inn, us, T9_, Ta_] <;> (simp [gx_, hll])))
 refine .seq (.rgn [] (by simp only [go_sem, seval, ag_, ae_, ac_, hp, hd1, aw_, hll]; rfl) ?_ ?_)
 ·(first | trivial)
 refine .seq (.condB (by simp only [go_sem, seval, ag_, ae_, ac_, hp, hd1, aw_, hll]; rfl) (by simp only [go_sem, seval, ag_, ae_, ac_, hp, hd1, aw_, hll]) (fun h13 => ?_) (fun h13 => ?_))
 ·refine .skip (.seq (.block (.seq (.rgn [] (by simp only [go_sem, seval, ag_, ae_, ac_, hp, hd1, aw_, hll, hk_ (show k < l.length by simpa using h13)]; rfl) ?_ ?_))))
  ·simp only [T3_] at h13; simp; omega
  refine .seq (.rgn [] (by simp only [go_sem, seval, ag_, ae_, ac_, hp, hd1, aw_, hll]; rfl) ?_ ?_)
  ·simp only [T3_] at h13; simp; omega
  refine .rgn [] (by simp only [go_sem, seval, ag_, ae_, ac_, hp, hd1, aw_, hll]; rfl) ?_ ?_
  ·(first | trivial)
  refine .rgn [] (by simp only [go_sem, seval, ag_, ae_, ac_, hp, hd1, aw_, hll]; rfl) ?_ ?_
  ·(first | trivial)
  refine Exists.intro (k + 1) ⟨?_, ?_, ?_⟩
  ·simp at h13; omega
  ·simp at h13; omega
  exact Can.weak (Weak.lit (by simp only [go_sem, seval, ag_, ae_, ac_, hp, hd1, aw_, hll, as_, leV, aq_, ar_, V.inn, us, T9_, Ta_] <;> ((have q := aa7_ (show k < l.length by simpa using h13)); (have q2 := aee_ l (k + 1)); (have q3 := lg_ (l.take k)); (refine ⟨?_, ?_⟩; (rw [bf_ (show -9223372036854775808 ≤ (((l.getD k ([], 0)).1.length : Int) + 1) by omega) (by omega), bf_ (by omega) (by omega), q]); (rw [bf_ (by simp at h13; omega) (by simp at h13; omega)]; simp)))) (by simp only [go_sem, seval, ag_, ae_, ac_, hp, hd1, aw_, hll, as_, leV, aq_, ar_, V.inn, us, T9_, Ta_]) (by simp only [go_sem, seval, ag_, ae_, ac_, hp, hd1, aw_, hll, as_, leV, aq_, ar_, V.inn, us, T9_, Ta_] <;> ((rw [← hd_ (by rw [hll]; simpa using h13), d0_ (by rw [a6_, List.length_map]; simpa using h13), afw_ (by simpa using h13)]))))
 ·refine .exit (.seq (.rgn [] (by simp only [go_sem, seval, ag_, ae_, ac_, hp, hd1, aw_, hll]; rfl) ?_ ?_))
  ·(first | trivial)
  refine .frz 19 (by simp only [go_sem, seval, ag_, ae_, ac_, hp, hd1, aw_, hll]; rfl) (by simp only [go_sem, seval, ag_, ae_, ac_, hp, hd1, aw_, hll]) (by simp only [go_sem, seval, ag_, ae_, ac_, hp, hd1, aw_, hll]; rfl) (by simp only [go_sem, seval, ag_, ae_, ac_, hp, hd1, aw_, hll]; rfl) ?_
  refine .ret ⟨.inr rfl, ?_⟩
  exact Out.plain (by simp only [Tryz.results111]; rfl) (by simp only [az_, a7_, go_sem, seval, ag_, ae_, ac_, hp, hd1, aw_, hll] <;> (split <;> rfl)) (by simp only [a5_, go_sem, seval, ag_, ae_, ac_, hp, hd1, aw_, hll] <;> (simp at h13; rw [id_ (by omega)]; simp [← hll, T1_, peel])) (by simp only [go_sem, seval, ag_, ae_, ac_, hp, hd1, aw_, hll])
theorem ae3_ {l : Wd} {k : Nat} (h : k < l.length) (n : Int) : shf n (l.take (k + 1)) = shf n (l.take k) ++ [((l.getD k ([], 0)).1, if 0 ≤ (l.getD k ([], 0)).2 then (l.getD k ([], 0)).2 + n else (l.getD k ([], 0)).2)] := by
 have e : l.take (k + 1) = l.take k ++ [l.getD k ([], 0)] := by
  rw [List.take_add_one, T6_ h, T8_, T6_ h]; rfl
 rw [e, ahs_]; congr 1
 simp only [shf, List.map_cons, List.map_nil]
 split <;> rfl
theorem hy_ (l : Wd) (n : Int) (hl : l.length ≤ 1000000) (hb : ∀ p ∈ l, p.2 ≤ 1000000) (h0 : 0 ≤ n) (h1 : n ≤ 1000000) : ACall En 176 [.sl false (wdR l), .i .i64 n] [] [.sl false (wdR (shf n l))] [] := by
 refine al_ (fn := Tryz.f176) [] Tryz.func176 rfl rfl (by simp) fun C => ?_
 rw [ay_]
 simp only [Tryz.ntmps176, T7_, List.length_nil, Nat.reduceAdd, Nat.reduceSub, List.replicate_succ, List.replicate_zero, List.cons_append, List.nil_append, bp_]
 refine .seq (.rgn [] (by simp only [go_sem, seval, ag_, ae_, a1_]; rfl) ?_ ?_)
 ·(first | trivial | (simp; done) | (simp at h12; simp; omega))
 refine .seq (.rgn [] (by simp only [go_sem, seval, ag_, ae_, a1_]; rfl) ?_ ?_)
 ·(first | trivial | (simp; done) | (simp at h12; simp; omega))
 refine .seq (.seq (.rgn [] (by simp only [go_sem, seval, ag_, ae_, a1_]; rfl) ?_ ?_))
 ·(first | trivial | (simp; done) | (simp at h12; simp; omega))
 refine .block (.loopK (fun k : Nat => ⟨[.sl false (wdR l), .i .i64 n, .no, .no, .no, .ow 60 2 0 k, .i .i64 k, .no, .no, .no, .no, .no, .no, .no, .no, .no, .no, .no, .no, .no, .no, .no, .no, .no, .no, .no, .no, .no, .no, .no, .no, .no], bc_ [(60, ⟨150, 2, wdR (shf n (l.take k))⟩)], us [60]⟩) (fun k : Nat => k ≤ l.length) (fun k : Nat => l.length - k) (0) ?_ ?_ (fun k hI => ?_))
 ·simp
 ·refine Can.trans (Can.ownSlot 5 60 150 2 (by simp only [go_sem, seval, ag_, ae_, a1_] <;> rfl) (by simp only [go_sem, seval, ag_, ae_, a1_]) (by simp only [go_sem, seval, ag_, ae_, a1_] <;> rfl)) ?_
  exact Can.weak (Weak.lit (by simp only [go_sem, seval, ag_, ae_, a1_, as_, leV, aq_, ar_, V.inn, us, T9_, Ta_] <;> (simp)) (by simp only [go_sem, seval, ag_, ae_, a1_, as_, leV, aq_, ar_, V.inn, us, T9_, Ta_]) (by simp only [go_sem, seval, ag_, ae_, a1_, as_, leV, aq_, ar_, V.inn, us, T9_, Ta_] <;> (simp [shf, wdR])))
 refine .seq (.seq (.rgn [] (by simp only [go_sem, seval, ag_, ae_, a1_]; rfl) ?_ ?_))
 ·(first | trivial | (simp; done) | (simp at h12; simp; omega))
 refine .condB (by simp only [go_sem, seval, ag_, ae_, a1_]; rfl) (by simp only [go_sem, seval, ag_, ae_, a1_]) (fun h12 => ?_) (fun h12 => ?_)
 ·refine .skip (.seq (.block (.seq (.rgn [] (by simp only [go_sem, seval, ag_, ae_, a1_, hk_ (show k < l.length by simpa using h12)]; rfl) ?_ ?_))))
  ·(first | trivial | (simp; done) | (simp at h12; simp; omega))
  refine .seqJ (fun v : Int => ⟨[.sl false (wdR l), .i .i64 n, .no, .no, .no, .ow 60 2 0 k, .i .i64 k, .pt 17 2 0 0, .no, .no, .no, .no, .no, .no, .no, .no, .no, .no, .no, .no, .no, .no, .no, .no, .no, .no, .no, .no, .no, .no, .no, .no], bc_ [(60, ⟨150, 2, wdR (shf n (l.take k))⟩), (17, ⟨150, 2, [[.s (l.getD k ([], 0)).1, .i .i64 v]]⟩)], us [17, 60]⟩) (fun v : Int => v = if 0 ≤ (l.getD k ([], 0)).2 then (l.getD k ([], 0)).2 + n else (l.getD k ([], 0)).2) ?_ (fun v hJ => ?_)
  ·refine .seq (.rgn [] (by simp only [go_sem, seval, ag_, ae_, a1_]; rfl) ?_ ?_)
   ·(first | trivial | (simp; done) | (simp at h12; simp; omega))
   refine .condB (by simp only [go_sem, seval, ag_, ae_, a1_]; rfl) (by simp only [go_sem, seval, ag_, ae_, a1_]) (fun h21 => ?_) (fun h21 => ?_)
   ·refine .rgn [] (by simp only [go_sem, seval, ag_, ae_, a1_]; rfl) ?_ ?_
    ·(first | trivial | (simp; done) | (simp at h12; simp; omega))
    refine Exists.intro ((l.getD k ([], 0)).2 + n) ⟨?_, ?_⟩
    ·(simp only [T3_, T4_] at h21; first | rw [if_pos (by omega)] | rw [if_neg (by omega)])
    exact Can.weak (Weak.lit (by simp only [go_sem, seval, ag_, ae_, a1_, as_, leV, aq_, ar_, V.inn, us, T9_, Ta_]) (by simp only [go_sem, seval, ag_, ae_, a1_, as_, leV, aq_, ar_, V.inn, us, T9_, Ta_]) (by simp only [go_sem, seval, ag_, ae_, a1_, as_, leV, aq_, ar_, V.inn, us, T9_, Ta_] <;> ((simp only [T3_, T4_] at h21; have := hb _ (bj_ (d := ([], 0)) (show k < l.length by simpa using h12)); first | rfl | (rw [bf_ (by omega) (by omega)]; done) | (simp; done) | trace_state))))
   ·refine .skip ?_
    refine Exists.intro ((l.getD k ([], 0)).2) ⟨?_, ?_⟩
    ·(simp only [T3_, T4_] at h21; first | rw [if_pos (by omega)] | rw [if_neg (by omega)])
    exact Can.weak (Weak.lit (by simp only [go_sem, seval, ag_, ae_, a1_, as_, leV, aq_, ar_, V.inn, us, T9_, Ta_]) (by simp only [go_sem, seval, ag_, ae_, a1_, as_, leV, aq_, ar_, V.inn, us, T9_, Ta_]) (by simp only [go_sem, seval, ag_, ae_, a1_, as_, leV, aq_, ar_, V.inn, us, T9_, Ta_] <;> ((simp only [T3_, T4_] at h21; have := hb _ (bj_ (d := ([], 0)) (show k < l.length by simpa using h12)); first | rfl | (rw [bf_ (by omega) (by omega)]; done) | (simp; done) | trace_state))))
  refine .rgn [] (by simp only [go_sem, seval, ag_, ae_, a1_]; rfl) ?_ ?_
  ·simp at h12; simp [bh_, bx_]; omega
  refine .rgn [] (by simp only [go_sem, seval, ag_, ae_, a1_]; rfl) ?_ ?_
  ·(first | trivial | (simp; done) | (simp at h12; simp; omega))
  refine Exists.intro (k + 1) ⟨?_, ?_, ?_⟩
  ·simp at h12; omega
  ·simp at h12; omega
  refine Can.trans (Can.swap 40 60 (by decide) (by decide) (by decide) (by decide) (by simp only [go_sem, seval, ag_, ae_, a1_, V.cl]) (by simp only [go_sem, seval, ag_, ae_, a1_, V.cl]) (by simp only [go_sem, seval, ag_, ae_, a1_, bi_, sw, swM, rnB] <;> rfl) (by simp only [go_sem, seval, ag_, ae_, a1_, bi_, sw, swM, rnB] <;> rfl) (by simp only [go_sem, seval, ag_, ae_, a1_, bi_, sw, swM, rnB] <;> rfl)) ?_
  exact Can.weak (Weak.lit (by simp only [go_sem, seval, ag_, ae_, a1_, as_, leV, aq_, ar_, V.inn, us, T9_, Ta_] <;> (rw [bf_ (by simp at h12; omega) (by simp at h12; omega)]; simp)) (by simp only [go_sem, seval, ag_, ae_, a1_, as_, leV, aq_, ar_, V.inn, us, T9_, Ta_]) (by simp only [go_sem, seval, ag_, ae_, a1_, as_, leV, aq_, ar_, V.inn, us, T9_, Ta_] <;> (rw [ae3_ (by simpa using h12), l1_, ← hJ]; rfl)))
 ·refine .exit (.seq (.rgn [] (by simp only [go_sem, seval, ag_, ae_, a1_]; rfl) ?_ ?_))
  ·(first | trivial | (simp; done) | (simp at h12; simp; omega))
  refine .frz 60 (by simp only [go_sem, seval, ag_, ae_, a1_]; rfl) (by simp only [go_sem, seval, ag_, ae_, a1_]) (by simp only [go_sem, seval, ag_, ae_, a1_]; rfl) (by simp only [go_sem, seval, ag_, ae_, a1_]; rfl) ?_
  refine .ret ⟨.inr rfl, ?_⟩
  exact Out.plain (by simp only [Tryz.results176]; rfl) (by simp only [az_, a7_, go_sem, seval, ag_, ae_, a1_] <;> (split <;> rfl)) (by simp only [a5_, go_sem, seval, ag_, ae_, a1_] <;> (simp at h12; (obtain rfl : k = l.length := (by omega)); rw [T1_ (Nat.le_refl _)]; simp [T1_, a1_, ag_, peel])) (by simp only [go_sem, seval, ag_, ae_, a1_])
theorem ab6_ (l : List Str) (hl : l.length ≤ 1000000) (hw : wid l < 1099511627776) : ACall En 138 [.sl false (bn_ l)] [] [.sl false (inR (b8_ 0 l))] [] := by
 refine al_ (fn := Tryz.f138) [] Tryz.func138 rfl rfl (by simp) fun C => ?_
 rw [ay_]
 simp only [Tryz.ntmps138, T7_, List.length_nil, Nat.reduceAdd, Nat.reduceSub, List.replicate_succ, List.replicate_zero, List.cons_append, List.nil_append, bp_]
 refine .seq (.rgn [] (by simp only [go_sem, seval, ab_, aa_, ac_]; rfl) ?_ ?_)
 ·(first | trivial | (simp; done) | (simp at h10; simp; omega))
 refine .seq (.rgn [] (by simp only [go_sem, seval, ab_, aa_, ac_]; rfl) ?_ ?_)
 ·(first | trivial | (simp; done) | (simp at h10; simp; omega))
 refine .seq (.rgn [] (by simp only [go_sem, seval, ab_, aa_, ac_]; rfl) ?_ ?_)
 ·(first | trivial | (simp; done) | (simp at h10; simp; omega))
 refine .seq (.seq (.rgn [] (by simp only [go_sem, seval, ab_, aa_, ac_]; rfl) ?_ ?_))
 ·(first | trivial | (simp; done) | (simp at h10; simp; omega))
 refine .block (.loopK (fun k : Nat => ⟨[.sl false (bn_ l), .no, .no, .ow 60 1 0 k, .i .i64 (wid (l.take k)), .i .i64 k, .no, .no, .no, .no, .no, .no, .no, .no, .no, .no, .no, .no, .no, .no, .no, .no, .no, .no, .no, .no], bc_ [(60, ⟨3, 1, inR ((b8_ 0 l).take k)⟩)], us [60]⟩) (fun k : Nat => k ≤ l.length) (fun k : Nat => l.length - k) (0) ?_ ?_ (fun k hI => ?_))
 ·simp
 ·refine Can.trans (Can.ownSlot 3 60 3 1 (by simp only [go_sem, seval, ab_, aa_, ac_] <;> rfl) (by simp only [go_sem, seval, ab_, aa_, ac_]) (by simp only [go_sem, seval, ab_, aa_, ac_] <;> rfl)) ?_
  exact Can.weak (Weak.lit (by simp only [go_sem, seval, ab_, aa_, ac_, as_, leV, aq_, ar_, V.inn, us, T9_, Ta_] <;> (simp [n3_])) (by simp only [go_sem, seval, ab_, aa_, ac_, as_, leV, aq_, ar_, V.inn, us, T9_, Ta_]) (by simp only [go_sem, seval, ab_, aa_, ac_, as_, leV, aq_, ar_, V.inn, us, T9_, Ta_] <;> (simp [inR])))
 refine .seq (.seq (.rgn [] (by simp only [go_sem, seval, ab_, aa_, ac_]; rfl) ?_ ?_))
 ·(first | trivial | (simp; done) | (simp at h10; simp; omega))
 refine .condB (by simp only [go_sem, seval, ab_, aa_, ac_]; rfl) (by simp only [go_sem, seval, ab_, aa_, ac_]) (fun h10 => ?_) (fun h10 => ?_)
 ·refine .skip (.seq (.block (.seq (.rgn [] (by simp only [go_sem, seval, ab_, aa_, ac_]; rfl) ?_ ?_))))
  ·simp at h10; simp [uy_, bx_, ai_, a6_]; omega
  refine .rgn [] (by simp only [go_sem, seval, ab_, aa_, ac_, b6_ (show k < l.length by simpa using h10)]; rfl) ?_ ?_
  ·(first | trivial | (simp; done) | (simp at h10; simp; omega))
  refine .rgn [] (by simp only [go_sem, seval, ab_, aa_, ac_]; rfl) ?_ ?_
  ·(first | trivial | (simp; done) | (simp at h10; simp; omega))
  refine Exists.intro (k + 1) ⟨?_, ?_, ?_⟩
  ·simp at h10; omega
  ·simp at h10; omega
  refine Can.trans (Can.swap 26 60 (by decide) (by decide) (by decide) (by decide) (by simp only [go_sem, seval, ab_, aa_, ac_, V.cl]) (by simp only [go_sem, seval, ab_, aa_, ac_, V.cl]) (by simp only [go_sem, seval, ab_, aa_, ac_, bi_, sw, swM, rnB] <;> rfl) (by simp only [go_sem, seval, ab_, aa_, ac_, bi_, sw, swM, rnB] <;> rfl) (by simp only [go_sem, seval, ab_, aa_, ac_, bi_, sw, swM, rnB] <;> rfl)) ?_
  exact Can.weak (Weak.lit (by simp only [go_sem, seval, ab_, aa_, ac_, as_, leV, aq_, ar_, V.inn, us, T9_, Ta_] <;> ((have q := lf_ (show k < l.length by simpa using h10)); (have q2 := y9_ l (k + 1)); (repeat' apply And.intro) <;> first | (simp; done) | (rw [bf_ (by simp at h10; omega) (by simp at h10; omega)]; simp; done) | (rw [bf_ (show -9223372036854775808 ≤ ((wid (l.take k) : Int) + ((l.getD k []).length : Int)) by omega) (by omega), bf_ (by omega) (by omega)]; omega) | trace_state)) (by simp only [go_sem, seval, ab_, aa_, ac_, as_, leV, aq_, ar_, V.inn, us, T9_, Ta_]) (by simp only [go_sem, seval, ab_, aa_, ac_, as_, leV, aq_, ar_, V.inn, us, T9_, Ta_] <;> ((rw [List.take_add_one, T6_ (show k < (b8_ 0 l).length by rw [a6_]; simpa using h10), so_]; (have := g1_ l 0 (show k < l.length by simpa using h10)); rw [T8_, T6_ (show k < (b8_ 0 l).length by rw [a6_]; simpa using h10), Option.getD_some] at this; rw [this]; simp [inR]))))
 ·refine .exit (.seq (.rgn [] (by simp only [go_sem, seval, ab_, aa_, ac_]; rfl) ?_ ?_))
  ·(first | trivial | (simp; done) | (simp at h10; simp; omega))
  refine .frz 60 (by simp only [go_sem, seval, ab_, aa_, ac_]; rfl) (by simp only [go_sem, seval, ab_, aa_, ac_]) (by simp only [go_sem, seval, ab_, aa_, ac_]; rfl) (by simp only [go_sem, seval, ab_, aa_, ac_]; rfl) ?_
  refine .ret ⟨.inr rfl, ?_⟩
  exact Out.plain (by simp only [Tryz.results138]; rfl) (by simp only [az_, a7_, go_sem, seval, ab_, aa_, ac_] <;> (split <;> rfl)) (by simp only [a5_, go_sem, seval, ab_, aa_, ac_] <;> (simp at h10; (obtain rfl : k = l.length := (by omega)); rw [T1_ (by rw [a6_]; exact Nat.le_refl _)]; simp [T1_, ai_, a6_, peel])) (by simp only [go_sem, seval, ab_, aa_, ac_])
end
section
set_option maxRecDepth 100000
set_option maxHeartbeats 4000000
theorem ags_ (x y : Int) : ACall En 205 [.i .i64 x, .i .i64 y] [] [.i .i64 (max x y)] [] := by
 refine al_ (fn := Tryz.f205) [] Tryz.func205 rfl rfl (by simp) fun C => ?_
 rw [ay_]
 simp only [Tryz.ntmps205, T7_, List.length_nil, Nat.reduceAdd, Nat.reduceSub, List.replicate_succ, List.replicate_zero, List.cons_append, List.nil_append, bp_]
 refine .seq (.rgn [] (by simp only [go_sem, seval]; rfl) ?_ ?_)
 ·first | trivial | simp
 refine .seq (.seq (.rgn [] (by simp only [go_sem, seval]; rfl) ?_ ?_))
 ·first | trivial | simp
 refine .condB (by simp only [go_sem, seval]; rfl) (by simp only [go_sem, seval]) (fun h7 => ?_) (fun h7 => ?_)
 ·refine .seq (.rgn [] (by simp only [go_sem, seval]; rfl) ?_ ?_)
  ·first | trivial | simp
  refine .ret ⟨.inr rfl, ?_⟩
  exact Out.plain (by simp only [Tryz.results205]; rfl) (by simp only [az_, a7_, go_sem, seval] <;> (split <;> rfl)) (by simp only [a5_, go_sem, seval] <;> (simp only [T3_] at h7; rw [show max x y = x by omega])) (by simp only [go_sem, seval])
 ·refine .skip (.seq (.rgn [] (by simp only [go_sem, seval]; rfl) ?_ ?_))
  ·first | trivial | simp
  refine .ret ⟨.inr rfl, ?_⟩
  exact Out.plain (by simp only [Tryz.results205]; rfl) (by simp only [az_, a7_, go_sem, seval] <;> (split <;> rfl)) (by simp only [a5_, go_sem, seval] <;> (simp only [T4_] at h7; rw [show max x y = y by omega])) (by simp only [go_sem, seval])
theorem t9_ (d : Nat) : ∀ (e : E) (t b : Int), form e d = true → sm e = true → many e d ≤ 1000 → t ≤ 4 → b ≤ 4 → -1000 ≤ t → -1000 ≤ b → ACall En 177 [.ag (eC e), .i .i64 t, .i .i64 b] [] [.sl false (wdR (l8 e t b))] [] := by
 induction d with
 | zero => intro e t b h; have := (bk_ h).1; omega
 | succ d ih =>
 intro e t b h hs hm ht hb ht2 hb2
 obtain ⟨a1, a2, a3⟩ := e5_ hs
 have e1 : ((d + 1 : Nat) : Int) - 1 = (d : Int) := by omega
 have hd1 : (1 : Int) ≤ ((d + 1 : Nat) : Int) := by omega
 have g1 : e.kind = 1 → 0 ≤ e.n ∧ e.n ≤ 1000000 := fun hk => by
  rcases (bk_ h).2 with ⟨k1, h1, h2, h3, h4⟩ | ⟨k1, h1, h2, h3⟩ | ⟨k1, _⟩ | ⟨k1, _⟩ <;> omega
 have g3 : e.kind = 3 → e.kids.length = 2 ∧ 1 ≤ bb_ e.s ∧ bb_ e.s ≤ 3 ∧ form (e.kids.getD 0 E0) d = true ∧ form (e.kids.getD 1 E0) d = true ∧ many (e.kids.getD 0 E0) d ≤ 1000 ∧ many (e.kids.getD 1 E0) d ≤ 1000 ∧ lvl e = bb_ e.s := fun hk => by
  rcases (bk_ h).2 with ⟨k1, _⟩ | ⟨k1, _⟩ | ⟨k1, h1, h2, h3, h4, h5⟩ | ⟨k1, _⟩ <;> try omega
  rw [e1] at h4 h5
  have := ce_ h2
  have hm2 := ia_ hd1 h3
  rw [e1] at hm2
  have q1 := c2_ d _ 0 h4
  have q2 := c2_ d _ 0 h5
  exact ⟨h3, this.1, this.2, h4, h5, by omega, by omega, o1_ k1 h2⟩
 have g4 : e.kind = 4 → e.kids.length = 1 ∧ form (e.kids.getD 0 E0) d = true ∧ many (e.kids.getD 0 E0) d ≤ 1000 := fun hk => by
  rcases (bk_ h).2 with ⟨k1, _⟩ | ⟨k1, _⟩ | ⟨k1, _⟩ | ⟨k1, h1, h2, h3, h4⟩ <;> try omega
  rw [e1] at h4
  have hm2 := jl_ hd1 h3
  rw [e1] at hm2
  have q1 := c2_ d _ 0 h4
  exact ⟨h3, h4, by omega⟩
 have g0 : e.kind = 1 ∨ e.kind = 2 ∨ e.kind = 3 ∨ e.kind = 4 := by
  rcases (bk_ h).2 with ⟨k1, _⟩ | ⟨k1, _⟩ | ⟨k1, _⟩ | ⟨k1, _⟩ <;> omega
 have hlv : lvl e = if e.kind = 3 then bb_ e.s else 4 := by
  by_cases hk : e.kind = 3
  ·rw [if_pos hk, (g3 hk).2.2.2.2.2.2.2]
  ·rw [if_neg hk, lvl, if_neg hk]
 have hC : e.kind ≠ 4 → (l8c e).length ≤ 7000 ∧ ∀ p ∈ l8c e, p.2 ≤ 7000 := fun hk => by
  rcases g0 with hk4 | hk4 | hk4 | hk4
  ·simp [l8c, hk4]
  ·simp [l8c, hk4]
  ·have q := g3 hk4
   have q1 := l2_ q.2.2.2.1 q.2.2.2.2.2.1 (t := max 2 (bb_ e.s)) (b := max 2 (bb_ e.s)) (by omega) (by omega)
   have q2 := l2_ q.2.2.2.2.1 q.2.2.2.2.2.2.1 (t := bb_ e.s + 1) (b := bb_ e.s + 1) (by omega) (by omega)
   have q3 := ib_ d _ q.2.2.2.1 q.2.2.2.2.2.1 (max 2 (bb_ e.s))
   simp only [l8c, hk4, show ¬ (3 : Int) = 1 by omega, show ¬ (3 : Int) = 2 by omega, if_false]
   refine ⟨by simp only [T2_, T7_, a1_]; omega, fun p hp => ?_⟩
   rcases List.mem_append.1 hp with hp | hp
   ·have := q1.2 p hp; omega
   ·rcases List.mem_cons.1 hp with rfl | hp
    ·dsimp only; omega
    ·simp only [shf, List.mem_map] at hp
     obtain ⟨u, hu, rfl⟩ := hp
     have := q2.2 u hu
     split
     ·dsimp only; omega
     ·omega
  ·exact absurd hk4 hk
 have hN : e.kind ≠ 4 → l8c e ≠ [] := fun hk => by
  rcases g0 with k | k | k | k
  ·simp [l8c, k]
  ·simp [l8c, k]
  ·simp [l8c, k]
  ·exact absurd k hk
 have hT : e.kind ≠ 4 → l8 e t b = brk (decide (lvl e < b)) (shf (if lvl e < t then 1 else 0) (l8c e)) := fun hk => by
  rw [ahq_ (by rcases g0 with k | k | k | k; exact .inl k; exact .inr (.inl k); exact .inr (.inr ⟨k, (g3 k).1⟩); exact absurd k hk)]
  rw [hlv]
  by_cases k3 : e.kind = 3
  ·simp [k3]
  ·simp [k3, show ¬ (4 : Int) < b by omega, show ¬ (4 : Int) < t by omega]
 refine al_ (fn := Tryz.f177) [] Tryz.func177 rfl rfl (by simp) fun C => ?_
 rw [ay_]
 simp only [Tryz.ntmps177, T7_, List.length_nil, Nat.reduceAdd, Nat.reduceSub, List.replicate_succ, List.replicate_zero, List.cons_append, List.nil_append, bp_]
 refine .seq (.rgn [] (by simp only [go_sem, seval, ag_, ae_, ab_, aa_, T2_, T1_, a1_]; rfl) ?_ ?_)
 ·(first | trivial | (simp; done) | (simp [bx_, bh_]; done))
 refine .seq (.rgn [] (by simp only [go_sem, seval, ag_, ae_, ab_, aa_, T2_, T1_, a1_]; rfl) ?_ ?_)
 ·(first | trivial | (simp; done) | (simp [bx_, bh_]; done))
 refine .seq (.rgn [a4_ (mm_ e)] (by simp only [go_sem, seval, ag_, ae_, ab_, aa_, T2_, T1_, a1_]; rfl) ?_ ?_)
 ·(first | trivial | (simp; done) | (simp [bx_, bh_]; done))
 refine .seqJ (fun op : Int => ⟨[.no, .i .i64 t, .i .i64 b, .pt 13 4 0 0, .no, .no, .no, .i .i64 op, .i .i64 (lvl e), .no, .no, .no, .no, .no, .no, .no, .no, .no, .no, .no, .no, .no, .no, .no, .no, .no, .no, .no, .no, .no, .no, .no, .no, .no, .no, .no, .no, .no, .no, .no, .no, .no, .no, .no, .no, .no, .no, .no, .no, .no, .no, .no, .no, .no, .no, .no, .no, .no, .no, .no, .no, .no, .no, .no, .no, .no, .no, .no, .no, .no, .no, .no, .no, .no, .no, .no, .no, .no, .no, .no, .no, .no, .no, .no, .no, .no, .no, .no, .no, .no, .no, .no, .no, .no, .no, .no, .no, .no, .no, .no, .no, .no], bc_ [(13, ⟨41, 4, [eC e]⟩)], us [13]⟩) (fun op : Int => op = if lvl e < t then 1 else 0) ?_ (fun op hJ => ?_)
 ·refine .seq (.rgn [] (by simp only [go_sem, seval, ag_, ae_, ab_, aa_, T2_, T1_, a1_]; rfl) ?_ ?_)
  ·(first | trivial | (simp; done) | (simp [bx_, bh_]; done))
  refine .condB (by simp only [go_sem, seval, ag_, ae_, ab_, aa_, T2_, T1_, a1_]; rfl) (by simp only [go_sem, seval, ag_, ae_, ab_, aa_, T2_, T1_, a1_]) (fun h18 => ?_) (fun h18 => ?_)
  ·refine .rgn [] (by simp only [go_sem, seval, ag_, ae_, ab_, aa_, T2_, T1_, a1_]; rfl) ?_ ?_
   ·(first | trivial | (simp; done) | (simp [bx_, bh_]; done))
   refine Exists.intro (1) ⟨?_, ?_⟩
   ·simp_all
   exact Can.weak (Weak.lit (by simp only [go_sem, seval, ag_, ae_, ab_, aa_, T2_, T1_, a1_, as_, leV, aq_, ar_, V.inn, us, T9_, Ta_]) (by simp only [go_sem, seval, ag_, ae_, ab_, aa_, T2_, T1_, a1_, as_, leV, aq_, ar_, V.inn, us, T9_, Ta_]) (by simp only [go_sem, seval, ag_, ae_, ab_, aa_, T2_, T1_, a1_, as_, leV, aq_, ar_, V.inn, us, T9_, Ta_]))
  ·refine .skip ?_
   refine Exists.intro (0) ⟨?_, ?_⟩
   ·simp_all
   exact Can.weak (Weak.lit (by simp only [go_sem, seval, ag_, ae_, ab_, aa_, T2_, T1_, a1_, as_, leV, aq_, ar_, V.inn, us, T9_, Ta_]) (by simp only [go_sem, seval, ag_, ae_, ab_, aa_, T2_, T1_, a1_, as_, leV, aq_, ar_, V.inn, us, T9_, Ta_]) (by simp only [go_sem, seval, ag_, ae_, ab_, aa_, T2_, T1_, a1_, as_, leV, aq_, ar_, V.inn, us, T9_, Ta_]))
 refine .seq (.rgn [] (by simp only [go_sem, seval, ag_, ae_, ab_, aa_, T2_, T1_, a1_]; rfl) ?_ ?_)
 ·(first | trivial | (simp; done) | (simp [bx_, bh_]; done))
 refine .seqJ (fun u : Unit => ⟨[.no, .no, .i .i64 b, .no, .no, .no, .no, .i .i64 op, .i .i64 (lvl e), .sl false (wdR (l8c e)), .no, .no, .no, .no, .no, .no, .no, .no, .no, .no, .no, .no, .no, .no, .no, .no, .no, .no, .no, .no, .no, .no, .no, .no, .no, .no, .no, .no, .no, .no, .no, .no, .no, .no, .no, .no, .no, .no, .no, .no, .no, .no, .no, .no, .no, .no, .no, .no, .no, .no, .no, .no, .no, .no, .no, .no, .no, .no, .no, .no, .no, .no, .no, .no, .no, .no, .no, .no, .no, .no, .no, .no, .no, .no, .no, .no, .no, .no, .no, .no, .no, .no, .no, .no, .no, .no, .no, .no, .no, .no, .no, .no], bc_ [], us []⟩) (fun u : Unit => e.kind ≠ 4 ∧ op = if lvl e < t then 1 else 0) ?_ (fun u hJ => ?_)
 ·refine .seq (.rgn [] (by simp only [go_sem, seval, ag_, ae_, ab_, aa_, T2_, T1_, a1_]; rfl) ?_ ?_)
  ·(first | trivial | (simp; done) | (simp [bx_, bh_]; done))
  refine .block (.seq (.rgn [] (by simp only [go_sem, seval, ag_, ae_, ab_, aa_, T2_, T1_, a1_]; rfl) ?_ ?_))
  ·(first | trivial | (simp; done) | (simp [bx_, bh_]; done))
  refine .condB (by simp only [go_sem, seval, ag_, ae_, ab_, aa_, T2_, T1_, a1_]; rfl) (by simp only [go_sem, seval, ag_, ae_, ab_, aa_, T2_, T1_, a1_]) (fun h30 => ?_) (fun h30 => ?_)
  ·refine .rgn [a4_ (vd_ e.n (by have := g1 (by simpa using h30); omega) (by have := g1 (by simpa using h30); omega))] (by simp only [go_sem, seval, ag_, ae_, ab_, aa_, T2_, T1_, a1_]; rfl) ?_ ?_
   ·(first | trivial | (simp; done) | (simp [bx_, bh_]; done))
   refine Exists.intro (()) ⟨?_, ?_⟩
   ·exact ⟨by simp_all, hJ⟩
   refine Can.trans (Can.frz 48 (by simp only [go_sem, seval, ag_, ae_, ab_, aa_, T2_, T1_, a1_] <;> rfl) (by simp only [go_sem, seval, ag_, ae_, ab_, aa_, T2_, T1_, a1_]) (by simp only [go_sem, seval, ag_, ae_, ab_, aa_, T2_, T1_, a1_] <;> rfl) (by simp only [go_sem, seval, ag_, ae_, ab_, aa_, T2_, T1_, a1_] <;> rfl)) ?_
   exact Can.weak (Weak.lit (by simp only [go_sem, seval, ag_, ae_, ab_, aa_, T2_, T1_, a1_, as_, leV, aq_, ar_, V.inn, us, T9_, Ta_] <;> (first | (have k1 : e.kind = 1 := (by simpa using h30); rw [e4_ (g1 k1).1]; simp [l8c, k1, wdR, bd_]; done) | (have k1 : e.kind = 2 := (by simpa using h39); simp [l8c, k1, wdR, bd_]; done) | (have k1 : e.kind = 3 := (by simpa using h47); have q := (g3 k1).2.2.2.2.2.2.2; rw [q, show max (bb_ e.s) 2 = max 2 (bb_ e.s) by omega]; simp [l8c, k1, wdR, bd_]; done) | trace_state)) (by simp only [go_sem, seval, ag_, ae_, ab_, aa_, T2_, T1_, a1_, as_, leV, aq_, ar_, V.inn, us, T9_, Ta_]) (by simp only [go_sem, seval, ag_, ae_, ab_, aa_, T2_, T1_, a1_, as_, leV, aq_, ar_, V.inn, us, T9_, Ta_]))
  ·refine .seq (.rgn [] (by simp only [go_sem, seval, ag_, ae_, ab_, aa_, T2_, T1_, a1_]; rfl) ?_ ?_)
   ·(first | trivial | (simp; done) | (simp [bx_, bh_]; done))
   refine .condB (by simp only [go_sem, seval, ag_, ae_, ab_, aa_, T2_, T1_, a1_]; rfl) (by simp only [go_sem, seval, ag_, ae_, ab_, aa_, T2_, T1_, a1_]) (fun h39 => ?_) (fun h39 => ?_)
   ·refine .rgn [] (by simp only [go_sem, seval, ag_, ae_, ab_, aa_, T2_, T1_, a1_]; rfl) ?_ ?_
    ·(first | trivial | (simp; done) | (simp [bx_, bh_]; done))
    refine Exists.intro (()) ⟨?_, ?_⟩
    ·exact ⟨by simp_all, hJ⟩
    refine Can.trans (Can.frz 56 (by simp only [go_sem, seval, ag_, ae_, ab_, aa_, T2_, T1_, a1_] <;> rfl) (by simp only [go_sem, seval, ag_, ae_, ab_, aa_, T2_, T1_, a1_]) (by simp only [go_sem, seval, ag_, ae_, ab_, aa_, T2_, T1_, a1_] <;> rfl) (by simp only [go_sem, seval, ag_, ae_, ab_, aa_, T2_, T1_, a1_] <;> rfl)) ?_
    exact Can.weak (Weak.lit (by simp only [go_sem, seval, ag_, ae_, ab_, aa_, T2_, T1_, a1_, as_, leV, aq_, ar_, V.inn, us, T9_, Ta_] <;> (first | (have k1 : e.kind = 1 := (by simpa using h30); rw [e4_ (g1 k1).1]; simp [l8c, k1, wdR, bd_]; done) | (have k1 : e.kind = 2 := (by simpa using h39); simp [l8c, k1, wdR, bd_]; done) | (have k1 : e.kind = 3 := (by simpa using h47); have q := (g3 k1).2.2.2.2.2.2.2; rw [q, show max (bb_ e.s) 2 = max 2 (bb_ e.s) by omega]; simp [l8c, k1, wdR, bd_]; done) | trace_state)) (by simp only [go_sem, seval, ag_, ae_, ab_, aa_, T2_, T1_, a1_, as_, leV, aq_, ar_, V.inn, us, T9_, Ta_]) (by simp only [go_sem, seval, ag_, ae_, ab_, aa_, T2_, T1_, a1_, as_, leV, aq_, ar_, V.inn, us, T9_, Ta_]))
   ·refine .seq (.rgn [] (by simp only [go_sem, seval, ag_, ae_, ab_, aa_, T2_, T1_, a1_]; rfl) ?_ ?_)
    ·(first | trivial | (simp; done) | (simp [bx_, bh_]; done))
    refine .condB (by simp only [go_sem, seval, ag_, ae_, ab_, aa_, T2_, T1_, a1_]; rfl) (by simp only [go_sem, seval, ag_, ae_, ab_, aa_, T2_, T1_, a1_]) (fun h47 => ?_) (fun h47 => ?_)
    ·refine .seq (.rgn [a4_ (ags_ (lvl e) 2)] (by simp only [go_sem, seval, ag_, ae_, ab_, aa_, T2_, T1_, a1_]; rfl) ?_ ?_)
     ·(first | trivial | (simp; done) | (simp [bx_, bh_]; done))
     refine .seq (.rgn [a4_ (ih (e.kids.getD 0 E0) (max (lvl e) 2) (max (lvl e) 2) (g3 (by simpa using h47)).2.2.2.1 (cv_ a3 _ (bj_ (by have := g3 (by simpa using h47); omega))) (g3 (by simpa using h47)).2.2.2.2.2.1 (by have := g3 (by simpa using h47); omega) (by have := g3 (by simpa using h47); omega) (by omega) (by omega))] (by simp only [go_sem, seval, ag_, ae_, ab_, aa_, T2_, T1_, a1_, dw_ (show 0 < e.kids.length by have := g3 (by simpa using h47); omega)]; rfl) ?_ ?_)
     ·have q := g3 (by simpa using h47); simp; omega
     refine .seq (.rgn [a4_ (ig_ d (e.kids.getD 0 E0) (max (lvl e) 2) (g3 (by simpa using h47)).2.2.2.1 (cv_ a3 _ (bj_ (by have := g3 (by simpa using h47); omega))) (g3 (by simpa using h47)).2.2.2.2.2.1 (by have := g3 (by simpa using h47); omega) (by omega))] (by simp only [go_sem, seval, ag_, ae_, ab_, aa_, T2_, T1_, a1_, dw_ (show 0 < e.kids.length by have := g3 (by simpa using h47); omega)]; rfl) ?_ ?_)
     ·have q := g3 (by simpa using h47); simp; omega
     refine .seq (.rgn [a4_ (ih (e.kids.getD 1 E0) (lvl e + 1) (lvl e + 1) (g3 (by simpa using h47)).2.2.2.2.1 (cv_ a3 _ (bj_ (by have := g3 (by simpa using h47); omega))) (g3 (by simpa using h47)).2.2.2.2.2.2.1 (by have := g3 (by simpa using h47); omega) (by have := g3 (by simpa using h47); omega) (by have := g3 (by simpa using h47); omega) (by have := g3 (by simpa using h47); omega))] (by simp only [go_sem, seval, ag_, ae_, ab_, aa_, T2_, T1_, a1_, dw_ (show 1 < e.kids.length by have := g3 (by simpa using h47); omega), bf_ (show -9223372036854775808 ≤ lvl e + 1 by have := g3 (by simpa using h47); omega) (by have := g3 (by simpa using h47); omega)]; rfl) ?_ ?_)
     ·have q := g3 (by simpa using h47); simp; omega
     refine .rgnD [a4_ (hy_ (l8 (e.kids.getD 1 E0) (lvl e + 1) (lvl e + 1)) ((wds (e.kids.getD 0 E0) (max (lvl e) 2)).length + 1) (by have q := g3 (by simpa using h47); have := (l2_ q.2.2.2.2.1 q.2.2.2.2.2.2.1 (t := lvl e + 1) (b := lvl e + 1) (by omega) (by omega)).1; omega) (fun p hp => by have q := g3 (by simpa using h47); have := (l2_ q.2.2.2.2.1 q.2.2.2.2.2.2.1 (t := lvl e + 1) (b := lvl e + 1) (by omega) (by omega)).2 p hp; omega) (by omega) (by have q := g3 (by simpa using h47); have := ib_ d _ q.2.2.2.1 q.2.2.2.2.2.1 (max (lvl e) 2); omega))] enM (by simp only [go_sem, seval, ag_, ae_, ab_, aa_, T2_, T1_, a1_, bf_ (show -9223372036854775808 ≤ ((wds (e.kids.getD 0 E0) (max (lvl e) 2)).length : Int) + 1 by omega) (by have q := g3 (by simpa using h47); have := ib_ d _ q.2.2.2.1 q.2.2.2.2.2.1 (max (lvl e) 2); omega)]; rfl) (by rfl) ?_ ?_
     ·have q := g3 (by simpa using h47); have q1 := (l2_ q.2.2.2.1 q.2.2.2.2.2.1 (t := max (lvl e) 2) (b := max (lvl e) 2) (by omega) (by omega)).1; have q2 := (l2_ q.2.2.2.2.1 q.2.2.2.2.2.2.1 (t := lvl e + 1) (b := lvl e + 1) (by omega) (by omega)).1; simp [-List.getD_eq_getElem?_getD, bx_, bh_]; omega
     refine Exists.intro (()) ⟨?_, ?_⟩
     ·exact ⟨by simp_all, hJ⟩
     refine Can.trans (Can.frz 97 (by simp only [go_sem, seval, ag_, ae_, ab_, aa_, T2_, T1_, a1_] <;> rfl) (by simp only [go_sem, seval, ag_, ae_, ab_, aa_, T2_, T1_, a1_]) (by simp only [go_sem, seval, ag_, ae_, ab_, aa_, T2_, T1_, a1_] <;> rfl) (by simp only [go_sem, seval, ag_, ae_, ab_, aa_, T2_, T1_, a1_] <;> rfl)) ?_
     exact Can.weak (Weak.lit (by simp only [go_sem, seval, ag_, ae_, ab_, aa_, T2_, T1_, a1_, as_, leV, aq_, ar_, V.inn, us, T9_, Ta_] <;> (first | (have k1 : e.kind = 1 := (by simpa using h30); rw [e4_ (g1 k1).1]; simp [l8c, k1, wdR, bd_]; done) | (have k1 : e.kind = 2 := (by simpa using h39); simp [l8c, k1, wdR, bd_]; done) | (have k1 : e.kind = 3 := (by simpa using h47); have q := (g3 k1).2.2.2.2.2.2.2; rw [q, show max (bb_ e.s) 2 = max 2 (bb_ e.s) by omega]; simp [l8c, k1, wdR, bd_]; done) | trace_state)) (by simp only [go_sem, seval, ag_, ae_, ab_, aa_, T2_, T1_, a1_, as_, leV, aq_, ar_, V.inn, us, T9_, Ta_]) (by simp only [go_sem, seval, ag_, ae_, ab_, aa_, T2_, T1_, a1_, as_, leV, aq_, ar_, V.inn, us, T9_, Ta_]))
    ·refine .seq (.rgn [a4_ (ih (e.kids.getD 0 E0) 4 b (g4 (by simp_all)).2.1 (cv_ a3 _ (bj_ (by have := g4 (by simp_all); omega))) (g4 (by simp_all)).2.2 (by decide) hb (by decide) hb2), a4_ (hy_ (l8 (e.kids.getD 0 E0) 4 b) op (by have q := g4 (by simp_all); have := (l2_ q.2.1 q.2.2 (t := 4) (b := b) (by omega) hb).1; omega) (fun p hp => by have q := g4 (by simp_all); have := (l2_ q.2.1 q.2.2 (t := 4) (b := b) (by omega) hb).2 p hp; omega) (by rw [hJ]; split <;> decide) (by rw [hJ]; split <;> decide))] (by simp only [go_sem, seval, ag_, ae_, ab_, aa_, T2_, T1_, a1_, dw_ (show 0 < e.kids.length by have := g4 (by simp_all); omega)]; rfl) ?_ ?_)
     ·have q := g4 (by simp_all); simp; omega
     refine .ret ⟨.inr rfl, ?_⟩
     exact Out.plain (by simp only [Tryz.results177]; rfl) (by simp only [az_, a7_, go_sem, seval, ag_, ae_, ab_, aa_, T2_, T1_, a1_] <;> (split <;> rfl)) (by simp only [a5_, go_sem, seval, ag_, ae_, ab_, aa_, T2_, T1_, a1_] <;> (have k4 : e.kind = 4 := (by simp_all); rw [ai7_ k4 (g4 k4).1, show op = 0 by rw [hJ, if_neg (by rw [hlv, if_neg (by omega)]; omega)], ky_])) (by simp only [go_sem, seval, ag_, ae_, ab_, aa_, T2_, T1_, a1_])
 refine .seq (.rgn [a4_ (hy_ (l8c e) op (by have := hC hJ.1; omega) (fun p hp => by have := (hC hJ.1).2 p hp; omega) (by rw [hJ.2]; split <;> decide) (by rw [hJ.2]; split <;> decide))] (by simp only [go_sem, seval, ag_, ae_, ab_, aa_, T2_, T1_, a1_]; rfl) ?_ ?_)
 ·(first | trivial | (simp; done) | (simp [bx_, bh_]; done))
 refine .seq (.seq (.rgn [] (by simp only [go_sem, seval, ag_, ae_, ab_, aa_, T2_, T1_, a1_]; rfl) ?_ ?_))
 ·(first | trivial | (simp; done) | (simp [bx_, bh_]; done))
 refine .condB (by simp only [go_sem, seval, ag_, ae_, ab_, aa_, T2_, T1_, a1_]; rfl) (by simp only [go_sem, seval, ag_, ae_, ab_, aa_, T2_, T1_, a1_]) (fun h93 => ?_) (fun h93 => ?_)
 ·refine .seq (.rgn [] (by simp only [go_sem, seval, ag_, ae_, ab_, aa_, T2_, T1_, a1_]; rfl) ?_ ?_)
  ·have q := hC hJ.1; have q2 := hN hJ.1; simp [bx_, bh_, e1_, shf, q2]; omega
  refine .frz 110 (by simp only [go_sem, seval, ag_, ae_, ab_, aa_, T2_, T1_, a1_]; rfl) (by simp only [go_sem, seval, ag_, ae_, ab_, aa_, T2_, T1_, a1_]) (by simp only [go_sem, seval, ag_, ae_, ab_, aa_, T2_, T1_, a1_]; rfl) (by simp only [go_sem, seval, ag_, ae_, ab_, aa_, T2_, T1_, a1_]; rfl) ?_
  refine .ret ⟨.inr rfl, ?_⟩
  exact Out.plain (by simp only [Tryz.results177]; rfl) (by simp only [az_, a7_, go_sem, seval, ag_, ae_, ab_, aa_, T2_, T1_, a1_] <;> (split <;> rfl)) (by simp only [a5_, go_sem, seval, ag_, ae_, ab_, aa_, T2_, T1_, a1_] <;> (rw [hT hJ.1, h93, hJ.2, if_pos (by omega), T1_ (by simp [ag_, a1_]; omega)]; simp [brk, wdR, peel])) (by simp only [go_sem, seval, ag_, ae_, ab_, aa_, T2_, T1_, a1_])
 ·refine .skip (.seq (.rgn [] (by simp only [go_sem, seval, ag_, ae_, ab_, aa_, T2_, T1_, a1_]; rfl) ?_ ?_))
  ·(first | trivial | (simp; done) | (simp [bx_, bh_]; done))
  refine .ret ⟨.inr rfl, ?_⟩
  exact Out.plain (by simp only [Tryz.results177]; rfl) (by simp only [az_, a7_, go_sem, seval, ag_, ae_, ab_, aa_, T2_, T1_, a1_] <;> (split <;> rfl)) (by simp only [a5_, go_sem, seval, ag_, ae_, ab_, aa_, T2_, T1_, a1_] <;> (rw [hT hJ.1, h93, hJ.2]; rfl)) (by simp only [go_sem, seval, ag_, ae_, ab_, aa_, T2_, T1_, a1_])
theorem qv_ {e : E} (h : eok e = true) : (l8 e 1 1).length ≤ 3000 ∧ ∀ p ∈ l8 e 1 1, -1 ≤ p.2 ∧ p.2 ≤ 3000 := l2_ (d := 5) (bt_ h) (hr_ h) (by decide) (by decide)
theorem agb_ {e : E} (h : eok e = true) : l8 e 1 1 ≠ [] := fun e0 => by
 have T := ip_ 5 e 1 1 0 (bt_ h) (by decide) (by decide) (by decide)
 have h1 := fe_ 5 e (bt_ h)
 have h2 := (c2_ 5 (bare e) 1 h1.1).1
 have h3 := T.len
 rw [e0, m2_] at h3
 simp only [List.length_nil] at h3; omega
theorem aeo_ (s : Sl) (h : cn_ s = true) (hs : ep_ s = true) : ACall En 137 [.ag (sC s)] [] [.sl false (wdR (l8L s))] [] := by
 obtain ⟨h0, h1, h2⟩ := fw_ h
 obtain ⟨s1, s1', s2, s3⟩ := gc_ hs
 have X : s.kind = 1 ∨ s.kind = 2 ∨ s.kind = 3 → _ := fun hk => t9_ 5 s.expr 1 1 (bt_ (h1 hk)) s2 (hr_ (h1 hk)) (by decide) (by decide) (by decide) (by decide)
 have X3 : s.kind = 3 → _ := fun hk => t9_ 5 s.thn 1 1 (bt_ (h2 hk)) s3 (hr_ (h2 hk)) (by decide) (by decide) (by decide) (by decide)
 have W : s.kind = 3 → _ := fun hk => ig_ 5 s.expr 1 (bt_ (h1 (.inr (.inr hk)))) s2 (hr_ (h1 (.inr (.inr hk)))) (by decide) (by decide)
 have Sh : s.kind = 1 ∨ s.kind = 2 ∨ s.kind = 3 → ∀ n : Int, 0 ≤ n → n ≤ 1000000 → _ := fun hk n hn hn2 => hy_ (l8 s.expr 1 1) n (by have := (qv_ (h1 hk)).1; omega) (fun p hp => by have := (qv_ (h1 hk)).2 p hp; omega) hn hn2
 have Sh3 : s.kind = 3 → ∀ n : Int, 0 ≤ n → n ≤ 1000000 → _ := fun hk n hn hn2 => hy_ (l8 s.thn 1 1) n (by have := (qv_ (h2 hk)).1; omega) (fun p hp => by have := (qv_ (h2 hk)).2 p hp; omega) hn hn2
 have hW : s.kind = 3 → (wds s.expr 1).length ≤ 36 := fun hk => (cd_ (h1 (.inr (.inr hk))) 1).2.1
 refine al_ (fn := Tryz.f137) [] Tryz.func137 rfl rfl (by simp) fun C => ?_
 rw [ay_]
 simp only [Tryz.ntmps137, T7_, List.length_nil, Nat.reduceAdd, Nat.reduceSub, List.replicate_succ, List.replicate_zero, List.cons_append, List.nil_append, bp_]
 refine .seq (.rgn [] (by simp only [go_sem, seval, ag_, ae_, ab_, aa_, T2_, T1_, a1_, ak_]; rfl) ?_ ?_)
 ·(first | trivial | (simp; done) | (simp [bx_, bh_]; done))
 refine .seq (.seq (.rgn [] (by simp only [go_sem, seval, ag_, ae_, ab_, aa_, T2_, T1_, a1_, ak_]; rfl) ?_ ?_))
 ·(first | trivial | (simp; done) | (simp [bx_, bh_]; done))
 refine .block (.seq (.rgn [] (by simp only [go_sem, seval, ag_, ae_, ab_, aa_, T2_, T1_, a1_, ak_]; rfl) ?_ ?_))
 ·(first | trivial | (simp; done) | (simp [bx_, bh_]; done))
 refine .condB (by simp only [go_sem, seval, ag_, ae_, ab_, aa_, T2_, T1_, a1_, ak_]; rfl) (by simp only [go_sem, seval, ag_, ae_, ab_, aa_, T2_, T1_, a1_, ak_]) (fun h7 => ?_) (fun h7 => ?_)
 ·refine .seq (.rgnD [a4_ (X (.inl (by simpa using h7))), a4_ (Sh (.inl (by simpa using h7)) 5 (by decide) (by decide))] enM (by simp only [go_sem, seval, ag_, ae_, ab_, aa_, T2_, T1_, a1_, ak_]; rfl) (by rfl) ?_ ?_)
  ·have k := h1 (.inl (by simpa using h7)); have q := (qv_ k).1; have q2 := agb_ k; simp [bx_, bh_, e1_, shf, q2]; omega
  refine .frz 28 (by simp only [go_sem, seval, ag_, ae_, ab_, aa_, T2_, T1_, a1_, ak_]; rfl) (by simp only [go_sem, seval, ag_, ae_, ab_, aa_, T2_, T1_, a1_, ak_]) (by simp only [go_sem, seval, ag_, ae_, ab_, aa_, T2_, T1_, a1_, ak_]; rfl) (by simp only [go_sem, seval, ag_, ae_, ab_, aa_, T2_, T1_, a1_, ak_]; rfl) ?_
  refine .ret ⟨.inr rfl, ?_⟩
  exact Out.plain (by simp only [Tryz.results137]; rfl) (by simp only [az_, a7_, go_sem, seval, ag_, ae_, ab_, aa_, T2_, T1_, a1_, ak_] <;> (split <;> rfl)) (by simp only [a5_, go_sem, seval, ag_, ae_, ab_, aa_, T2_, T1_, a1_, ak_] <;> (have k : s.kind = 1 := (by simpa using h7); rw [if_pos (by omega), T1_ (by simp [ag_, a1_]; omega)]; simp [l8L, k, wdR, peel, wEq])) (by simp only [go_sem, seval, ag_, ae_, ab_, aa_, T2_, T1_, a1_, ak_])
 ·refine .seq (.rgn [] (by simp only [go_sem, seval, ag_, ae_, ab_, aa_, T2_, T1_, a1_, ak_]; rfl) ?_ ?_)
  ·(first | trivial | (simp; done) | (simp [bx_, bh_]; done))
  refine .condB (by simp only [go_sem, seval, ag_, ae_, ab_, aa_, T2_, T1_, a1_, ak_]; rfl) (by simp only [go_sem, seval, ag_, ae_, ab_, aa_, T2_, T1_, a1_, ak_]) (fun h19 => ?_) (fun h19 => ?_)
  ·refine .seq (.rgn [a4_ (X (.inr (.inl (by simpa using h19)))), a4_ (Sh (.inr (.inl (by simpa using h19))) 1 (by decide) (by decide))] (by simp only [go_sem, seval, ag_, ae_, ab_, aa_, T2_, T1_, a1_, ak_]; rfl) ?_ ?_)
   ·have k := h1 (.inr (.inl (by simpa using h19))); have q := (qv_ k).1; have q2 := agb_ k; simp [bx_, bh_, e1_, shf, q2]; omega
   refine .frz 37 (by simp only [go_sem, seval, ag_, ae_, ab_, aa_, T2_, T1_, a1_, ak_]; rfl) (by simp only [go_sem, seval, ag_, ae_, ab_, aa_, T2_, T1_, a1_, ak_]) (by simp only [go_sem, seval, ag_, ae_, ab_, aa_, T2_, T1_, a1_, ak_]; rfl) (by simp only [go_sem, seval, ag_, ae_, ab_, aa_, T2_, T1_, a1_, ak_]; rfl) ?_
   refine .ret ⟨.inr rfl, ?_⟩
   exact Out.plain (by simp only [Tryz.results137]; rfl) (by simp only [az_, a7_, go_sem, seval, ag_, ae_, ab_, aa_, T2_, T1_, a1_, ak_] <;> (split <;> rfl)) (by simp only [a5_, go_sem, seval, ag_, ae_, ab_, aa_, T2_, T1_, a1_, ak_] <;> (have k : s.kind = 2 := (by simpa using h19); rw [if_pos (by omega), T1_ (by simp [ag_, a1_]; omega)]; simp [l8L, k, wdR, peel, ez_])) (by simp only [go_sem, seval, ag_, ae_, ab_, aa_, T2_, T1_, a1_, ak_])
  ·refine .seq (.rgn [] (by simp only [go_sem, seval, ag_, ae_, ab_, aa_, T2_, T1_, a1_, ak_]; rfl) ?_ ?_)
   ·(first | trivial | (simp; done) | (simp [bx_, bh_]; done))
   refine .condB (by simp only [go_sem, seval, ag_, ae_, ab_, aa_, T2_, T1_, a1_, ak_]; rfl) (by simp only [go_sem, seval, ag_, ae_, ab_, aa_, T2_, T1_, a1_, ak_]) (fun h28 => ?_) (fun h28 => ?_)
   ·refine .seq (.rgn [a4_ (W (by simpa using h28))] (by simp only [go_sem, seval, ag_, ae_, ab_, aa_, T2_, T1_, a1_, ak_]; rfl) ?_ ?_)
    ·(first | trivial | (simp; done) | (simp [bx_, bh_]; done))
    refine .seq (.rgn [a4_ (X (.inr (.inr (by simpa using h28)))), a4_ (Sh (.inr (.inr (by simpa using h28))) 1 (by decide) (by decide))] (by simp only [go_sem, seval, ag_, ae_, ab_, aa_, T2_, T1_, a1_, ak_]; rfl) ?_ ?_)
    ·have k := h1 (.inr (.inr (by simpa using h28))); have q := (qv_ k).1; have q2 := agb_ k; simp [bx_, bh_, e1_, shf, q2]; omega
    refine .seq (.rgn [] (by simp only [go_sem, seval, ag_, ae_, ab_, aa_, T2_, T1_, a1_, ak_, bf_ (show -9223372036854775808 ≤ ((wds s.expr 1).length : Int) + 1 by omega) (by have := hW (by simpa using h28); omega)]; rfl) ?_ ?_)
    ·have k := h1 (.inr (.inr (by simpa using h28))); have q := (qv_ k).1; simp [bx_, bh_]; omega
    refine .seq (.rgn [a4_ (X3 (by simpa using h28)), a4_ (Sh3 (by simpa using h28) ((wds s.expr 1).length + 2) (by omega) (by have := hW (by simpa using h28); omega))] (by simp only [go_sem, seval, ag_, ae_, ab_, aa_, T2_, T1_, a1_, ak_, bf_ (show -9223372036854775808 ≤ ((wds s.expr 1).length : Int) + 2 by omega) (by have := hW (by simpa using h28); omega)]; rfl) ?_ ?_)
    ·have k := h1 (.inr (.inr (by simpa using h28))); have q := (qv_ k).1; have k2 := h2 (by simpa using h28); have q2 := (qv_ k2).1; simp [bx_, bh_]; omega
    refine .frz 65 (by simp only [go_sem, seval, ag_, ae_, ab_, aa_, T2_, T1_, a1_, ak_]; rfl) (by simp only [go_sem, seval, ag_, ae_, ab_, aa_, T2_, T1_, a1_, ak_]) (by simp only [go_sem, seval, ag_, ae_, ab_, aa_, T2_, T1_, a1_, ak_]; rfl) (by simp only [go_sem, seval, ag_, ae_, ab_, aa_, T2_, T1_, a1_, ak_]; rfl) ?_
    refine .ret ⟨.inr rfl, ?_⟩
    exact Out.plain (by simp only [Tryz.results137]; rfl) (by simp only [az_, a7_, go_sem, seval, ag_, ae_, ab_, aa_, T2_, T1_, a1_, ak_] <;> (split <;> rfl)) (by simp only [a5_, go_sem, seval, ag_, ae_, ab_, aa_, T2_, T1_, a1_, ak_] <;> (have k : s.kind = 3 := (by simpa using h28); rw [if_pos (by omega), T1_ (by simp [ag_, a1_]; omega)]; simp [l8L, k, wdR, peel, ez_, wIf, hf_])) (by simp only [go_sem, seval, ag_, ae_, ab_, aa_, T2_, T1_, a1_, ak_])
   ·refine .skip (.seq (.rgn [] (by simp only [go_sem, seval, ag_, ae_, ab_, aa_, T2_, T1_, a1_, ak_]; rfl) ?_ ?_))
    ·(first | trivial | (simp; done) | (simp [bx_, bh_]; done))
    refine .can (Can.slotLe 2 (.sl false []) (by simp only [go_sem, seval, ag_, ae_, ab_, aa_, T2_, T1_, a1_, ak_] <;> trivial) (by simp only [go_sem, seval, ag_, ae_, ab_, aa_, T2_, T1_, a1_, ak_] <;> rfl)) ?_
    refine .ret ⟨.inr rfl, ?_⟩
    exact Out.plain (by simp only [Tryz.results137]; rfl) (by simp only [az_, a7_, go_sem, seval, ag_, ae_, ab_, aa_, T2_, T1_, a1_, ak_] <;> (split <;> rfl)) (by simp only [a5_, go_sem, seval, ag_, ae_, ab_, aa_, T2_, T1_, a1_, ak_] <;> (have k : s.kind = 0 := (by simp_all); simp [l8L, k, wdR])) (by simp only [go_sem, seval, ag_, ae_, ab_, aa_, T2_, T1_, a1_, ak_])
theorem gt_ {s : Sl} (h : cn_ s = true) : (l8L s).length = (bw (bof s)).length ∧ (l8L s).map (·.1) = bw (bof s) := by
 obtain ⟨h0, h1, h2⟩ := fw_ h
 have T : ∀ e : E, eok e = true → (l8 e 1 1).map (·.1) = wds (bare e) 1 := fun e he => by
  rw [(ip_ 5 e 1 1 0 (bt_ he) (by decide) (by decide) (by decide)).fst, ec_]
 have hm : (l8L s).map (·.1) = bw (bof s) := by
  unfold l8L bw bof
  rcases h0 with k | k | k | k
  ·simp [k]
  ·simp [k, ts_, T _ (h1 (.inl k))]
  ·simp [k, ts_, T _ (h1 (.inr (.inl k)))]
  ·simp [k, ts_, T _ (h1 (.inr (.inr k))), T _ (h2 k)]
 exact ⟨by rw [← hm, List.length_map], hm⟩
end
section
set_option maxRecDepth 100000
set_option maxHeartbeats 4000000
theorem af2_ {e : E} {d : Int} (h : form e d = true) (nx : Int) : src e 1 nx = src e 0 nx := by
 rw [z7_ h 1 nx]
 obtain ⟨_, h1 | h1 | h1 | h1⟩ := bk_ h
 ·simp [h1.1, brk]
 ·simp [h1.1, brk]
 ·have := ce_ h1.2.2.1
  rw [decide_eq_false (show ¬ bb_ e.s < 1 by omega), Bool.and_false]; rfl
 ·simp [h1.1, brk]
def Ltr (L : Wd) : Wd → Wd → Prop
 | [], [] => True
 | w :: B, c :: C => c.1 = w.1 ∧ ((w.2 = -1 ∧ c.2 = -1 ∧ (w.1 = [40] ∨ w.1 = [41] ∨ w.1 = hf_)) ∨ (0 ≤ w.2 ∧ 0 ≤ c.2 ∧ ∃ u, L[c.2.toNat]? = some u ∧ u.2 = w.2 ∧ (u.1 = w.1 ∨ (u.1 = bs_ ∧ w.1 = ez_) ∨ (u.1 = dh_ ∧ w.1 = wIf)))) ∧ Ltr L B C
 | _, _ => False
theorem Ltr.app {L : Wd} : ∀ {B C B' C' : Wd}, Ltr L B C → Ltr L B' C' → Ltr L (B ++ B') (C ++ C')
 | [], [], _, _, _, h => h
 | [], _ :: _, _, _, h, _ => by simp [Ltr] at h
 | _ :: _, [], _, _, h, _ => by simp [Ltr] at h
 | w :: B, c :: C, B', C', h, k => by
  simp only [Ltr] at h
  simp only [List.cons_append, Ltr]
  exact ⟨h.1, h.2.1, h.2.2.app k⟩
theorem Ltr.right {L Q : Wd} : ∀ {B C : Wd}, Ltr L B C → Ltr (L ++ Q) B C
 | [], [], _ => by simp [Ltr]
 | [], _ :: _, h => by simp [Ltr] at h
 | _ :: _, [], h => by simp [Ltr] at h
 | w :: B, c :: C, h => by
  simp only [Ltr] at h ⊢
  refine ⟨h.1, ?_, h.2.2.right⟩
  rcases h.2.1 with h1 | ⟨h1, h2, u, h3, h4⟩
  ·exact .inl h1
  ·exact .inr ⟨h1, h2, u, by rw [List.getElem?_append_left (List.getElem?_eq_some_iff.1 h3).1]; exact h3, h4⟩
def tp_ (l : Wd) : Prop := ∀ p ∈ l, p.2 = -1 → p.1 = [40] ∨ p.1 = [41]
theorem tl_ : ∀ (d : Nat) (e : E) (must nx : Int), form e d = true → pla e = true → 0 ≤ nx → tp_ (src e must nx)
 | 0, e, must, nx, h, _, _ => by have := (bk_ h).1; omega
 | d + 1, e, must, nx, h, hp, hn0 => by
  have e1 : ((d + 1 : Nat) : Int) - 1 = (d : Int) := by omega
  obtain ⟨h0, h1 | h1 | h1 | h1⟩ := bk_ h
  ·rw [om_ h1.1]; intro p hp h; simp at hp; subst hp; dsimp only at h; omega
  ·rw [ku_ h1.1]; intro p hp h; simp at hp; subst hp; dsimp only at h; omega
  ·obtain ⟨k, hn, ho, hl, ha, hb⟩ := h1
   rw [e1] at ha hb
   have hpk : wh_ e.kids = true := by rw [af5_] at hp; simp only [T5_] at hp; exact hp.2
   rw [if_ hl] at hpk
   simp only [wh_, Bool.and_true, T5_] at hpk
   have hc := c2_ d _ 0 ha
   have A := tl_ d _ (max 2 (bb_ e.s)) (nx + 1) ha hpk.1 (by omega)
   have B := tl_ d _ (bb_ e.s + 1) (nx + 1 + cnt (e.kids.getD 0 E0)) hb hpk.2 (by omega)
   rw [hn_ k hl]
   have core : tp_ (src (e.kids.getD 0 E0) (max 2 (bb_ e.s)) (nx + 1) ++ (e.s, nx) :: src (e.kids.getD 1 E0) (bb_ e.s + 1) (nx + 1 + cnt (e.kids.getD 0 E0))) := by
    intro p hp h
    rcases List.mem_append.1 hp with hp | hp
    ·exact A p hp h
    ·rcases List.mem_cons.1 hp with rfl | hp
     ·dsimp only at h; omega
     ·exact B p hp h
   cases decide (bb_ e.s < must) with
   | false => exact core
   | true =>
    intro p hp h
    simp only [brk, if_true, List.mem_cons, List.mem_append, List.not_mem_nil, or_false] at hp
    rcases hp with rfl | hp | rfl
    ·exact .inl rfl
    ·exact core p (by simpa using hp) h
    ·exact .inr rfl
  ·rw [af5_] at hp; simp [h1.1] at hp
theorem Ltr.of {L P : Wd} : ∀ {B C : Wd}, tp_ B → Trc L B C → Ltr (P ++ L) B (shf P.length C)
 | [], [], _, _ => by simp [shf, Ltr]
 | [], _ :: _, _, h => by simp [Trc] at h
 | _ :: _, [], _, h => by simp [Trc] at h
 | w :: B, c :: C, hb, h => by
  simp only [Trc] at h
  have ih := Ltr.of (P := P) (fun p hp => hb p (List.mem_cons_of_mem _ hp)) h.2.2
  simp only [shf, List.map_cons, Ltr] at ih ⊢
  rcases h.2.1 with ⟨h1, h2⟩ | ⟨h1, h2, h3⟩
  ·rw [if_neg (by omega)]
   refine ⟨h.1, .inl ⟨h1, h2, ?_⟩, ih⟩
   rcases hb w List.mem_cons_self h1 with q | q
   ·exact .inl q
   ·exact .inr (.inl q)
  ·rw [if_pos h2]
   refine ⟨h.1, .inr ⟨h1, by dsimp only; omega, w, ?_, rfl, .inl rfl⟩, ih⟩
   dsimp only
   rw [show (c.2 + (P.length : Int)).toNat = P.length + c.2.toNat by omega, List.getElem?_append_right (by omega), Nat.add_sub_cancel_left]
   exact h3
theorem lk_ {e : E} (h : eok e = true) (P : Wd) (nx : Int) (hn : 0 ≤ nx) : Ltr (P ++ src e 0 nx) (src (bare e) 0 nx) (shf P.length (l8 e 1 1)) := by
 have hb := fe_ 5 e (bt_ h)
 have T := ip_ 5 e 1 1 nx (bt_ h) (by decide) (by decide) hn
 rw [af2_ (bt_ h), af2_ hb.1] at T
 exact Ltr.of (tl_ 5 _ 0 nx hb.1 (lz_ e (ii_ h)) hn) T
theorem p4_ {s : Sl} (h : cn_ s = true) : Ltr (df_ s) (d6_ (bof s)) (l8L s) := by
 obtain ⟨h0, h1, h2⟩ := fw_ h
 unfold df_ d6_ bof l8L
 rcases h0 with k | k | k | k
 ·simp [k, Ltr]
 ·have q := lk_ (h1 (.inl k)) [(hs_, 100), (s.name, 101), (hf_, -1), (s.type, -1), (wEq, 102)] 0 (by decide)
  simp only [k, if_true, show ¬ (1 : Int) = 0 by omega, if_false]
  simp only [List.cons_append, List.nil_append, T7_, List.length_nil] at q
  simp only [Ltr]
  exact ⟨trivial, .inr ⟨by decide, by decide, (s.name, 101), rfl, rfl, .inl rfl⟩, trivial, .inr ⟨by decide, by decide, (wEq, 102), rfl, rfl, .inl rfl⟩, q⟩
 ·have q := lk_ (h1 (.inr (.inl k))) [(bs_, 103)] 0 (by decide)
  simp only [k, if_true, show ¬ (2 : Int) = 0 by omega, show ¬ (2 : Int) = 1 by omega, if_false]
  simp only [List.cons_append, List.nil_append, T7_, List.length_nil] at q
  simp only [Ltr]
  exact ⟨trivial, .inr ⟨by decide, by decide, (bs_, 103), rfl, rfl, .inr (.inl ⟨rfl, trivial⟩)⟩, q⟩
 ·have he := h1 (.inr (.inr k))
  have q := lk_ he [(dh_, 100)] 0 (by decide)
  have hc := (c2_ 5 _ 0 (bt_ he)).2.2.2
  have q2 := lk_ (h2 k) ((dh_, 100) :: src s.expr 0 0 ++ [(bs_, 103)]) (cnt s.expr) (by omega)
  have hl : (src s.expr 0 0).length = (wds s.expr 1).length := by rw [m2_, eq_ (bt_ he)]
  simp only [k, if_true, show ¬ (3 : Int) = 0 by omega, show ¬ (3 : Int) = 1 by omega, show ¬ (3 : Int) = 2 by omega, if_false]
  rw [i8_ 5 _ (bt_ he)]
  refine Ltr.app (Ltr.app (B := (wIf, 100) :: _) (C := (wIf, 0) :: _) ?_ ?_) ?_
  ·simp only [List.cons_append, List.nil_append, T7_, List.length_nil] at q
   simp only [Ltr]
   refine ⟨trivial, .inr ⟨by decide, by decide, (dh_, 100), rfl, rfl, .inr (.inr ⟨rfl, trivial⟩)⟩, ?_⟩
   have := (q.right (Q := [(bs_, 103)])).right (Q := src s.thn 0 (cnt s.expr))
   simpa using this
  ·simp only [Ltr]
   refine ⟨trivial, .inl ⟨trivial, trivial, .inr (.inr trivial)⟩, trivial, .inr ⟨by decide, by omega, (bs_, 103), ?_, rfl, .inr (.inl ⟨rfl, trivial⟩)⟩, trivial⟩
   rw [← hl, show (((src s.expr 0 0).length : Int) + 1).toNat = (src s.expr 0 0).length + 1 by omega]
   simp
  ·have e2 : ((((dh_, 100) :: src s.expr 0 0 ++ [(bs_, 103)] : Wd).length : Nat) : Int) = ((wds s.expr 1).length : Int) + 2 := by rw [← hl]; simp; omega
   rw [e2] at q2
   simpa using q2
theorem wk_ {s : Sl} (h : cn_ s = true) : (ids (df_ s)).Nodup := by
 obtain ⟨h0, h1, h2⟩ := fw_ h
 have I : ∀ e : E, eok e = true → ∀ nx : Int, 0 ≤ nx → nx ≤ 12 → (ids (src e 0 nx)).Nodup ∧ ∀ i ∈ ids (src e 0 nx), nx ≤ i ∧ i < nx + cnt e ∧ i < 100 := fun e he nx hn hn2 => by
  have := oe_ 5 e 0 nx (bt_ he) hn
  have hc := j8_ he
  exact ⟨this.1, fun i hi => by have := this.2 i hi; omega⟩
 unfold df_
 rcases h0 with k | k | k | k
 ·simp [k, ids]
 ·obtain ⟨i1, i2⟩ := I _ (h1 (.inl k)) 0 (by decide) (by decide)
  simp only [k, if_true, h1_, show (0 : Int) ≤ 100 by omega, show (0 : Int) ≤ 101 by omega, show (0 : Int) ≤ 102 by omega, show ¬ (0 : Int) ≤ -1 by omega, if_false]
  simp only [List.nodup_cons, List.mem_cons]
  exact ⟨fun h => by rcases h with h | h | h; omega; omega; have := i2 _ h; omega, fun h => by rcases h with h | h; omega; have := i2 _ h; omega, fun h => by have := i2 _ h; omega, i1⟩
 ·obtain ⟨i1, i2⟩ := I _ (h1 (.inr (.inl k))) 0 (by decide) (by decide)
  simp only [k, if_true, show ¬ (2 : Int) = 1 by omega, if_false, h1_, show (0 : Int) ≤ 103 by omega, List.nodup_cons]
  exact ⟨fun h => by have := i2 _ h; omega, i1⟩
 ·have he := h1 (.inr (.inr k))
  have hc := j8_ he
  obtain ⟨i1, i2⟩ := I _ he 0 (by decide) (by decide)
  obtain ⟨j1, j2⟩ := I _ (h2 k) (cnt s.expr) (by omega) (by omega)
  rw [if_neg (by omega), if_neg (by omega), if_pos k]
  have e1 : ids ((dh_, 100) :: src s.expr 0 0 ++ [(bs_, 103)] ++ src s.thn 0 (cnt s.expr)) = 100 :: (ids (src s.expr 0 0) ++ 103 :: ids (src s.thn 0 (cnt s.expr))) := by
   simp [n5_, h1_, y5_]
  rw [e1]
  refine List.nodup_cons.2 ⟨fun h => ?_, List.nodup_append.2 ⟨i1, List.nodup_cons.2 ⟨fun h => by have := j2 _ h; omega, j1⟩, fun a ha b hb => ?_⟩⟩
  ·rcases List.mem_append.1 h with h | h
   ·have := i2 _ h; omega
   ·rcases List.mem_cons.1 h with h | h
    ·omega
    ·have := j2 _ h; omega
  ·have q := i2 a ha
   rcases List.mem_cons.1 hb with rfl | hb
   ·omega
   ·have := j2 b hb; omega
def fn_ (s : Sl) : List Int := (d6_ (bof s)).map fun w => if w.2 < 0 then -1 else ew_ 0 (df_ s) w.2
theorem Ltr.len {L : Wd} : ∀ {B C : Wd}, Ltr L B C → C.length = B.length
 | [], [], _ => rfl
 | [], _ :: _, h => by simp [Ltr] at h
 | _ :: _, [], h => by simp [Ltr] at h
 | w :: B, c :: C, h => by
  simp only [Ltr] at h
  simp only [T7_, h.2.2.len]
theorem Ltr.get {L : Wd} : ∀ {B C : Wd}, Ltr L B C → ∀ {j : Nat} {w : Str × Int}, B[j]? = some w → ∃ c, C[j]? = some c ∧ c.1 = w.1 ∧ ((w.2 = -1 ∧ c.2 = -1 ∧ (w.1 = [40] ∨ w.1 = [41] ∨ w.1 = hf_)) ∨ (0 ≤ w.2 ∧ 0 ≤ c.2 ∧ ∃ u, L[c.2.toNat]? = some u ∧ u.2 = w.2 ∧ (u.1 = w.1 ∨ (u.1 = bs_ ∧ w.1 = ez_) ∨ (u.1 = dh_ ∧ w.1 = wIf))))
 | [], [], _, j, w, hw => by simp at hw
 | [], _ :: _, h, _, _, _ => by simp [Ltr] at h
 | _ :: _, [], h, _, _, _ => by simp [Ltr] at h
 | v :: B, c :: C, h, j, w, hw => by
  simp only [Ltr] at h
  cases j with
  | zero =>
   simp only [List.getElem?_cons_zero, Option.some.injEq] at hw; subst hw
   exact ⟨c, rfl, h.1, h.2.1⟩
  | succ j =>
   simp only [List.getElem?_cons_succ] at hw ⊢
   exact h.2.2.get hw
theorem ta_ {s : Sl} (h : cn_ s = true) : i9_ s = fn_ s := by
 have T := p4_ h
 have hn := wk_ h
 have hm := k8_ h
 unfold i9_ fn_
 apply List.ext_getElem?
 intro j
 rw [List.getElem?_map, List.getElem?_map]
 cases hj : (d6_ (bof s))[j]? with
 | none =>
  have : (l8L s)[j]? = none := List.getElem?_eq_none (by rw [T.len]; exact List.getElem?_eq_none_iff.1 hj)
  rw [this]; rfl
 | some w =>
  obtain ⟨c, c1, c2, c3⟩ := T.get hj
  rw [c1]
  simp only [Option.map_some, Option.some.injEq]
  rcases c3 with ⟨q1, q2, _⟩ | ⟨q1, q2, u, q3, q4, _⟩
  ·rw [if_pos (by omega), if_pos (by omega)]
  ·rw [if_neg (by omega), if_neg (by omega)]
   have := lc_ 0 hn q3 (by omega)
   rw [hm, q4] at this
   rw [T8_, this]; rfl
theorem y8_ {s : Sl} (h : cn_ s = true) {w : Str × Int} (hw : w ∈ d6_ (bof s)) (h0 : 0 ≤ w.2) : w.2 ∈ ids (df_ s) := by
 obtain ⟨j, hj⟩ := List.mem_iff_getElem?.1 hw
 obtain ⟨c, _, _, c3⟩ := (p4_ h).get hj
 rcases c3 with ⟨q1, _⟩ | ⟨_, _, u, q3, q4, _⟩
 ·omega
 ·exact n1_.2 ⟨List.mem_map.2 ⟨u, List.mem_of_getElem? q3, q4⟩, h0⟩
theorem ai5_ {s : Sl} (h : cn_ s = true) : ∀ p ∈ l8L s, p.2 < ((sw' s).length : Int) := fun p hp => by
 have T := p4_ h
 obtain ⟨j, hj⟩ := List.mem_iff_getElem?.1 hp
 have hl := (List.getElem?_eq_some_iff.1 hj).1
 rw [T.len] at hl
 obtain ⟨c, c1, _, c3⟩ := T.get (T6_ hl)
 rw [hj] at c1; cases c1
 rcases c3 with ⟨_, q2, _⟩ | ⟨_, q2, u, q3, _⟩
 ·omega
 ·have := (List.getElem?_eq_some_iff.1 q3).1
  have e : (df_ s).length = (sw' s).length := by rw [← k8_ h, List.length_map]
  omega
end
section
set_option maxRecDepth 100000
set_option maxHeartbeats 4000000
def emT (s : Sl) : Str := if sok s then bw_ (bw (bof s)) else []
def emF (s : Sl) : List Int := if sok s then fn_ s else []
theorem ac8_ {s : Sl} (h : cn_ s = true) : wid (sw' s) ≤ 1000 := by
 have := k3_ h
 have h2 := xo_ (fun s hs => (this.2 s hs).2)
 rw [z3_]; omega
theorem f3_ (s : Sl) : (i9_ s).length = (l8L s).length := by simp [i9_]
theorem sa_ {s : Sl} {k : Nat} (h : k < (l8L s).length) : (i9_ s).getD k 0 = if ((l8L s).getD k ([], 0)).2 < 0 then -1 else (b8_ 0 (sw' s)).getD ((l8L s).getD k ([], 0)).2.toNat 0 := by
 simp [i9_, T8_, T6_ h]
theorem up_ {l : List Int} {k : Nat} (h : k < l.length) : inR (l.take (k + 1)) = inR (l.take k) ++ [[.i .i64 (l.getD k 0)]] := by
 rw [List.take_add_one, T6_ h, so_, T8_, T6_ h]; rfl
theorem q6_ {l : List Str} {k : Nat} (h : k < l.length) : bn_ (l.take (k + 1)) = bn_ (l.take k) ++ [[.s (l.getD k [])]] := by
 rw [List.take_add_one, T6_ h, or_, T8_, T6_ h]; rfl
theorem acd_ {l : Wd} {k : Nat} (h : k < l.length) : (l.map (·.1)).getD k [] = (l.getD k ([], 0)).1 := by
 simp [T8_, T6_ h]
theorem ul_ (s : Sl) (hs : ep_ s = true) : ACall En 95 [.ag (sC s)] [] [.s (emT s), .sl false (inR (emF s))] [] := by
 have L : sok s = true → (l8L s).length ≤ 76 := fun h => by have := (ni_ (f9_ (c9_ h))).1; have := (gt_ (c9_ h)).1; omega
 have hm : sok s = true → (l8L s).map (·.1) = bw (bof s) := fun h => (gt_ (c9_ h)).2
 refine al_ (fn := Tryz.f95) [] Tryz.func95 rfl rfl (by simp) fun C => ?_
 rw [ay_]
 simp only [Tryz.ntmps95, T7_, List.length_nil, Nat.reduceAdd, Nat.reduceSub, List.replicate_succ, List.replicate_zero, List.cons_append, List.nil_append, bp_]
 refine .seq (.rgn [] (by simp only [go_sem, seval, ak_, ag_, ae_, ab_, aa_, ai_, ac_, a6_]; rfl) ?_ ?_)
 ·(first | trivial | (simp; done) | (simp at h23; simp; omega))
 refine .seq (.seq (.rgn [a4_ (m4_ s hs)] (by simp only [go_sem, seval, ak_, ag_, ae_, ab_, aa_, ai_, ac_, a6_]; rfl) ?_ ?_))
 ·(first | trivial | (simp; done) | (simp at h23; simp; omega))
 refine .condB (by simp only [go_sem, seval, ak_, ag_, ae_, ab_, aa_, ai_, ac_, a6_]; rfl) (by simp only [go_sem, seval, ak_, ag_, ae_, ab_, aa_, ai_, ac_, a6_]) (fun h11 => ?_) (fun h11 => ?_)
 ·refine .seq (.rgn [] (by simp only [go_sem, seval, ak_, ag_, ae_, ab_, aa_, ai_, ac_, a6_]; rfl) ?_ ?_)
  ·(first | trivial | (simp; done) | (simp at h23; simp; omega))
  refine .ret ⟨.inr rfl, ?_⟩
  exact Out.plainL (by simp only [Tryz.results95]; rfl) (by simp only [az_, a7_, go_sem, seval, ak_, ag_, ae_, ab_, aa_, ai_, ac_, a6_] <;> (split <;> rfl)) (by simp only [a5_, go_sem, seval, ak_, ag_, ae_, ab_, aa_, ai_, ac_, a6_] <;> (simp at h11; simp [emT, emF, h11, inR, ler])) (by simp only [go_sem, seval, ak_, ag_, ae_, ab_, aa_, ai_, ac_, a6_])
 ·refine .skip (.seq (.rgn [cg_ (sok s = true) (fun h => aeo_ s (c9_ h) hs)] (by simp only [go_sem, seval, ak_, ag_, ae_, ab_, aa_, ai_, ac_, a6_]; rfl) ?_ ?_))
  ·simpa using h11
  refine .seq (.rgn [cg_ (sok s = true) (fun h => hv_ s (c9_ h) hs), cg_ (sok s = true) (fun h => ab6_ (sw' s) (by have := (k3_ (c9_ h)).1; omega) (by have := ac8_ (c9_ h); omega))] (by simp only [go_sem, seval, ak_, ag_, ae_, ab_, aa_, ai_, ac_, a6_]; rfl) ?_ ?_)
  ·simpa using h11
  refine .seq (.rgn [] (by simp only [go_sem, seval, ak_, ag_, ae_, ab_, aa_, ai_, ac_, a6_]; rfl) ?_ ?_)
  ·(first | trivial | (simp; done) | (simp at h23; simp; omega))
  refine .seq (.rgn [] (by simp only [go_sem, seval, ak_, ag_, ae_, ab_, aa_, ai_, ac_, a6_]; rfl) ?_ ?_)
  ·(first | trivial | (simp; done) | (simp at h23; simp; omega))
  refine .seq (.seq (.rgn [] (by simp only [go_sem, seval, ak_, ag_, ae_, ab_, aa_, ai_, ac_, a6_]; rfl) ?_ ?_))
  ·(first | trivial | (simp; done) | (simp at h23; simp; omega))
  refine .block (.loopK (fun k : Nat => ⟨[.no, .no, .no, .no, .sl false (wdR (l8L s)), .sl false (inR (b8_ 0 (sw' s))), .ow 60 1 0 k, .ow 61 1 0 k, .i .i64 k, .no, .no, .no, .no, .no, .no, .no, .no, .no, .no, .no, .no, .no, .no, .no, .no, .no, .no, .no, .no, .no, .no, .no, .no, .no, .no, .no, .no, .no, .no, .no, .no, .no, .no, .no, .no, .no, .no, .no, .no, .no, .no, .no, .no, .no, .no, .no, .no], bc_ [(60, ⟨9, 1, bn_ ((bw (bof s)).take k)⟩), (61, ⟨3, 1, inR ((i9_ s).take k)⟩)], us [60, 61]⟩) (fun k : Nat => k ≤ (l8L s).length ∧ sok s = true) (fun k : Nat => (l8L s).length - k) (0) ?_ ?_ (fun k hI => ?_))
  ·exact ⟨by simp, by simpa using h11⟩
  ·refine Can.trans (Can.ownSlot 6 60 9 1 (by simp only [go_sem, seval, ak_, ag_, ae_, ab_, aa_, ai_, ac_, a6_] <;> rfl) (by simp only [go_sem, seval, ak_, ag_, ae_, ab_, aa_, ai_, ac_, a6_]) (by simp only [go_sem, seval, ak_, ag_, ae_, ab_, aa_, ai_, ac_, a6_] <;> rfl)) ?_
   refine Can.trans (Can.ownSlot 7 61 3 1 (by simp only [go_sem, seval, ak_, ag_, ae_, ab_, aa_, ai_, ac_, a6_] <;> rfl) (by simp only [go_sem, seval, ak_, ag_, ae_, ab_, aa_, ai_, ac_, a6_]) (by simp only [go_sem, seval, ak_, ag_, ae_, ab_, aa_, ai_, ac_, a6_] <;> rfl)) ?_
   exact Can.weak (Weak.lit (by simp only [go_sem, seval, ak_, ag_, ae_, ab_, aa_, ai_, ac_, a6_, as_, leV, aq_, ar_, V.inn, us, T9_, Ta_] <;> (simp)) (by simp only [go_sem, seval, ak_, ag_, ae_, ab_, aa_, ai_, ac_, a6_, as_, leV, aq_, ar_, V.inn, us, T9_, Ta_]) (by simp only [go_sem, seval, ak_, ag_, ae_, ab_, aa_, ai_, ac_, a6_, as_, leV, aq_, ar_, V.inn, us, T9_, Ta_] <;> (simp [bn_, inR])))
  refine .seq (.seq (.rgn [] (by simp only [go_sem, seval, ak_, ag_, ae_, ab_, aa_, ai_, ac_, a6_]; rfl) ?_ ?_))
  ·(first | trivial | (simp; done) | (simp at h23; simp; omega))
  refine .condB (by simp only [go_sem, seval, ak_, ag_, ae_, ab_, aa_, ai_, ac_, a6_]; rfl) (by simp only [go_sem, seval, ak_, ag_, ae_, ab_, aa_, ai_, ac_, a6_]) (fun h23 => ?_) (fun h23 => ?_)
  ·refine .skip (.seqJ (fun u : Unit => ⟨[.no, .no, .no, .no, .sl false (wdR (l8L s)), .sl false (inR (b8_ 0 (sw' s))), .ow 43 1 0 (k + 1), .ow 61 1 0 (k + 1), .i .i64 k, .no, .no, .no, .no, .no, .no, .no, .no, .no, .no, .no, .no, .no, .no, .no, .no, .no, .no, .no, .no, .no, .no, .no, .no, .no, .no, .no, .no, .no, .no, .no, .no, .no, .no, .no, .no, .no, .no, .no, .no, .no, .no, .no, .no, .no, .no, .no, .no], bc_ [(43, ⟨9, 1, bn_ ((bw (bof s)).take (k + 1))⟩), (61, ⟨3, 1, inR ((i9_ s).take (k + 1))⟩)], us [43, 61]⟩) (fun u : Unit => True) ?_ (fun u hJ => ?_))
   ·refine .block (.seq (.rgn [] (by simp only [go_sem, seval, ak_, ag_, ae_, ab_, aa_, ai_, ac_, a6_, hk_ (show k < (l8L s).length by simpa using h23)]; rfl) ?_ ?_))
    ·simp only [T3_] at h23; have q := L hI.2; have q2 := (gt_ (c9_ hI.2)).1; simp; omega
    refine .seq (.rgn [] (by simp only [go_sem, seval, ak_, ag_, ae_, ab_, aa_, ai_, ac_, a6_, hk_ (show k < (l8L s).length by simpa using h23)]; rfl) ?_ ?_)
    ·(first | trivial | (simp; done) | (simp at h23; simp; omega))
    refine .condB (by simp only [go_sem, seval, ak_, ag_, ae_, ab_, aa_, ai_, ac_, a6_]; rfl) (by simp only [go_sem, seval, ak_, ag_, ae_, ab_, aa_, ai_, ac_, a6_]) (fun h39 => ?_) (fun h39 => ?_)
    ·refine .rgn [] (by simp only [go_sem, seval, ak_, ag_, ae_, ab_, aa_, ai_, ac_, a6_]; rfl) ?_ ?_
     ·simp only [T3_] at h23; have q := L hI.2; have q2 := f3_ s; simp; omega
     refine Exists.intro (()) ⟨?_, ?_⟩
     ·trivial
     refine Can.trans (Can.swap 52 61 (by decide) (by decide) (by decide) (by decide) (by simp only [go_sem, seval, ak_, ag_, ae_, ab_, aa_, ai_, ac_, a6_, V.cl]) (by simp only [go_sem, seval, ak_, ag_, ae_, ab_, aa_, ai_, ac_, a6_, V.cl]) (by simp only [go_sem, seval, ak_, ag_, ae_, ab_, aa_, ai_, ac_, a6_, bi_, sw, swM, rnB] <;> rfl) (by simp only [go_sem, seval, ak_, ag_, ae_, ab_, aa_, ai_, ac_, a6_, bi_, sw, swM, rnB] <;> rfl) (by simp only [go_sem, seval, ak_, ag_, ae_, ab_, aa_, ai_, ac_, a6_, bi_, sw, swM, rnB] <;> rfl)) ?_
     exact Can.weak (Weak.lit (by simp only [go_sem, seval, ak_, ag_, ae_, ab_, aa_, ai_, ac_, a6_, as_, leV, aq_, ar_, V.inn, us, T9_, Ta_] <;> (simp)) (by simp only [go_sem, seval, ak_, ag_, ae_, ab_, aa_, ai_, ac_, a6_, as_, leV, aq_, ar_, V.inn, us, T9_, Ta_]) (by simp only [go_sem, seval, ak_, ag_, ae_, ab_, aa_, ai_, ac_, a6_, as_, leV, aq_, ar_, V.inn, us, T9_, Ta_] <;> ((simp only [T3_] at h23); (have q2 := (gt_ (c9_ hI.2)).1); rw [q6_ (show k < (bw (bof s)).length by omega), up_ (show k < (i9_ s).length by rw [f3_]; omega), sa_ (show k < (l8L s).length by omega), ← hm hI.2, acd_ (show k < (l8L s).length by omega)]; (first | (simp only [T3_] at h39; rw [if_pos h39]; simp; done) | (simp only [T4_] at h39; rw [if_neg h39]; simp; done) | trace_state))))
    ·refine .rgn [] (by simp only [go_sem, seval, ak_, ag_, ae_, ab_, aa_, ai_, ac_, a6_, hk_ (show k < (l8L s).length by simpa using h23), d0_ (show ((l8L s).getD k ([], 0)).2.toNat < (b8_ 0 (sw' s)).length by have := ai5_ (c9_ hI.2) _ (bj_ (d := ([], 0)) (show k < (l8L s).length by simpa using h23)); simp only [T4_] at h39; rw [a6_]; omega)]; rfl) ?_ ?_
     ·simp only [T3_] at h23; simp only [T4_] at h39; have q := L hI.2; have q2 := f3_ s; have q3 := ai5_ (c9_ hI.2) _ (bj_ (d := ([], 0)) (show k < (l8L s).length by omega)); simp [-List.getD_eq_getElem?_getD]; omega
     refine Exists.intro (()) ⟨?_, ?_⟩
     ·trivial
     refine Can.trans (Can.swap 63 61 (by decide) (by decide) (by decide) (by decide) (by simp only [go_sem, seval, ak_, ag_, ae_, ab_, aa_, ai_, ac_, a6_, V.cl]) (by simp only [go_sem, seval, ak_, ag_, ae_, ab_, aa_, ai_, ac_, a6_, V.cl]) (by simp only [go_sem, seval, ak_, ag_, ae_, ab_, aa_, ai_, ac_, a6_, bi_, sw, swM, rnB] <;> rfl) (by simp only [go_sem, seval, ak_, ag_, ae_, ab_, aa_, ai_, ac_, a6_, bi_, sw, swM, rnB] <;> rfl) (by simp only [go_sem, seval, ak_, ag_, ae_, ab_, aa_, ai_, ac_, a6_, bi_, sw, swM, rnB] <;> rfl)) ?_
     exact Can.weak (Weak.lit (by simp only [go_sem, seval, ak_, ag_, ae_, ab_, aa_, ai_, ac_, a6_, as_, leV, aq_, ar_, V.inn, us, T9_, Ta_] <;> (simp)) (by simp only [go_sem, seval, ak_, ag_, ae_, ab_, aa_, ai_, ac_, a6_, as_, leV, aq_, ar_, V.inn, us, T9_, Ta_]) (by simp only [go_sem, seval, ak_, ag_, ae_, ab_, aa_, ai_, ac_, a6_, as_, leV, aq_, ar_, V.inn, us, T9_, Ta_] <;> ((simp only [T3_] at h23); (have q2 := (gt_ (c9_ hI.2)).1); rw [q6_ (show k < (bw (bof s)).length by omega), up_ (show k < (i9_ s).length by rw [f3_]; omega), sa_ (show k < (l8L s).length by omega), ← hm hI.2, acd_ (show k < (l8L s).length by omega)]; (first | (simp only [T3_] at h39; rw [if_pos h39]; simp; done) | (simp only [T4_] at h39; rw [if_neg h39]; simp; done) | trace_state))))
   refine .rgn [] (by simp only [go_sem, seval, ak_, ag_, ae_, ab_, aa_, ai_, ac_, a6_]; rfl) ?_ ?_
   ·(first | trivial | (simp; done) | (simp at h23; simp; omega))
   refine Exists.intro (k + 1) ⟨?_, ?_, ?_⟩
   ·simp at h23; exact ⟨by omega, hI.2⟩
   ·simp at h23; omega
   refine Can.trans (Can.swap 43 60 (by decide) (by decide) (by decide) (by decide) (by simp only [go_sem, seval, ak_, ag_, ae_, ab_, aa_, ai_, ac_, a6_, V.cl]) (by simp only [go_sem, seval, ak_, ag_, ae_, ab_, aa_, ai_, ac_, a6_, V.cl]) (by simp only [go_sem, seval, ak_, ag_, ae_, ab_, aa_, ai_, ac_, a6_, bi_, sw, swM, rnB] <;> rfl) (by simp only [go_sem, seval, ak_, ag_, ae_, ab_, aa_, ai_, ac_, a6_, bi_, sw, swM, rnB] <;> rfl) (by simp only [go_sem, seval, ak_, ag_, ae_, ab_, aa_, ai_, ac_, a6_, bi_, sw, swM, rnB] <;> rfl)) ?_
   exact Can.weak (Weak.lit (by simp only [go_sem, seval, ak_, ag_, ae_, ab_, aa_, ai_, ac_, a6_, as_, leV, aq_, ar_, V.inn, us, T9_, Ta_] <;> ((have q := L hI.2); rw [bf_ (by simp at h23; omega) (by simp at h23; omega)]; simp)) (by simp only [go_sem, seval, ak_, ag_, ae_, ab_, aa_, ai_, ac_, a6_, as_, leV, aq_, ar_, V.inn, us, T9_, Ta_]) (by simp only [go_sem, seval, ak_, ag_, ae_, ab_, aa_, ai_, ac_, a6_, as_, leV, aq_, ar_, V.inn, us, T9_, Ta_]))
  ·refine .exit (.seq (.rgn [x2_ (sok s = true) (fun h => g5_ (bw (bof s)) (by have := (ni_ (f9_ (c9_ h))).1; omega) (by have := yv_ (f9_ (c9_ h)); omega))] (by simp only [go_sem, seval, ak_, ag_, ae_, ab_, aa_, ai_, ac_, a6_]; rfl) ?_ ?_))
   ·simp only [T4_] at h23; have q2 := (gt_ (c9_ hI.2)).1; obtain rfl : k = (bw (bof s)).length := (by omega); refine ⟨?_, hI.2⟩; rw [T1_ (Nat.le_refl _), if_pos (Nat.le_refl _), T1_ (by rw [ab_]; exact Nat.le_refl _)]; exact g3_ _
   refine .frz 61 (by simp only [go_sem, seval, ak_, ag_, ae_, ab_, aa_, ai_, ac_, a6_]; rfl) (by simp only [go_sem, seval, ak_, ag_, ae_, ab_, aa_, ai_, ac_, a6_]) (by simp only [go_sem, seval, ak_, ag_, ae_, ab_, aa_, ai_, ac_, a6_]; rfl) (by simp only [go_sem, seval, ak_, ag_, ae_, ab_, aa_, ai_, ac_, a6_]; rfl) ?_
   refine .ret ⟨.inr rfl, ?_⟩
   exact Out.plainL (by simp only [Tryz.results95]; rfl) (by simp only [az_, a7_, go_sem, seval, ak_, ag_, ae_, ab_, aa_, ai_, ac_, a6_] <;> (split <;> rfl)) (by simp only [a5_, go_sem, seval, ak_, ag_, ae_, ab_, aa_, ai_, ac_, a6_] <;> (simp at h11; simp only [T4_] at h23; have q2 := (gt_ (c9_ hI.2)).1; have q3 := f3_ s; obtain rfl : k = (i9_ s).length := (by omega); rw [T1_ (Nat.le_refl _), if_pos (Nat.le_refl _), T1_ (by rw [ai_]; exact Nat.le_refl _), ta_ (c9_ hI.2)]; simp [emT, emF, h11, peel, bd_, g3_])) (by simp only [go_sem, seval, ak_, ag_, ae_, ab_, aa_, ai_, ac_, a6_])
theorem ac4_ : En.P.underlying 119 = some (.map 3 3) := Tryz.underlying119
theorem ac3_ : En.P.underlying 3 = some (.int .i64) := Tryz.underlying3
theorem adl_ {s : Sl} (h : cn_ s = true) : (df_ s).length ≤ 76 ∧ fr_ (df_ s) ≤ 1000 := by
 have h1 := (k3_ h).1
 have h2 := ac8_ h
 rw [← k8_ h] at h1 h2
 exact ⟨by simpa using h1, by unfold fr_; omega⟩
theorem aer_ {b : Bl} (h : j5_ b = true) : (d6_ b).length ≤ 76 := by
 have h1 := (ni_ h).1
 rw [← zl_ h] at h1
 simpa using h1
theorem rb_ (s : Sl) : (fn_ s).length = (d6_ (bof s)).length := by simp [fn_]
theorem m5_ {s : Sl} {k : Nat} (h : k < (d6_ (bof s)).length) : (fn_ s).getD k 0 = if ((d6_ (bof s)).getD k ([], 0)).2 < 0 then -1 else ew_ 0 (df_ s) ((d6_ (bof s)).getD k ([], 0)).2 := by
 simp [fn_, T8_, T6_ h]
theorem ol_ {l : List Int} {k : Nat} (h : k < l.length) (z : List V) {r : List V} (hr : r = [.i .i64 (l.getD k 0)]) : (eh_ (inR l) z k).set k r = eh_ (inR l) z (k + 1) := by
 rw [hr, ← d0_ h]; exact hd_ (by rw [ai_]; exact h)
theorem agr_ {s : Sl} (h : cn_ s = true) {k : Nat} (hk : k < (d6_ (bof s)).length) (h0 : 0 ≤ ((d6_ (bof s)).getD k ([], 0)).2) : je_ (nz_ (df_ s) (df_ s).length) ((d6_ (bof s)).getD k ([], 0)).2 = some (ew_ 0 (df_ s) ((d6_ (bof s)).getD k ([], 0)).2) :=
 afd_ (wk_ h) (y8_ h (bj_ hk) h0)
theorem ajv_ (s : Sl) (h : cn_ s = true) (hs : ep_ s = true) : ACall En 84 [.ag (sC s)] [] [.s (bw_ (bw (bof s))), .ow 0 1 0 (fn_ s).length] [⟨3, 1, inR (fn_ s)⟩] := by
 obtain ⟨l1, l2⟩ := adl_ h
 have hb := f9_ h
 have hsb := agh_ hs
 have l3 := aer_ hb
 have W := w2_ s h hs
 have Cl := abc_ (df_ s) (by omega) (by omega)
 have Bo := acs_ s hs (zm_ h).1 (zm_ h).2
 have Bw := u3_ (bof s) hb hsb
 have Bt := ai0_ (bof s) hb hsb
 have hfl := rb_ s
 have hll : (inR (fn_ s)).length = (d6_ (bof s)).length := by rw [ai_, hfl]
 have hp : ∀ k, b4_ (eh_ (inR (fn_ s)) [.i .i64 0] k) = true := fun k => gy_ (ac_ _) rfl
 have hd1 : ∀ k j, ((eh_ (inR (fn_ s)) [.i .i64 0] k).getD j []).drop 1 = [] := wb_ _ _ (fun r hr => z5_ hr) rfl
 have hcl : (b8_ 0 ((df_ s).map (·.1))).length = (df_ s).length := by rw [a6_, List.length_map]
 refine al_ (fn := Tryz.f84) [46] Tryz.func84 rfl rfl (by simp) fun C => ?_
 rw [ay_]
 simp only [Tryz.ntmps84, T7_, List.length_nil, Nat.reduceAdd, Nat.reduceSub, List.replicate_succ, List.replicate_zero, List.cons_append, List.nil_append, bp_]
 refine .seq (.rgn [] (by simp only [go_sem, seval, ak_, bm_, ag_, ae_, ai_, ac_, hcl, hll, hp, hd1, aw_, ao_]; rfl) ?_ ?_)
 ·first | trivial | simp
 refine .seq (.rgnS [12] [aje_ En 70] (by simp only [go_sem, seval, ak_, bm_, ag_, ae_, ai_, ac_, hcl, hll, hp, hd1, aw_, ao_]; rfl) ?_ ?_)
 ·first | trivial | simp
 refine .seq (.rgn [a4_ W] (by simp only [go_sem, seval, ak_, bm_, ag_, ae_, ai_, ac_, hcl, hll, hp, hd1, aw_, ao_]; rfl) ?_ ?_)
 ·first | trivial | simp
 refine .seq (.seq (.rgn [a4_ Cl] (by simp only [go_sem, seval, ak_, bm_, ag_, ae_, ai_, ac_, hcl, hll, hp, hd1, aw_, ao_]; rfl) ?_ ?_))
 ·first | trivial | simp
 refine .block (.loopK (fun k : Nat => ⟨[.no, .pt 11 11 0 0, .no, .no, .pt 70 0 0 0, .sl false (wdR (df_ s)), .no, .no, .no, .no, .no, .no, .no, .no, .no, .no, .sl false (inR (b8_ 0 ((df_ s).map (·.1)))), .i .i64 (df_ s).length, .i .i64 k, .no, .no, .no, .no, .no, .no, .no, .no, .no, .no, .no, .no, .no, .no, .no, .no, .no, .no, .no, .no, .no, .no, .no, .no, .no, .no, .no, .no, .no, .no, .no, .no, .no, .no, .no, .no, .no, .no, .no, .no, .no, .no, .no], bc_ [(11, ⟨43, 11, [sC s]⟩), (70, ⟨0, 0, mR (nz_ (df_ s) k)⟩)], us [11, 70]⟩) (fun k : Nat => k ≤ (df_ s).length) (fun k : Nat => (df_ s).length - k) (0) ?_ ?_ (fun k hI => ?_))
 ·simp
 ·exact Can.weak (Weak.lit (by simp only [go_sem, seval, ak_, bm_, ag_, ae_, ai_, ac_, hcl, hll, hp, hd1, aw_, ao_, as_, leV, aq_, ar_, V.inn, us, T9_, Ta_] <;> (simp)) (by simp only [go_sem, seval, ak_, bm_, ag_, ae_, ai_, ac_, hcl, hll, hp, hd1, aw_, ao_, as_, leV, aq_, ar_, V.inn, us, T9_, Ta_]) (by simp only [go_sem, seval, ak_, bm_, ag_, ae_, ai_, ac_, hcl, hll, hp, hd1, aw_, ao_, as_, leV, aq_, ar_, V.inn, us, T9_, Ta_] <;> (simp [abu_, mR, ak_])))
 refine .seq (.rgn [] (by simp only [go_sem, seval, ak_, bm_, ag_, ae_, ai_, ac_, hcl, hll, hp, hd1, aw_, ao_]; rfl) ?_ ?_)
 ·first | trivial | simp
 refine .seq (.condB (by simp only [go_sem, seval, ak_, bm_, ag_, ae_, ai_, ac_, hcl, hll, hp, hd1, aw_, ao_]; rfl) (by simp only [go_sem, seval, ak_, bm_, ag_, ae_, ai_, ac_, hcl, hll, hp, hd1, aw_, ao_]) (fun h19 => ?_) (fun h19 => ?_))
 ·refine .skip (.seq (.block (.seq (.rgn [] (by simp only [go_sem, seval, ak_, bm_, ag_, ae_, ai_, ac_, hcl, hll, hp, hd1, aw_, ao_, d0_ (show k < (b8_ 0 ((df_ s).map (·.1))).length by rw [hcl]; simpa using h19)]; rfl) ?_ ?_))))
  ·simp only [T3_] at h19; omega
  refine .rgnS [0] [ai9_ En 70 (nz_ (df_ s) k) 119 3 3 ((df_ s).getD k ([], 0)).2 ((b8_ 0 ((df_ s).map (·.1))).getD k 0) ac4_ ac3_] (by simp only [go_sem, seval, ak_, bm_, ag_, ae_, ai_, ac_, hcl, hll, hp, hd1, aw_, ao_, hk_ (show k < (df_ s).length by simpa using h19)]; rfl) ?_ ?_
  ·simp only [T3_] at h19; omega
  refine .rgn [] (by simp only [go_sem, seval, ak_, bm_, ag_, ae_, ai_, ac_, hcl, hll, hp, hd1, aw_, ao_]; rfl) ?_ ?_
  ·first | trivial | simp
  refine Exists.intro (k + 1) ⟨?_, ?_, ?_⟩
  ·simp at h19; omega
  ·simp at h19; omega
  exact Can.weak (Weak.lit (by simp only [go_sem, seval, ak_, bm_, ag_, ae_, ai_, ac_, hcl, hll, hp, hd1, aw_, ao_, as_, leV, aq_, ar_, V.inn, us, T9_, Ta_] <;> (rw [bf_ (by simp at h19; omega) (by simp at h19; omega)]; simp)) (by simp only [go_sem, seval, ak_, bm_, ag_, ae_, ai_, ac_, hcl, hll, hp, hd1, aw_, ao_, as_, leV, aq_, ar_, V.inn, us, T9_, Ta_]) (by simp only [go_sem, seval, ak_, bm_, ag_, ae_, ai_, ac_, hcl, hll, hp, hd1, aw_, ao_, as_, leV, aq_, ar_, V.inn, us, T9_, Ta_] <;> (rw [aby_ (show k < (df_ s).length by simpa using h19)])))
 ·refine .exit (.seq (.rgn [a4_ Bo, a4_ Bw] (by simp only [go_sem, seval, ak_, bm_, ag_, ae_, ai_, ac_, hcl, hll, hp, hd1, aw_, ao_]; rfl) ?_ ?_))
  ·first | trivial | simp
  refine .seq (.rgn [] (by simp only [go_sem, seval, ak_, bm_, ag_, ae_, ai_, ac_, hcl, hll, hp, hd1, aw_, ao_]; rfl) ?_ ?_)
  ·omega
  refine .seq (.seq (.rgn [] (by simp only [go_sem, seval, ak_, bm_, ag_, ae_, ai_, ac_, hcl, hll, hp, hd1, aw_, ao_]; rfl) ?_ ?_))
  ·first | trivial | simp
  refine .block (.loopK (fun k : Nat => ⟨[.no, .pt 11 11 0 0, .no, .no, .pt 70 0 0 0, .no, .no, .no, .no, .ow 46 1 0 (d6_ (bof s)).length, .no, .no, .no, .no, .no, .no, .no, .no, .no, .no, .no, .no, .no, .no, .no, .no, .no, .no, .no, .no, .no, .no, .no, .no, .no, .no, .no, .sl false (wdR (d6_ (bof s))), .i .i64 (d6_ (bof s)).length, .i .i64 k, .no, .no, .no, .no, .no, .no, .no, .no, .no, .no, .no, .no, .no, .no, .no, .no, .no, .no, .no, .no, .no, .no], bc_ [(11, ⟨43, 11, [sC s]⟩), (70, ⟨0, 0, mR (nz_ (df_ s) (df_ s).length)⟩), (46, ⟨3, 1, eh_ (inR (fn_ s)) [.i .i64 0] k⟩)], us [11, 46, 70]⟩) (fun k : Nat => k ≤ (d6_ (bof s)).length) (fun k : Nat => (d6_ (bof s)).length - k) (0) ?_ ?_ (fun k hI => ?_))
  ·simp
  ·exact Can.weak (Weak.lit (by simp only [go_sem, seval, ak_, bm_, ag_, ae_, ai_, ac_, hcl, hll, hp, hd1, aw_, ao_, as_, leV, aq_, ar_, V.inn, us, T9_, Ta_] <;> (simp)) (by simp only [go_sem, seval, ak_, bm_, ag_, ae_, ai_, ac_, hcl, hll, hp, hd1, aw_, ao_, as_, leV, aq_, ar_, V.inn, us, T9_, Ta_]) (by simp only [go_sem, seval, ak_, bm_, ag_, ae_, ai_, ac_, hcl, hll, hp, hd1, aw_, ao_, as_, leV, aq_, ar_, V.inn, us, T9_, Ta_] <;> ((simp only [T4_] at h19); (obtain rfl : k = (df_ s).length := (by omega)); simp [gx_, hll])))
  refine .seq (.rgn [] (by simp only [go_sem, seval, ak_, bm_, ag_, ae_, ai_, ac_, hcl, hll, hp, hd1, aw_, ao_]; rfl) ?_ ?_)
  ·first | trivial | simp
  refine .seq (.condB (by simp only [go_sem, seval, ak_, bm_, ag_, ae_, ai_, ac_, hcl, hll, hp, hd1, aw_, ao_]; rfl) (by simp only [go_sem, seval, ak_, bm_, ag_, ae_, ai_, ac_, hcl, hll, hp, hd1, aw_, ao_]) (fun h40 => ?_) (fun h40 => ?_))
  ·refine .skip (.seqJ (fun u : Unit => ⟨[.no, .pt 11 11 0 0, .no, .no, .pt 70 0 0 0, .no, .no, .no, .no, .ow 46 1 0 (d6_ (bof s)).length, .no, .no, .no, .no, .no, .no, .no, .no, .no, .no, .no, .no, .no, .no, .no, .no, .no, .no, .no, .no, .no, .no, .no, .no, .no, .no, .no, .sl false (wdR (d6_ (bof s))), .i .i64 (d6_ (bof s)).length, .i .i64 k, .no, .no, .no, .no, .no, .no, .no, .no, .no, .no, .no, .no, .no, .no, .no, .no, .no, .no, .no, .no, .no, .no], bc_ [(11, ⟨43, 11, [sC s]⟩), (70, ⟨0, 0, mR (nz_ (df_ s) (df_ s).length)⟩), (46, ⟨3, 1, eh_ (inR (fn_ s)) [.i .i64 0] (k + 1)⟩)], us [11, 46, 70]⟩) (fun u : Unit => True) ?_ (fun u hJ => ?_))
   ·refine .block (.seq (.rgn [] (by simp only [go_sem, seval, ak_, bm_, ag_, ae_, ai_, ac_, hcl, hll, hp, hd1, aw_, ao_, hk_ (show k < (d6_ (bof s)).length by simpa using h40)]; rfl) ?_ ?_))
    ·simp only [T3_] at h40; omega
    refine .seq (.rgn [] (by simp only [go_sem, seval, ak_, bm_, ag_, ae_, ai_, ac_, hcl, hll, hp, hd1, aw_, ao_]; rfl) ?_ ?_)
    ·simp only [T3_] at h40; omega
    refine .seq (.rgn [] (by simp only [go_sem, seval, ak_, bm_, ag_, ae_, ai_, ac_, hcl, hll, hp, hd1, aw_, ao_]; rfl) ?_ ?_)
    ·first | trivial | simp
    refine .condB (by simp only [go_sem, seval, ak_, bm_, ag_, ae_, ai_, ac_, hcl, hll, hp, hd1, aw_, ao_]; rfl) (by simp only [go_sem, seval, ak_, bm_, ag_, ae_, ai_, ac_, hcl, hll, hp, hd1, aw_, ao_]) (fun h49 => ?_) (fun h49 => ?_)
    ·refine .rgnS [55] [ajp_ En 70 (nz_ (df_ s) (df_ s).length) 119 3 3 ((d6_ (bof s)).getD k ([], 0)).2 (ew_ 0 (df_ s) ((d6_ (bof s)).getD k ([], 0)).2) ac4_ ac3_] (by simp only [go_sem, seval, ak_, bm_, ag_, ae_, ai_, ac_, hcl, hll, hp, hd1, aw_, ao_]; rfl) ?_ ?_
     ·simp only [T3_] at h40 h49; refine ⟨⟨agr_ h (by omega) (by omega), by omega⟩, ?_⟩; rw [List.length_set, aw_, hll]; omega
     refine Exists.intro (()) ⟨?_, ?_⟩
     ·trivial
     exact Can.weak (Weak.lit (by simp only [go_sem, seval, ak_, bm_, ag_, ae_, ai_, ac_, hcl, hll, hp, hd1, aw_, ao_, as_, leV, aq_, ar_, V.inn, us, T9_, Ta_]) (by simp only [go_sem, seval, ak_, bm_, ag_, ae_, ai_, ac_, hcl, hll, hp, hd1, aw_, ao_, as_, leV, aq_, ar_, V.inn, us, T9_, Ta_]) (by simp only [go_sem, seval, ak_, bm_, ag_, ae_, ai_, ac_, hcl, hll, hp, hd1, aw_, ao_, as_, leV, aq_, ar_, V.inn, us, T9_, Ta_] <;> ((simp only [T3_] at h40); (have q := m5_ (show k < (d6_ (bof s)).length by omega)); (have q2 : k < (fn_ s).length := (by omega)); (first | (simp only [T3_] at h49; rw [if_neg (by omega)] at q; rw [List.set_set, ← q, ol_ q2 [.i .i64 0]]; congr 1; (have q3 : k < (eh_ (inR (fn_ s)) [.i .i64 0] k).length := (by rw [aw_, hll]; omega)); simp [T8_, q3]; done) | (simp only [T4_] at h49; rw [if_pos (by omega)] at q; rw [ol_ q2 [.i .i64 0] (by rw [q])]; done) | trace_state))))
    ·refine .skip ?_
     refine Exists.intro (()) ⟨?_, ?_⟩
     ·trivial
     exact Can.weak (Weak.lit (by simp only [go_sem, seval, ak_, bm_, ag_, ae_, ai_, ac_, hcl, hll, hp, hd1, aw_, ao_, as_, leV, aq_, ar_, V.inn, us, T9_, Ta_]) (by simp only [go_sem, seval, ak_, bm_, ag_, ae_, ai_, ac_, hcl, hll, hp, hd1, aw_, ao_, as_, leV, aq_, ar_, V.inn, us, T9_, Ta_]) (by simp only [go_sem, seval, ak_, bm_, ag_, ae_, ai_, ac_, hcl, hll, hp, hd1, aw_, ao_, as_, leV, aq_, ar_, V.inn, us, T9_, Ta_] <;> ((simp only [T3_] at h40); (have q := m5_ (show k < (d6_ (bof s)).length by omega)); (have q2 : k < (fn_ s).length := (by omega)); (first | (simp only [T3_] at h49; rw [if_neg (by omega)] at q; rw [List.set_set, ← q, ol_ q2 [.i .i64 0]]; congr 1; (have q3 : k < (eh_ (inR (fn_ s)) [.i .i64 0] k).length := (by rw [aw_, hll]; omega)); simp [T8_, q3]; done) | (simp only [T4_] at h49; rw [if_pos (by omega)] at q; rw [ol_ q2 [.i .i64 0] (by rw [q])]; done) | trace_state))))
   refine .rgn [] (by simp only [go_sem, seval, ak_, bm_, ag_, ae_, ai_, ac_, hcl, hll, hp, hd1, aw_, ao_]; rfl) ?_ ?_
   ·first | trivial | simp
   refine Exists.intro (k + 1) ⟨?_, ?_, ?_⟩
   ·simp at h40; omega
   ·simp at h40; omega
   exact Can.weak (Weak.lit (by simp only [go_sem, seval, ak_, bm_, ag_, ae_, ai_, ac_, hcl, hll, hp, hd1, aw_, ao_, as_, leV, aq_, ar_, V.inn, us, T9_, Ta_] <;> (rw [bf_ (by simp at h40; omega) (by simp at h40; omega)]; simp)) (by simp only [go_sem, seval, ak_, bm_, ag_, ae_, ai_, ac_, hcl, hll, hp, hd1, aw_, ao_, as_, leV, aq_, ar_, V.inn, us, T9_, Ta_]) (by simp only [go_sem, seval, ak_, bm_, ag_, ae_, ai_, ac_, hcl, hll, hp, hd1, aw_, ao_, as_, leV, aq_, ar_, V.inn, us, T9_, Ta_]))
  ·refine .exit (.seq (.rgn [a4_ Bo, a4_ Bt] (by simp only [go_sem, seval, ak_, bm_, ag_, ae_, ai_, ac_, hcl, hll, hp, hd1, aw_, ao_]; rfl) ?_ ?_))
   ·first | trivial | simp
   refine .ret ⟨.inr rfl, ?_⟩
   exact Out.mem' (by simp only [Tryz.results84]; rfl) (by simp only [az_, a7_, go_sem, seval, ak_, bm_, ag_, ae_, ai_, ac_, hcl, hll, hp, hd1, aw_, ao_]) (by simp only [a5_, rns, rn, go_sem, seval, ak_, bm_, ag_, ae_, ai_, ac_, hcl, hll, hp, hd1, aw_, ao_] <;> (rw [hfl])) (by simp) rfl (by decide) (by simp only [go_sem, seval, ak_, bm_, ag_, ae_, ai_, ac_, hcl, hll, hp, hd1, aw_, ao_]) (by simp only [ao_, go_sem, seval, ak_, bm_, ag_, ae_, ai_, ac_, hcl, hll, hp, hd1, aw_, ao_]) (by simp only [aj_, go_sem, seval, ak_, bm_, ag_, ae_, ai_, ac_, hcl, hll, hp, hd1, aw_, ao_] <;> (simp only [T4_] at h40; rw [id_ (by rw [hll]; omega)]))
end
section
set_option maxRecDepth 100000
set_option maxHeartbeats 4000000
def colLe (X Y : Wd) : Prop := fr_ X ≤ fr_ Y ∧ ∀ i, 0 ≤ i → ((i ∈ X.map (·.2) ↔ i ∈ Y.map (·.2)) ∧ (i ∈ X.map (·.2) → ew_ 0 X i ≤ ew_ 0 Y i))
theorem colLe.refl (X : Wd) : colLe X X := ⟨Int.le_refl _, fun _ _ => ⟨Iff.rfl, fun _ => Int.le_refl _⟩⟩
theorem colLe.app {X X' Y Y' : Wd} (h : colLe X X') (k : colLe Y Y') : colLe (X ++ Y) (X' ++ Y') := by
 refine ⟨by rw [kt_, kt_]; have := h.1; have := k.1; omega, fun i hi => ?_⟩
 obtain ⟨h1, h2⟩ := h.2 i hi
 obtain ⟨k1, k2⟩ := k.2 i hi
 refine ⟨by simp only [List.map_append, List.mem_append, h1, k1], fun hm => ?_⟩
 rw [mh_, mh_]
 by_cases hx : i ∈ X.map (·.2)
 ·rw [if_pos hx, if_pos (h1.1 hx)]; exact h2 hx
 ·rw [if_neg hx, if_neg (fun q => hx (h1.2 q))]
  have hy : i ∈ Y.map (·.2) := by
   rw [List.map_append] at hm
   exact (List.mem_append.1 hm).resolve_left hx
  rw [me_ i (fr_ X) Y 0 hy, me_ i (fr_ X') Y' 0 (k1.1 hy)]
  have := k2 hy
  have := h.1
  omega
theorem colLe.none {Q : Wd} (h : ∀ p ∈ Q, p.2 = -1) : colLe [] Q := by
 refine ⟨by rw [k6_]; exact lg_ Q, fun i hi => ⟨⟨fun q => by simp at q, fun q => ?_⟩, fun q => by simp at q⟩⟩
 obtain ⟨p, hp, e⟩ := List.mem_map.1 q
 have := h p hp
 omega
end
end Go.Proofs.YtilppnadkfgnfaaGreatDoor
