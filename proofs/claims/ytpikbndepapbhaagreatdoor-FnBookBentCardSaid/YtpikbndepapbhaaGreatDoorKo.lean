/- What a line is turned into, the reference's: words with their places. Conditions: none. -/
import Derived.Test.YtpikbndepapbhaaGreatDoorKl
import Derived.Test.YtpikbndepapbhaaGreatDoorKx
import Derived.Test.YtpikbndepapbhaaGreatDoorKn
import Derived.Test.YtpikbndepapbhaaGreatDoorKd
import Derived.Test.YtpikbndepapbhaaGreatDoorKi
import Derived.Test.YtpikbndepapbhaaGreatDoorKb
set_option linter.unusedVariables false
set_option linter.unusedSimpArgs false
namespace Go.Proofs.YtpikbndepapbhaaGreatDoor
section
set_option maxRecDepth 100000
set_option maxHeartbeats 4000000
theorem ac5_ {l : Wd} {k : Nat} (h : k < l.length) : gw_ (l.take (k + 1)) = gw_ (l.take k) + ((l.getD k ([], 0)).1.length + 1) := by
 have e : l.take (k + 1) = l.take k ++ [l.getD k ([], 0)] := by
  rw [List.take_add_one, T6_ h, T8_, T6_ h]; rfl
 rw [e, m1_, tb_, mb_]; omega
theorem af8_ (l : Wd) (k : Nat) : gw_ (l.take k) ≤ gw_ l := by
 conv => rhs; rw [← List.take_append_drop k l]
 have := qg_ (l.drop k)
 rw [m1_]; omega
theorem ad6_ {l : Wd} {k : Nat} (h : k < l.length) : (ct_ 0 (l.map (·.1))).getD k 0 = gw_ (l.take k) := by
 rw [nz_ _ _ (by simpa using h), gw_, List.map_take]; omega
theorem acc_ (l : Wd) (hl : l.length ≤ 1000000) (hw : gw_ l < 1099511627776) : ACall En 88 [.sl false (wdR l)] [] [.sl false (inR (ct_ 0 (l.map (·.1))))] [] := by
 have hp : ∀ k, b7_ (eu_ (inR (ct_ 0 (l.map (·.1)))) [.i .i64 0] k) = true := fun k => hf_ (ac_ _) rfl
 have hll : (inR (ct_ 0 (l.map (·.1)))).length = l.length := by rw [aj_, a8_, List.length_map]
 have hd1 : ∀ k j, ((eu_ (inR (ct_ 0 (l.map (·.1)))) [.i .i64 0] k).getD j []).drop 1 = [] := w8_ _ _ (fun r hr => z8_ hr) rfl
 refine ak_ (fn := Tryz.f88) [] Tryz.func88 rfl rfl (by simp) fun C => ?_
 rw [aw_]
 simp only [Tryz.ntmps88, T7_, List.length_nil, Nat.reduceAdd, Nat.reduceSub, List.replicate_succ, List.replicate_zero, List.cons_append, List.nil_append, bo_]
 refine .seq (.rgn [] (by simp only [go_sem, seval, ai_, af_, ac_, hp, hd1, au_, hll]; rfl) ?_ ?_)
 ·(first | trivial)
 refine .seq (.rgn [] (by simp only [go_sem, seval, ai_, af_, ac_, hp, hd1, au_, hll]; rfl) ?_ ?_)
 ·simp; omega
 refine .seq (.rgn [] (by simp only [go_sem, seval, ai_, af_, ac_, hp, hd1, au_, hll]; rfl) ?_ ?_)
 ·(first | trivial)
 refine .seq (.seq (.rgn [] (by simp only [go_sem, seval, ai_, af_, ac_, hp, hd1, au_, hll]; rfl) ?_ ?_))
 ·(first | trivial)
 refine .block (.loopK (fun k : Nat => ⟨[.no, .no, .no, .ow 19 1 0 l.length, .i .i64 (gw_ (l.take k)), .no, .no, .no, .no, .no, .sl false (wdR l), .i .i64 l.length, .i .i64 k, .no, .no, .no, .no, .no, .no, .no, .no, .no, .no, .no, .no, .no, .no, .no, .no], be_ [(19, ⟨3, 1, eu_ (inR (ct_ 0 (l.map (·.1)))) [.i .i64 0] k⟩)], us [19]⟩) (fun k : Nat => k ≤ l.length) (fun k : Nat => l.length - k) (0) ?_ ?_ (fun k hI => ?_))
 ·simp
 ·exact Can.weak (Weak.lit (by simp only [go_sem, seval, ai_, af_, ac_, hp, hd1, au_, hll, ar_, leV, ap_, aq_, V.inn, us, T9_, Ta_] <;> (simp [mb_])) (by simp only [go_sem, seval, ai_, af_, ac_, hp, hd1, au_, hll, ar_, leV, ap_, aq_, V.inn, us, T9_, Ta_]) (by simp only [go_sem, seval, ai_, af_, ac_, hp, hd1, au_, hll, ar_, leV, ap_, aq_, V.inn, us, T9_, Ta_] <;> (simp [hh_, hll])))
 refine .seq (.rgn [] (by simp only [go_sem, seval, ai_, af_, ac_, hp, hd1, au_, hll]; rfl) ?_ ?_)
 ·(first | trivial)
 refine .seq (.condB (by simp only [go_sem, seval, ai_, af_, ac_, hp, hd1, au_, hll]; rfl) (by simp only [go_sem, seval, ai_, af_, ac_, hp, hd1, au_, hll]) (fun h13 => ?_) (fun h13 => ?_))
 ·refine .skip (.seq (.block (.seq (.rgn [] (by simp only [go_sem, seval, ai_, af_, ac_, hp, hd1, au_, hll, ia_ (show k < l.length by simpa using h13)]; rfl) ?_ ?_))))
  ·simp only [T3_] at h13; simp; omega
  refine .seq (.rgn [] (by simp only [go_sem, seval, ai_, af_, ac_, hp, hd1, au_, hll]; rfl) ?_ ?_)
  ·simp only [T3_] at h13; simp; omega
  refine .rgn [] (by simp only [go_sem, seval, ai_, af_, ac_, hp, hd1, au_, hll]; rfl) ?_ ?_
  ·(first | trivial)
  refine .rgn [] (by simp only [go_sem, seval, ai_, af_, ac_, hp, hd1, au_, hll]; rfl) ?_ ?_
  ·(first | trivial)
  refine Exists.intro (k + 1) ⟨?_, ?_, ?_⟩
  ·simp at h13; omega
  ·simp at h13; omega
  exact Can.weak (Weak.lit (by simp only [go_sem, seval, ai_, af_, ac_, hp, hd1, au_, hll, ar_, leV, ap_, aq_, V.inn, us, T9_, Ta_] <;> ((have q := ac5_ (show k < l.length by simpa using h13)); (have q2 := af8_ l (k + 1)); (have q3 := qg_ (l.take k)); (refine ⟨?_, ?_⟩; (rw [bd_ (show -9223372036854775808 ≤ (((l.getD k ([], 0)).1.length : Int) + 1) by omega) (by omega), bd_ (by omega) (by omega), q]); (rw [bd_ (by simp at h13; omega) (by simp at h13; omega)]; simp)))) (by simp only [go_sem, seval, ai_, af_, ac_, hp, hd1, au_, hll, ar_, leV, ap_, aq_, V.inn, us, T9_, Ta_]) (by simp only [go_sem, seval, ai_, af_, ac_, hp, hd1, au_, hll, ar_, leV, ap_, aq_, V.inn, us, T9_, Ta_] <;> ((rw [← hx_ (by rw [hll]; simpa using h13), e8_ (by rw [a8_, List.length_map]; simpa using h13), ad6_ (by simpa using h13)]))))
 ·refine .exit (.seq (.rgn [] (by simp only [go_sem, seval, ai_, af_, ac_, hp, hd1, au_, hll]; rfl) ?_ ?_))
  ·(first | trivial)
  refine .frz 19 (by simp only [go_sem, seval, ai_, af_, ac_, hp, hd1, au_, hll]; rfl) (by simp only [go_sem, seval, ai_, af_, ac_, hp, hd1, au_, hll]) (by simp only [go_sem, seval, ai_, af_, ac_, hp, hd1, au_, hll]; rfl) (by simp only [go_sem, seval, ai_, af_, ac_, hp, hd1, au_, hll]; rfl) ?_
  refine .ret ⟨.inr rfl, ?_⟩
  exact Out.plain (by simp only [Tryz.results88]; rfl) (by simp only [ay_, a6_, go_sem, seval, ai_, af_, ac_, hp, hd1, au_, hll] <;> (split <;> rfl)) (by simp only [a5_, go_sem, seval, ai_, af_, ac_, hp, hd1, au_, hll] <;> (simp at h13; rw [it_ (by omega)]; simp [← hll, T1_, peel])) (by simp only [go_sem, seval, ai_, af_, ac_, hp, hd1, au_, hll])
theorem ahm_ {l : Wd} {k : Nat} (h : k < l.length) (n : Int) : shf n (l.take (k + 1)) = shf n (l.take k) ++ [((l.getD k ([], 0)).1, if 0 ≤ (l.getD k ([], 0)).2 then (l.getD k ([], 0)).2 + n else (l.getD k ([], 0)).2)] := by
 have e : l.take (k + 1) = l.take k ++ [l.getD k ([], 0)] := by
  rw [List.take_add_one, T6_ h, T8_, T6_ h]; rfl
 rw [e, ajq_]; congr 1
 simp only [shf, List.map_cons, List.map_nil]
 split <;> rfl
theorem i3_ (l : Wd) (n : Int) (hl : l.length ≤ 1000000) (hb : ∀ p ∈ l, p.2 ≤ 1000000) (h0 : 0 ≤ n) (h1 : n ≤ 1000000) : ACall En 150 [.sl false (wdR l), .i .i64 n] [] [.sl false (wdR (shf n l))] [] := by
 refine ak_ (fn := Tryz.f150) [] Tryz.func150 rfl rfl (by simp) fun C => ?_
 rw [aw_]
 simp only [Tryz.ntmps150, T7_, List.length_nil, Nat.reduceAdd, Nat.reduceSub, List.replicate_succ, List.replicate_zero, List.cons_append, List.nil_append, bo_]
 refine .seq (.rgn [] (by simp only [go_sem, seval, ai_, af_, a1_]; rfl) ?_ ?_)
 ·(first | trivial | (simp; done) | (simp at h12; simp; omega))
 refine .seq (.rgn [] (by simp only [go_sem, seval, ai_, af_, a1_]; rfl) ?_ ?_)
 ·(first | trivial | (simp; done) | (simp at h12; simp; omega))
 refine .seq (.seq (.rgn [] (by simp only [go_sem, seval, ai_, af_, a1_]; rfl) ?_ ?_))
 ·(first | trivial | (simp; done) | (simp at h12; simp; omega))
 refine .block (.loopK (fun k : Nat => ⟨[.sl false (wdR l), .i .i64 n, .no, .no, .no, .ow 60 2 0 k, .i .i64 k, .no, .no, .no, .no, .no, .no, .no, .no, .no, .no, .no, .no, .no, .no, .no, .no, .no, .no, .no, .no, .no, .no, .no, .no, .no], be_ [(60, ⟨135, 2, wdR (shf n (l.take k))⟩)], us [60]⟩) (fun k : Nat => k ≤ l.length) (fun k : Nat => l.length - k) (0) ?_ ?_ (fun k hI => ?_))
 ·simp
 ·refine Can.trans (Can.ownSlot 5 60 135 2 (by simp only [go_sem, seval, ai_, af_, a1_] <;> rfl) (by simp only [go_sem, seval, ai_, af_, a1_]) (by simp only [go_sem, seval, ai_, af_, a1_] <;> rfl)) ?_
  exact Can.weak (Weak.lit (by simp only [go_sem, seval, ai_, af_, a1_, ar_, leV, ap_, aq_, V.inn, us, T9_, Ta_] <;> (simp)) (by simp only [go_sem, seval, ai_, af_, a1_, ar_, leV, ap_, aq_, V.inn, us, T9_, Ta_]) (by simp only [go_sem, seval, ai_, af_, a1_, ar_, leV, ap_, aq_, V.inn, us, T9_, Ta_] <;> (simp [shf, wdR])))
 refine .seq (.seq (.rgn [] (by simp only [go_sem, seval, ai_, af_, a1_]; rfl) ?_ ?_))
 ·(first | trivial | (simp; done) | (simp at h12; simp; omega))
 refine .condB (by simp only [go_sem, seval, ai_, af_, a1_]; rfl) (by simp only [go_sem, seval, ai_, af_, a1_]) (fun h12 => ?_) (fun h12 => ?_)
 ·refine .skip (.seq (.block (.seq (.rgn [] (by simp only [go_sem, seval, ai_, af_, a1_, ia_ (show k < l.length by simpa using h12)]; rfl) ?_ ?_))))
  ·(first | trivial | (simp; done) | (simp at h12; simp; omega))
  refine .seqJ (fun v : Int => ⟨[.sl false (wdR l), .i .i64 n, .no, .no, .no, .ow 60 2 0 k, .i .i64 k, .pt 17 2 0 0, .no, .no, .no, .no, .no, .no, .no, .no, .no, .no, .no, .no, .no, .no, .no, .no, .no, .no, .no, .no, .no, .no, .no, .no], be_ [(60, ⟨135, 2, wdR (shf n (l.take k))⟩), (17, ⟨135, 2, [[.s (l.getD k ([], 0)).1, .i .i64 v]]⟩)], us [17, 60]⟩) (fun v : Int => v = if 0 ≤ (l.getD k ([], 0)).2 then (l.getD k ([], 0)).2 + n else (l.getD k ([], 0)).2) ?_ (fun v hJ => ?_)
  ·refine .seq (.rgn [] (by simp only [go_sem, seval, ai_, af_, a1_]; rfl) ?_ ?_)
   ·(first | trivial | (simp; done) | (simp at h12; simp; omega))
   refine .condB (by simp only [go_sem, seval, ai_, af_, a1_]; rfl) (by simp only [go_sem, seval, ai_, af_, a1_]) (fun h21 => ?_) (fun h21 => ?_)
   ·refine .rgn [] (by simp only [go_sem, seval, ai_, af_, a1_]; rfl) ?_ ?_
    ·(first | trivial | (simp; done) | (simp at h12; simp; omega))
    refine Exists.intro ((l.getD k ([], 0)).2 + n) ⟨?_, ?_⟩
    ·(simp only [T3_, T4_] at h21; first | rw [if_pos (by omega)] | rw [if_neg (by omega)])
    exact Can.weak (Weak.lit (by simp only [go_sem, seval, ai_, af_, a1_, ar_, leV, ap_, aq_, V.inn, us, T9_, Ta_]) (by simp only [go_sem, seval, ai_, af_, a1_, ar_, leV, ap_, aq_, V.inn, us, T9_, Ta_]) (by simp only [go_sem, seval, ai_, af_, a1_, ar_, leV, ap_, aq_, V.inn, us, T9_, Ta_] <;> ((simp only [T3_, T4_] at h21; have := hb _ (bh_ (d := ([], 0)) (show k < l.length by simpa using h12)); first | rfl | (rw [bd_ (by omega) (by omega)]; done) | (simp; done) | trace_state))))
   ·refine .skip ?_
    refine Exists.intro ((l.getD k ([], 0)).2) ⟨?_, ?_⟩
    ·(simp only [T3_, T4_] at h21; first | rw [if_pos (by omega)] | rw [if_neg (by omega)])
    exact Can.weak (Weak.lit (by simp only [go_sem, seval, ai_, af_, a1_, ar_, leV, ap_, aq_, V.inn, us, T9_, Ta_]) (by simp only [go_sem, seval, ai_, af_, a1_, ar_, leV, ap_, aq_, V.inn, us, T9_, Ta_]) (by simp only [go_sem, seval, ai_, af_, a1_, ar_, leV, ap_, aq_, V.inn, us, T9_, Ta_] <;> ((simp only [T3_, T4_] at h21; have := hb _ (bh_ (d := ([], 0)) (show k < l.length by simpa using h12)); first | rfl | (rw [bd_ (by omega) (by omega)]; done) | (simp; done) | trace_state))))
  refine .rgn [] (by simp only [go_sem, seval, ai_, af_, a1_]; rfl) ?_ ?_
  ·simp at h12; simp [bi_, b5_]; omega
  refine .rgn [] (by simp only [go_sem, seval, ai_, af_, a1_]; rfl) ?_ ?_
  ·(first | trivial | (simp; done) | (simp at h12; simp; omega))
  refine Exists.intro (k + 1) ⟨?_, ?_, ?_⟩
  ·simp at h12; omega
  ·simp at h12; omega
  refine Can.trans (Can.swap 40 60 (by decide) (by decide) (by decide) (by decide) (by simp only [go_sem, seval, ai_, af_, a1_, V.cl]) (by simp only [go_sem, seval, ai_, af_, a1_, V.cl]) (by simp only [go_sem, seval, ai_, af_, a1_, bj_, sw, swM, rnB] <;> rfl) (by simp only [go_sem, seval, ai_, af_, a1_, bj_, sw, swM, rnB] <;> rfl) (by simp only [go_sem, seval, ai_, af_, a1_, bj_, sw, swM, rnB] <;> rfl)) ?_
  exact Can.weak (Weak.lit (by simp only [go_sem, seval, ai_, af_, a1_, ar_, leV, ap_, aq_, V.inn, us, T9_, Ta_] <;> (rw [bd_ (by simp at h12; omega) (by simp at h12; omega)]; simp)) (by simp only [go_sem, seval, ai_, af_, a1_, ar_, leV, ap_, aq_, V.inn, us, T9_, Ta_]) (by simp only [go_sem, seval, ai_, af_, a1_, ar_, leV, ap_, aq_, V.inn, us, T9_, Ta_] <;> (rw [ahm_ (by simpa using h12), ms_, ← hJ]; rfl)))
 ·refine .exit (.seq (.rgn [] (by simp only [go_sem, seval, ai_, af_, a1_]; rfl) ?_ ?_))
  ·(first | trivial | (simp; done) | (simp at h12; simp; omega))
  refine .frz 60 (by simp only [go_sem, seval, ai_, af_, a1_]; rfl) (by simp only [go_sem, seval, ai_, af_, a1_]) (by simp only [go_sem, seval, ai_, af_, a1_]; rfl) (by simp only [go_sem, seval, ai_, af_, a1_]; rfl) ?_
  refine .ret ⟨.inr rfl, ?_⟩
  exact Out.plain (by simp only [Tryz.results150]; rfl) (by simp only [ay_, a6_, go_sem, seval, ai_, af_, a1_] <;> (split <;> rfl)) (by simp only [a5_, go_sem, seval, ai_, af_, a1_] <;> (simp at h12; (obtain rfl : k = l.length := (by omega)); rw [T1_ (Nat.le_refl _)]; simp [T1_, a1_, ai_, peel])) (by simp only [go_sem, seval, ai_, af_, a1_])
theorem aec_ (l : List Str) (hl : l.length ≤ 1000000) (hw : wid l < 1099511627776) : ACall En 111 [.sl false (bp_ l)] [] [.sl false (inR (ct_ 0 l))] [] := by
 refine ak_ (fn := Tryz.f111) [] Tryz.func111 rfl rfl (by simp) fun C => ?_
 rw [aw_]
 simp only [Tryz.ntmps111, T7_, List.length_nil, Nat.reduceAdd, Nat.reduceSub, List.replicate_succ, List.replicate_zero, List.cons_append, List.nil_append, bo_]
 refine .seq (.rgn [] (by simp only [go_sem, seval, ab_, aa_, ac_]; rfl) ?_ ?_)
 ·(first | trivial | (simp; done) | (simp at h10; simp; omega))
 refine .seq (.rgn [] (by simp only [go_sem, seval, ab_, aa_, ac_]; rfl) ?_ ?_)
 ·(first | trivial | (simp; done) | (simp at h10; simp; omega))
 refine .seq (.rgn [] (by simp only [go_sem, seval, ab_, aa_, ac_]; rfl) ?_ ?_)
 ·(first | trivial | (simp; done) | (simp at h10; simp; omega))
 refine .seq (.seq (.rgn [] (by simp only [go_sem, seval, ab_, aa_, ac_]; rfl) ?_ ?_))
 ·(first | trivial | (simp; done) | (simp at h10; simp; omega))
 refine .block (.loopK (fun k : Nat => ⟨[.sl false (bp_ l), .no, .no, .ow 60 1 0 k, .i .i64 (wid (l.take k)), .i .i64 k, .no, .no, .no, .no, .no, .no, .no, .no, .no, .no, .no, .no, .no, .no, .no, .no, .no, .no, .no, .no], be_ [(60, ⟨3, 1, inR ((ct_ 0 l).take k)⟩)], us [60]⟩) (fun k : Nat => k ≤ l.length) (fun k : Nat => l.length - k) (0) ?_ ?_ (fun k hI => ?_))
 ·simp
 ·refine Can.trans (Can.ownSlot 3 60 3 1 (by simp only [go_sem, seval, ab_, aa_, ac_] <;> rfl) (by simp only [go_sem, seval, ab_, aa_, ac_]) (by simp only [go_sem, seval, ab_, aa_, ac_] <;> rfl)) ?_
  exact Can.weak (Weak.lit (by simp only [go_sem, seval, ab_, aa_, ac_, ar_, leV, ap_, aq_, V.inn, us, T9_, Ta_] <;> (simp [t4_])) (by simp only [go_sem, seval, ab_, aa_, ac_, ar_, leV, ap_, aq_, V.inn, us, T9_, Ta_]) (by simp only [go_sem, seval, ab_, aa_, ac_, ar_, leV, ap_, aq_, V.inn, us, T9_, Ta_] <;> (simp [inR])))
 refine .seq (.seq (.rgn [] (by simp only [go_sem, seval, ab_, aa_, ac_]; rfl) ?_ ?_))
 ·(first | trivial | (simp; done) | (simp at h10; simp; omega))
 refine .condB (by simp only [go_sem, seval, ab_, aa_, ac_]; rfl) (by simp only [go_sem, seval, ab_, aa_, ac_]) (fun h10 => ?_) (fun h10 => ?_)
 ·refine .skip (.seq (.block (.seq (.rgn [] (by simp only [go_sem, seval, ab_, aa_, ac_]; rfl) ?_ ?_))))
  ·simp at h10; simp [v7_, b5_, aj_, a8_]; omega
  refine .rgn [] (by simp only [go_sem, seval, ab_, aa_, ac_, ca_ (show k < l.length by simpa using h10)]; rfl) ?_ ?_
  ·(first | trivial | (simp; done) | (simp at h10; simp; omega))
  refine .rgn [] (by simp only [go_sem, seval, ab_, aa_, ac_]; rfl) ?_ ?_
  ·(first | trivial | (simp; done) | (simp at h10; simp; omega))
  refine Exists.intro (k + 1) ⟨?_, ?_, ?_⟩
  ·simp at h10; omega
  ·simp at h10; omega
  refine Can.trans (Can.swap 26 60 (by decide) (by decide) (by decide) (by decide) (by simp only [go_sem, seval, ab_, aa_, ac_, V.cl]) (by simp only [go_sem, seval, ab_, aa_, ac_, V.cl]) (by simp only [go_sem, seval, ab_, aa_, ac_, bj_, sw, swM, rnB] <;> rfl) (by simp only [go_sem, seval, ab_, aa_, ac_, bj_, sw, swM, rnB] <;> rfl) (by simp only [go_sem, seval, ab_, aa_, ac_, bj_, sw, swM, rnB] <;> rfl)) ?_
  exact Can.weak (Weak.lit (by simp only [go_sem, seval, ab_, aa_, ac_, ar_, leV, ap_, aq_, V.inn, us, T9_, Ta_] <;> ((have q := ag9_ (show k < l.length by simpa using h10)); (have q2 := aif_ l (k + 1)); (repeat' apply And.intro) <;> first | (simp; done) | (rw [bd_ (by simp at h10; omega) (by simp at h10; omega)]; simp; done) | (rw [bd_ (show -9223372036854775808 ≤ ((wid (l.take k) : Int) + ((l.getD k []).length : Int)) by omega) (by omega), bd_ (by omega) (by omega)]; omega) | trace_state)) (by simp only [go_sem, seval, ab_, aa_, ac_, ar_, leV, ap_, aq_, V.inn, us, T9_, Ta_]) (by simp only [go_sem, seval, ab_, aa_, ac_, ar_, leV, ap_, aq_, V.inn, us, T9_, Ta_] <;> ((rw [List.take_add_one, T6_ (show k < (ct_ 0 l).length by rw [a8_]; simpa using h10), aau_]; (have := nz_ l 0 (show k < l.length by simpa using h10)); rw [T8_, T6_ (show k < (ct_ 0 l).length by rw [a8_]; simpa using h10), Option.getD_some] at this; rw [this]; simp [inR]))))
 ·refine .exit (.seq (.rgn [] (by simp only [go_sem, seval, ab_, aa_, ac_]; rfl) ?_ ?_))
  ·(first | trivial | (simp; done) | (simp at h10; simp; omega))
  refine .frz 60 (by simp only [go_sem, seval, ab_, aa_, ac_]; rfl) (by simp only [go_sem, seval, ab_, aa_, ac_]) (by simp only [go_sem, seval, ab_, aa_, ac_]; rfl) (by simp only [go_sem, seval, ab_, aa_, ac_]; rfl) ?_
  refine .ret ⟨.inr rfl, ?_⟩
  exact Out.plain (by simp only [Tryz.results111]; rfl) (by simp only [ay_, a6_, go_sem, seval, ab_, aa_, ac_] <;> (split <;> rfl)) (by simp only [a5_, go_sem, seval, ab_, aa_, ac_] <;> (simp at h10; (obtain rfl : k = l.length := (by omega)); rw [T1_ (by rw [a8_]; exact Nat.le_refl _)]; simp [T1_, aj_, a8_, peel])) (by simp only [go_sem, seval, ab_, aa_, ac_])
end
section
set_option maxRecDepth 100000
set_option maxHeartbeats 4000000
theorem aix_ (x y : Int) : ACall En 182 [.i .i64 x, .i .i64 y] [] [.i .i64 (max x y)] [] := by
 refine ak_ (fn := Tryz.f182) [] Tryz.func182 rfl rfl (by simp) fun C => ?_
 rw [aw_]
 simp only [Tryz.ntmps182, T7_, List.length_nil, Nat.reduceAdd, Nat.reduceSub, List.replicate_succ, List.replicate_zero, List.cons_append, List.nil_append, bo_]
 refine .seq (.rgn [] (by simp only [go_sem, seval]; rfl) ?_ ?_)
 ·first | trivial | simp
 refine .seq (.seq (.rgn [] (by simp only [go_sem, seval]; rfl) ?_ ?_))
 ·first | trivial | simp
 refine .condB (by simp only [go_sem, seval]; rfl) (by simp only [go_sem, seval]) (fun h7 => ?_) (fun h7 => ?_)
 ·refine .seq (.rgn [] (by simp only [go_sem, seval]; rfl) ?_ ?_)
  ·first | trivial | simp
  refine .ret ⟨.inr rfl, ?_⟩
  exact Out.plain (by simp only [Tryz.results182]; rfl) (by simp only [ay_, a6_, go_sem, seval] <;> (split <;> rfl)) (by simp only [a5_, go_sem, seval] <;> (simp only [T3_] at h7; rw [show max x y = x by omega])) (by simp only [go_sem, seval])
 ·refine .skip (.seq (.rgn [] (by simp only [go_sem, seval]; rfl) ?_ ?_))
  ·first | trivial | simp
  refine .ret ⟨.inr rfl, ?_⟩
  exact Out.plain (by simp only [Tryz.results182]; rfl) (by simp only [ay_, a6_, go_sem, seval] <;> (split <;> rfl)) (by simp only [a5_, go_sem, seval] <;> (simp only [T4_] at h7; rw [show max x y = y by omega])) (by simp only [go_sem, seval])
theorem xc_ (d : Nat) : ∀ (e : E) (t b : Int), form e d = true → sm e = true → many e d ≤ 1000 → t ≤ 4 → b ≤ 4 → -1000 ≤ t → -1000 ≤ b → ACall En 151 [.ag (eC e), .i .i64 t, .i .i64 b] [] [.sl false (wdR (l8 e t b))] [] := by
 induction d with
 | zero => intro e t b h; have := (bk_ h).1; omega
 | succ d ih =>
 intro e t b h hs hm ht hb ht2 hb2
 obtain ⟨a1, a2, a3⟩ := fl_ hs
 have e1 : ((d + 1 : Nat) : Int) - 1 = (d : Int) := by omega
 have hd1 : (1 : Int) ≤ ((d + 1 : Nat) : Int) := by omega
 have g1 : e.kind = 1 → 0 ≤ e.n ∧ e.n ≤ 1000000 := fun hk => by
  rcases (bk_ h).2 with ⟨k1, h1, h2, h3, h4⟩ | ⟨k1, h1, h2, h3⟩ | ⟨k1, _⟩ | ⟨k1, _⟩ <;> omega
 have g3 : e.kind = 3 → e.kids.length = 2 ∧ 1 ≤ bf_ e.s ∧ bf_ e.s ≤ 3 ∧ form (e.kids.getD 0 E0) d = true ∧ form (e.kids.getD 1 E0) d = true ∧ many (e.kids.getD 0 E0) d ≤ 1000 ∧ many (e.kids.getD 1 E0) d ≤ 1000 ∧ lvl e = bf_ e.s := fun hk => by
  rcases (bk_ h).2 with ⟨k1, _⟩ | ⟨k1, _⟩ | ⟨k1, h1, h2, h3, h4, h5⟩ | ⟨k1, _⟩ <;> try omega
  rw [e1] at h4 h5
  have := cm_ h2
  have hm2 := i0_ hd1 h3
  rw [e1] at hm2
  have q1 := dc_ d _ 0 h4
  have q2 := dc_ d _ 0 h5
  exact ⟨h3, this.1, this.2, h4, h5, by omega, by omega, rk_ k1 h2⟩
 have g4 : e.kind = 4 → e.kids.length = 1 ∧ form (e.kids.getD 0 E0) d = true ∧ many (e.kids.getD 0 E0) d ≤ 1000 := fun hk => by
  rcases (bk_ h).2 with ⟨k1, _⟩ | ⟨k1, _⟩ | ⟨k1, _⟩ | ⟨k1, h1, h2, h3, h4⟩ <;> try omega
  rw [e1] at h4
  have hm2 := j4_ hd1 h3
  rw [e1] at hm2
  have q1 := dc_ d _ 0 h4
  exact ⟨h3, h4, by omega⟩
 have g0 : e.kind = 1 ∨ e.kind = 2 ∨ e.kind = 3 ∨ e.kind = 4 := by
  rcases (bk_ h).2 with ⟨k1, _⟩ | ⟨k1, _⟩ | ⟨k1, _⟩ | ⟨k1, _⟩ <;> omega
 have hlv : lvl e = if e.kind = 3 then bf_ e.s else 4 := by
  by_cases hk : e.kind = 3
  ·rw [if_pos hk, (g3 hk).2.2.2.2.2.2.2]
  ·rw [if_neg hk, lvl, if_neg hk]
 have hC : e.kind ≠ 4 → (l8c e).length ≤ 7000 ∧ ∀ p ∈ l8c e, p.2 ≤ 7000 := fun hk => by
  rcases g0 with hk4 | hk4 | hk4 | hk4
  ·simp [l8c, hk4]
  ·simp [l8c, hk4]
  ·have q := g3 hk4
   have q1 := md_ q.2.2.2.1 q.2.2.2.2.2.1 (t := max 2 (bf_ e.s)) (b := max 2 (bf_ e.s)) (by omega) (by omega)
   have q2 := md_ q.2.2.2.2.1 q.2.2.2.2.2.2.1 (t := bf_ e.s + 1) (b := bf_ e.s + 1) (by omega) (by omega)
   have q3 := iq_ d _ q.2.2.2.1 q.2.2.2.2.2.1 (max 2 (bf_ e.s))
   simp only [l8c, hk4, show ¬ (3 : Int) = 1 by omega, show ¬ (3 : Int) = 2 by omega, if_false]
   refine ⟨by simp only [T2_, T7_, a1_]; omega, fun p hp => ?_⟩
   rcases List.mem_append.1 hp with hp | hp
   ·have := q1.2 p hp; omega
   ·rcases List.mem_cons.1 hp with rfl | hp
    ·dsimp only; omega
    ·simp only [shf, List.mem_map] at hp
     obtain ⟨u, hu, rfl⟩ := hp
     have := q2.2 u hu
     split
     ·dsimp only; omega
     ·omega
  ·exact absurd hk4 hk
 have hN : e.kind ≠ 4 → l8c e ≠ [] := fun hk => by
  rcases g0 with k | k | k | k
  ·simp [l8c, k]
  ·simp [l8c, k]
  ·simp [l8c, k]
  ·exact absurd k hk
 have hT : e.kind ≠ 4 → l8 e t b = brk (decide (lvl e < b)) (shf (if lvl e < t then 1 else 0) (l8c e)) := fun hk => by
  rw [aki_ (by rcases g0 with k | k | k | k; exact .inl k; exact .inr (.inl k); exact .inr (.inr ⟨k, (g3 k).1⟩); exact absurd k hk)]
  rw [hlv]
  by_cases k3 : e.kind = 3
  ·simp [k3]
  ·simp [k3, show ¬ (4 : Int) < b by omega, show ¬ (4 : Int) < t by omega]
 refine ak_ (fn := Tryz.f151) [] Tryz.func151 rfl rfl (by simp) fun C => ?_
 rw [aw_]
 simp only [Tryz.ntmps151, T7_, List.length_nil, Nat.reduceAdd, Nat.reduceSub, List.replicate_succ, List.replicate_zero, List.cons_append, List.nil_append, bo_]
 refine .seq (.rgn [] (by simp only [go_sem, seval, ai_, af_, ab_, aa_, T2_, T1_, a1_]; rfl) ?_ ?_)
 ·(first | trivial | (simp; done) | (simp [b5_, bi_]; done))
 refine .seq (.rgn [] (by simp only [go_sem, seval, ai_, af_, ab_, aa_, T2_, T1_, a1_]; rfl) ?_ ?_)
 ·(first | trivial | (simp; done) | (simp [b5_, bi_]; done))
 refine .seq (.rgn [a3_ (nj_ e)] (by simp only [go_sem, seval, ai_, af_, ab_, aa_, T2_, T1_, a1_]; rfl) ?_ ?_)
 ·(first | trivial | (simp; done) | (simp [b5_, bi_]; done))
 refine .seqJ (fun op : Int => ⟨[.no, .i .i64 t, .i .i64 b, .pt 13 4 0 0, .no, .no, .no, .i .i64 op, .i .i64 (lvl e), .no, .no, .no, .no, .no, .no, .no, .no, .no, .no, .no, .no, .no, .no, .no, .no, .no, .no, .no, .no, .no, .no, .no, .no, .no, .no, .no, .no, .no, .no, .no, .no, .no, .no, .no, .no, .no, .no, .no, .no, .no, .no, .no, .no, .no, .no, .no, .no, .no, .no, .no, .no, .no, .no, .no, .no, .no, .no, .no, .no, .no, .no, .no, .no, .no, .no, .no, .no, .no, .no, .no, .no, .no, .no, .no, .no, .no, .no, .no, .no, .no, .no, .no, .no, .no, .no, .no, .no, .no, .no, .no, .no, .no], be_ [(13, ⟨64, 4, [eC e]⟩)], us [13]⟩) (fun op : Int => op = if lvl e < t then 1 else 0) ?_ (fun op hJ => ?_)
 ·refine .seq (.rgn [] (by simp only [go_sem, seval, ai_, af_, ab_, aa_, T2_, T1_, a1_]; rfl) ?_ ?_)
  ·(first | trivial | (simp; done) | (simp [b5_, bi_]; done))
  refine .condB (by simp only [go_sem, seval, ai_, af_, ab_, aa_, T2_, T1_, a1_]; rfl) (by simp only [go_sem, seval, ai_, af_, ab_, aa_, T2_, T1_, a1_]) (fun h18 => ?_) (fun h18 => ?_)
  ·refine .rgn [] (by simp only [go_sem, seval, ai_, af_, ab_, aa_, T2_, T1_, a1_]; rfl) ?_ ?_
   ·(first | trivial | (simp; done) | (simp [b5_, bi_]; done))
   refine Exists.intro (1) ⟨?_, ?_⟩
   ·simp_all
   exact Can.weak (Weak.lit (by simp only [go_sem, seval, ai_, af_, ab_, aa_, T2_, T1_, a1_, ar_, leV, ap_, aq_, V.inn, us, T9_, Ta_]) (by simp only [go_sem, seval, ai_, af_, ab_, aa_, T2_, T1_, a1_, ar_, leV, ap_, aq_, V.inn, us, T9_, Ta_]) (by simp only [go_sem, seval, ai_, af_, ab_, aa_, T2_, T1_, a1_, ar_, leV, ap_, aq_, V.inn, us, T9_, Ta_]))
  ·refine .skip ?_
   refine Exists.intro (0) ⟨?_, ?_⟩
   ·simp_all
   exact Can.weak (Weak.lit (by simp only [go_sem, seval, ai_, af_, ab_, aa_, T2_, T1_, a1_, ar_, leV, ap_, aq_, V.inn, us, T9_, Ta_]) (by simp only [go_sem, seval, ai_, af_, ab_, aa_, T2_, T1_, a1_, ar_, leV, ap_, aq_, V.inn, us, T9_, Ta_]) (by simp only [go_sem, seval, ai_, af_, ab_, aa_, T2_, T1_, a1_, ar_, leV, ap_, aq_, V.inn, us, T9_, Ta_]))
 refine .seq (.rgn [] (by simp only [go_sem, seval, ai_, af_, ab_, aa_, T2_, T1_, a1_]; rfl) ?_ ?_)
 ·(first | trivial | (simp; done) | (simp [b5_, bi_]; done))
 refine .seqJ (fun u : Unit => ⟨[.no, .no, .i .i64 b, .no, .no, .no, .no, .i .i64 op, .i .i64 (lvl e), .sl false (wdR (l8c e)), .no, .no, .no, .no, .no, .no, .no, .no, .no, .no, .no, .no, .no, .no, .no, .no, .no, .no, .no, .no, .no, .no, .no, .no, .no, .no, .no, .no, .no, .no, .no, .no, .no, .no, .no, .no, .no, .no, .no, .no, .no, .no, .no, .no, .no, .no, .no, .no, .no, .no, .no, .no, .no, .no, .no, .no, .no, .no, .no, .no, .no, .no, .no, .no, .no, .no, .no, .no, .no, .no, .no, .no, .no, .no, .no, .no, .no, .no, .no, .no, .no, .no, .no, .no, .no, .no, .no, .no, .no, .no, .no, .no], be_ [], us []⟩) (fun u : Unit => e.kind ≠ 4 ∧ op = if lvl e < t then 1 else 0) ?_ (fun u hJ => ?_)
 ·refine .seq (.rgn [] (by simp only [go_sem, seval, ai_, af_, ab_, aa_, T2_, T1_, a1_]; rfl) ?_ ?_)
  ·(first | trivial | (simp; done) | (simp [b5_, bi_]; done))
  refine .block (.seq (.rgn [] (by simp only [go_sem, seval, ai_, af_, ab_, aa_, T2_, T1_, a1_]; rfl) ?_ ?_))
  ·(first | trivial | (simp; done) | (simp [b5_, bi_]; done))
  refine .condB (by simp only [go_sem, seval, ai_, af_, ab_, aa_, T2_, T1_, a1_]; rfl) (by simp only [go_sem, seval, ai_, af_, ab_, aa_, T2_, T1_, a1_]) (fun h30 => ?_) (fun h30 => ?_)
  ·refine .rgn [a3_ (xg_ e.n (by have := g1 (by simpa using h30); omega) (by have := g1 (by simpa using h30); omega))] (by simp only [go_sem, seval, ai_, af_, ab_, aa_, T2_, T1_, a1_]; rfl) ?_ ?_
   ·(first | trivial | (simp; done) | (simp [b5_, bi_]; done))
   refine Exists.intro (()) ⟨?_, ?_⟩
   ·exact ⟨by simp_all, hJ⟩
   refine Can.trans (Can.frz 48 (by simp only [go_sem, seval, ai_, af_, ab_, aa_, T2_, T1_, a1_] <;> rfl) (by simp only [go_sem, seval, ai_, af_, ab_, aa_, T2_, T1_, a1_]) (by simp only [go_sem, seval, ai_, af_, ab_, aa_, T2_, T1_, a1_] <;> rfl) (by simp only [go_sem, seval, ai_, af_, ab_, aa_, T2_, T1_, a1_] <;> rfl)) ?_
   exact Can.weak (Weak.lit (by simp only [go_sem, seval, ai_, af_, ab_, aa_, T2_, T1_, a1_, ar_, leV, ap_, aq_, V.inn, us, T9_, Ta_] <;> (first | (have k1 : e.kind = 1 := (by simpa using h30); rw [fi_ (g1 k1).1]; simp [l8c, k1, wdR, a9_]; done) | (have k1 : e.kind = 2 := (by simpa using h39); simp [l8c, k1, wdR, a9_]; done) | (have k1 : e.kind = 3 := (by simpa using h47); have q := (g3 k1).2.2.2.2.2.2.2; rw [q, show max (bf_ e.s) 2 = max 2 (bf_ e.s) by omega]; simp [l8c, k1, wdR, a9_]; done) | trace_state)) (by simp only [go_sem, seval, ai_, af_, ab_, aa_, T2_, T1_, a1_, ar_, leV, ap_, aq_, V.inn, us, T9_, Ta_]) (by simp only [go_sem, seval, ai_, af_, ab_, aa_, T2_, T1_, a1_, ar_, leV, ap_, aq_, V.inn, us, T9_, Ta_]))
  ·refine .seq (.rgn [] (by simp only [go_sem, seval, ai_, af_, ab_, aa_, T2_, T1_, a1_]; rfl) ?_ ?_)
   ·(first | trivial | (simp; done) | (simp [b5_, bi_]; done))
   refine .condB (by simp only [go_sem, seval, ai_, af_, ab_, aa_, T2_, T1_, a1_]; rfl) (by simp only [go_sem, seval, ai_, af_, ab_, aa_, T2_, T1_, a1_]) (fun h39 => ?_) (fun h39 => ?_)
   ·refine .rgn [] (by simp only [go_sem, seval, ai_, af_, ab_, aa_, T2_, T1_, a1_]; rfl) ?_ ?_
    ·(first | trivial | (simp; done) | (simp [b5_, bi_]; done))
    refine Exists.intro (()) ⟨?_, ?_⟩
    ·exact ⟨by simp_all, hJ⟩
    refine Can.trans (Can.frz 56 (by simp only [go_sem, seval, ai_, af_, ab_, aa_, T2_, T1_, a1_] <;> rfl) (by simp only [go_sem, seval, ai_, af_, ab_, aa_, T2_, T1_, a1_]) (by simp only [go_sem, seval, ai_, af_, ab_, aa_, T2_, T1_, a1_] <;> rfl) (by simp only [go_sem, seval, ai_, af_, ab_, aa_, T2_, T1_, a1_] <;> rfl)) ?_
    exact Can.weak (Weak.lit (by simp only [go_sem, seval, ai_, af_, ab_, aa_, T2_, T1_, a1_, ar_, leV, ap_, aq_, V.inn, us, T9_, Ta_] <;> (first | (have k1 : e.kind = 1 := (by simpa using h30); rw [fi_ (g1 k1).1]; simp [l8c, k1, wdR, a9_]; done) | (have k1 : e.kind = 2 := (by simpa using h39); simp [l8c, k1, wdR, a9_]; done) | (have k1 : e.kind = 3 := (by simpa using h47); have q := (g3 k1).2.2.2.2.2.2.2; rw [q, show max (bf_ e.s) 2 = max 2 (bf_ e.s) by omega]; simp [l8c, k1, wdR, a9_]; done) | trace_state)) (by simp only [go_sem, seval, ai_, af_, ab_, aa_, T2_, T1_, a1_, ar_, leV, ap_, aq_, V.inn, us, T9_, Ta_]) (by simp only [go_sem, seval, ai_, af_, ab_, aa_, T2_, T1_, a1_, ar_, leV, ap_, aq_, V.inn, us, T9_, Ta_]))
   ·refine .seq (.rgn [] (by simp only [go_sem, seval, ai_, af_, ab_, aa_, T2_, T1_, a1_]; rfl) ?_ ?_)
    ·(first | trivial | (simp; done) | (simp [b5_, bi_]; done))
    refine .condB (by simp only [go_sem, seval, ai_, af_, ab_, aa_, T2_, T1_, a1_]; rfl) (by simp only [go_sem, seval, ai_, af_, ab_, aa_, T2_, T1_, a1_]) (fun h47 => ?_) (fun h47 => ?_)
    ·refine .seq (.rgn [a3_ (aix_ (lvl e) 2)] (by simp only [go_sem, seval, ai_, af_, ab_, aa_, T2_, T1_, a1_]; rfl) ?_ ?_)
     ·(first | trivial | (simp; done) | (simp [b5_, bi_]; done))
     refine .seq (.rgn [a3_ (ih (e.kids.getD 0 E0) (max (lvl e) 2) (max (lvl e) 2) (g3 (by simpa using h47)).2.2.2.1 (c9_ a3 _ (bh_ (by have := g3 (by simpa using h47); omega))) (g3 (by simpa using h47)).2.2.2.2.2.1 (by have := g3 (by simpa using h47); omega) (by have := g3 (by simpa using h47); omega) (by omega) (by omega))] (by simp only [go_sem, seval, ai_, af_, ab_, aa_, T2_, T1_, a1_, ee_ (show 0 < e.kids.length by have := g3 (by simpa using h47); omega)]; rfl) ?_ ?_)
     ·have q := g3 (by simpa using h47); simp; omega
     refine .seq (.rgn [a3_ (i2_ d (e.kids.getD 0 E0) (max (lvl e) 2) (g3 (by simpa using h47)).2.2.2.1 (c9_ a3 _ (bh_ (by have := g3 (by simpa using h47); omega))) (g3 (by simpa using h47)).2.2.2.2.2.1 (by have := g3 (by simpa using h47); omega) (by omega))] (by simp only [go_sem, seval, ai_, af_, ab_, aa_, T2_, T1_, a1_, ee_ (show 0 < e.kids.length by have := g3 (by simpa using h47); omega)]; rfl) ?_ ?_)
     ·have q := g3 (by simpa using h47); simp; omega
     refine .seq (.rgn [a3_ (ih (e.kids.getD 1 E0) (lvl e + 1) (lvl e + 1) (g3 (by simpa using h47)).2.2.2.2.1 (c9_ a3 _ (bh_ (by have := g3 (by simpa using h47); omega))) (g3 (by simpa using h47)).2.2.2.2.2.2.1 (by have := g3 (by simpa using h47); omega) (by have := g3 (by simpa using h47); omega) (by have := g3 (by simpa using h47); omega) (by have := g3 (by simpa using h47); omega))] (by simp only [go_sem, seval, ai_, af_, ab_, aa_, T2_, T1_, a1_, ee_ (show 1 < e.kids.length by have := g3 (by simpa using h47); omega), bd_ (show -9223372036854775808 ≤ lvl e + 1 by have := g3 (by simpa using h47); omega) (by have := g3 (by simpa using h47); omega)]; rfl) ?_ ?_)
     ·have q := g3 (by simpa using h47); simp; omega
     refine .rgnD [a3_ (i3_ (l8 (e.kids.getD 1 E0) (lvl e + 1) (lvl e + 1)) ((wds (e.kids.getD 0 E0) (max (lvl e) 2)).length + 1) (by have q := g3 (by simpa using h47); have := (md_ q.2.2.2.2.1 q.2.2.2.2.2.2.1 (t := lvl e + 1) (b := lvl e + 1) (by omega) (by omega)).1; omega) (fun p hp => by have q := g3 (by simpa using h47); have := (md_ q.2.2.2.2.1 q.2.2.2.2.2.2.1 (t := lvl e + 1) (b := lvl e + 1) (by omega) (by omega)).2 p hp; omega) (by omega) (by have q := g3 (by simpa using h47); have := iq_ d _ q.2.2.2.1 q.2.2.2.2.2.1 (max (lvl e) 2); omega))] enM (by simp only [go_sem, seval, ai_, af_, ab_, aa_, T2_, T1_, a1_, bd_ (show -9223372036854775808 ≤ ((wds (e.kids.getD 0 E0) (max (lvl e) 2)).length : Int) + 1 by omega) (by have q := g3 (by simpa using h47); have := iq_ d _ q.2.2.2.1 q.2.2.2.2.2.1 (max (lvl e) 2); omega)]; rfl) (by rfl) ?_ ?_
     ·have q := g3 (by simpa using h47); have q1 := (md_ q.2.2.2.1 q.2.2.2.2.2.1 (t := max (lvl e) 2) (b := max (lvl e) 2) (by omega) (by omega)).1; have q2 := (md_ q.2.2.2.2.1 q.2.2.2.2.2.2.1 (t := lvl e + 1) (b := lvl e + 1) (by omega) (by omega)).1; simp [-List.getD_eq_getElem?_getD, b5_, bi_]; omega
     refine Exists.intro (()) ⟨?_, ?_⟩
     ·exact ⟨by simp_all, hJ⟩
     refine Can.trans (Can.frz 97 (by simp only [go_sem, seval, ai_, af_, ab_, aa_, T2_, T1_, a1_] <;> rfl) (by simp only [go_sem, seval, ai_, af_, ab_, aa_, T2_, T1_, a1_]) (by simp only [go_sem, seval, ai_, af_, ab_, aa_, T2_, T1_, a1_] <;> rfl) (by simp only [go_sem, seval, ai_, af_, ab_, aa_, T2_, T1_, a1_] <;> rfl)) ?_
     exact Can.weak (Weak.lit (by simp only [go_sem, seval, ai_, af_, ab_, aa_, T2_, T1_, a1_, ar_, leV, ap_, aq_, V.inn, us, T9_, Ta_] <;> (first | (have k1 : e.kind = 1 := (by simpa using h30); rw [fi_ (g1 k1).1]; simp [l8c, k1, wdR, a9_]; done) | (have k1 : e.kind = 2 := (by simpa using h39); simp [l8c, k1, wdR, a9_]; done) | (have k1 : e.kind = 3 := (by simpa using h47); have q := (g3 k1).2.2.2.2.2.2.2; rw [q, show max (bf_ e.s) 2 = max 2 (bf_ e.s) by omega]; simp [l8c, k1, wdR, a9_]; done) | trace_state)) (by simp only [go_sem, seval, ai_, af_, ab_, aa_, T2_, T1_, a1_, ar_, leV, ap_, aq_, V.inn, us, T9_, Ta_]) (by simp only [go_sem, seval, ai_, af_, ab_, aa_, T2_, T1_, a1_, ar_, leV, ap_, aq_, V.inn, us, T9_, Ta_]))
    ·refine .seq (.rgn [a3_ (ih (e.kids.getD 0 E0) 4 b (g4 (by simp_all)).2.1 (c9_ a3 _ (bh_ (by have := g4 (by simp_all); omega))) (g4 (by simp_all)).2.2 (by decide) hb (by decide) hb2), a3_ (i3_ (l8 (e.kids.getD 0 E0) 4 b) op (by have q := g4 (by simp_all); have := (md_ q.2.1 q.2.2 (t := 4) (b := b) (by omega) hb).1; omega) (fun p hp => by have q := g4 (by simp_all); have := (md_ q.2.1 q.2.2 (t := 4) (b := b) (by omega) hb).2 p hp; omega) (by rw [hJ]; split <;> decide) (by rw [hJ]; split <;> decide))] (by simp only [go_sem, seval, ai_, af_, ab_, aa_, T2_, T1_, a1_, ee_ (show 0 < e.kids.length by have := g4 (by simp_all); omega)]; rfl) ?_ ?_)
     ·have q := g4 (by simp_all); simp; omega
     refine .ret ⟨.inr rfl, ?_⟩
     exact Out.plain (by simp only [Tryz.results151]; rfl) (by simp only [ay_, a6_, go_sem, seval, ai_, af_, ab_, aa_, T2_, T1_, a1_] <;> (split <;> rfl)) (by simp only [a5_, go_sem, seval, ai_, af_, ab_, aa_, T2_, T1_, a1_] <;> (have k4 : e.kind = 4 := (by simp_all); rw [ak6_ k4 (g4 k4).1, show op = 0 by rw [hJ, if_neg (by rw [hlv, if_neg (by omega)]; omega)], ma_])) (by simp only [go_sem, seval, ai_, af_, ab_, aa_, T2_, T1_, a1_])
 refine .seq (.rgn [a3_ (i3_ (l8c e) op (by have := hC hJ.1; omega) (fun p hp => by have := (hC hJ.1).2 p hp; omega) (by rw [hJ.2]; split <;> decide) (by rw [hJ.2]; split <;> decide))] (by simp only [go_sem, seval, ai_, af_, ab_, aa_, T2_, T1_, a1_]; rfl) ?_ ?_)
 ·(first | trivial | (simp; done) | (simp [b5_, bi_]; done))
 refine .seq (.seq (.rgn [] (by simp only [go_sem, seval, ai_, af_, ab_, aa_, T2_, T1_, a1_]; rfl) ?_ ?_))
 ·(first | trivial | (simp; done) | (simp [b5_, bi_]; done))
 refine .condB (by simp only [go_sem, seval, ai_, af_, ab_, aa_, T2_, T1_, a1_]; rfl) (by simp only [go_sem, seval, ai_, af_, ab_, aa_, T2_, T1_, a1_]) (fun h93 => ?_) (fun h93 => ?_)
 ·refine .seq (.rgn [] (by simp only [go_sem, seval, ai_, af_, ab_, aa_, T2_, T1_, a1_]; rfl) ?_ ?_)
  ·have q := hC hJ.1; have q2 := hN hJ.1; simp [b5_, bi_, fk_, shf, q2]; omega
  refine .frz 110 (by simp only [go_sem, seval, ai_, af_, ab_, aa_, T2_, T1_, a1_]; rfl) (by simp only [go_sem, seval, ai_, af_, ab_, aa_, T2_, T1_, a1_]) (by simp only [go_sem, seval, ai_, af_, ab_, aa_, T2_, T1_, a1_]; rfl) (by simp only [go_sem, seval, ai_, af_, ab_, aa_, T2_, T1_, a1_]; rfl) ?_
  refine .ret ⟨.inr rfl, ?_⟩
  exact Out.plain (by simp only [Tryz.results151]; rfl) (by simp only [ay_, a6_, go_sem, seval, ai_, af_, ab_, aa_, T2_, T1_, a1_] <;> (split <;> rfl)) (by simp only [a5_, go_sem, seval, ai_, af_, ab_, aa_, T2_, T1_, a1_] <;> (rw [hT hJ.1, h93, hJ.2, if_pos (by omega), T1_ (by simp [ai_, a1_]; omega)]; simp [brk, wdR, peel])) (by simp only [go_sem, seval, ai_, af_, ab_, aa_, T2_, T1_, a1_])
 ·refine .skip (.seq (.rgn [] (by simp only [go_sem, seval, ai_, af_, ab_, aa_, T2_, T1_, a1_]; rfl) ?_ ?_))
  ·(first | trivial | (simp; done) | (simp [b5_, bi_]; done))
  refine .ret ⟨.inr rfl, ?_⟩
  exact Out.plain (by simp only [Tryz.results151]; rfl) (by simp only [ay_, a6_, go_sem, seval, ai_, af_, ab_, aa_, T2_, T1_, a1_] <;> (split <;> rfl)) (by simp only [a5_, go_sem, seval, ai_, af_, ab_, aa_, T2_, T1_, a1_] <;> (rw [hT hJ.1, h93, hJ.2]; rfl)) (by simp only [go_sem, seval, ai_, af_, ab_, aa_, T2_, T1_, a1_])
theorem ry_ {e : E} (h : eok e = true) : (l8 e 1 1).length ≤ 3000 ∧ ∀ p ∈ l8 e 1 1, -1 ≤ p.2 ∧ p.2 ≤ 3000 := md_ (d := 5) (bt_ h) (ie_ h) (by decide) (by decide)
theorem aib_ {e : E} (h : eok e = true) : l8 e 1 1 ≠ [] := fun e0 => by
 have T := ji_ 5 e 1 1 0 (bt_ h) (by decide) (by decide) (by decide)
 have h1 := fy_ 5 e (bt_ h)
 have h2 := (dc_ 5 (bare e) 1 h1.1).1
 have h3 := T.len
 rw [e0, nq_] at h3
 simp only [List.length_nil] at h3; omega
theorem ahx_ (s : Sl) (h : c1_ s = true) (hs : e4_ s = true) : ACall En 110 [.ag (sC s)] [] [.sl false (wdR (l8L s))] [] := by
 obtain ⟨h0, h1, h2⟩ := gg_ h
 obtain ⟨s1, s1', s2, s3⟩ := gu_ hs
 have X : s.kind = 1 ∨ s.kind = 2 ∨ s.kind = 3 → _ := fun hk => xc_ 5 s.expr 1 1 (bt_ (h1 hk)) s2 (ie_ (h1 hk)) (by decide) (by decide) (by decide) (by decide)
 have X3 : s.kind = 3 → _ := fun hk => xc_ 5 s.thn 1 1 (bt_ (h2 hk)) s3 (ie_ (h2 hk)) (by decide) (by decide) (by decide) (by decide)
 have W : s.kind = 3 → _ := fun hk => i2_ 5 s.expr 1 (bt_ (h1 (.inr (.inr hk)))) s2 (ie_ (h1 (.inr (.inr hk)))) (by decide) (by decide)
 have Sh : s.kind = 1 ∨ s.kind = 2 ∨ s.kind = 3 → ∀ n : Int, 0 ≤ n → n ≤ 1000000 → _ := fun hk n hn hn2 => i3_ (l8 s.expr 1 1) n (by have := (ry_ (h1 hk)).1; omega) (fun p hp => by have := (ry_ (h1 hk)).2 p hp; omega) hn hn2
 have Sh3 : s.kind = 3 → ∀ n : Int, 0 ≤ n → n ≤ 1000000 → _ := fun hk n hn hn2 => i3_ (l8 s.thn 1 1) n (by have := (ry_ (h2 hk)).1; omega) (fun p hp => by have := (ry_ (h2 hk)).2 p hp; omega) hn hn2
 have hW : s.kind = 3 → (wds s.expr 1).length ≤ 36 := fun hk => (cl_ (h1 (.inr (.inr hk))) 1).2.1
 refine ak_ (fn := Tryz.f110) [] Tryz.func110 rfl rfl (by simp) fun C => ?_
 rw [aw_]
 simp only [Tryz.ntmps110, T7_, List.length_nil, Nat.reduceAdd, Nat.reduceSub, List.replicate_succ, List.replicate_zero, List.cons_append, List.nil_append, bo_]
 refine .seq (.rgn [] (by simp only [go_sem, seval, ai_, af_, ab_, aa_, T2_, T1_, a1_, al_]; rfl) ?_ ?_)
 ·(first | trivial | (simp; done) | (simp [b5_, bi_]; done))
 refine .seq (.seq (.rgn [] (by simp only [go_sem, seval, ai_, af_, ab_, aa_, T2_, T1_, a1_, al_]; rfl) ?_ ?_))
 ·(first | trivial | (simp; done) | (simp [b5_, bi_]; done))
 refine .block (.seq (.rgn [] (by simp only [go_sem, seval, ai_, af_, ab_, aa_, T2_, T1_, a1_, al_]; rfl) ?_ ?_))
 ·(first | trivial | (simp; done) | (simp [b5_, bi_]; done))
 refine .condB (by simp only [go_sem, seval, ai_, af_, ab_, aa_, T2_, T1_, a1_, al_]; rfl) (by simp only [go_sem, seval, ai_, af_, ab_, aa_, T2_, T1_, a1_, al_]) (fun h7 => ?_) (fun h7 => ?_)
 ·refine .seq (.rgnD [a3_ (X (.inl (by simpa using h7))), a3_ (Sh (.inl (by simpa using h7)) 5 (by decide) (by decide))] enM (by simp only [go_sem, seval, ai_, af_, ab_, aa_, T2_, T1_, a1_, al_]; rfl) (by rfl) ?_ ?_)
  ·have k := h1 (.inl (by simpa using h7)); have q := (ry_ k).1; have q2 := aib_ k; simp [b5_, bi_, fk_, shf, q2]; omega
  refine .frz 28 (by simp only [go_sem, seval, ai_, af_, ab_, aa_, T2_, T1_, a1_, al_]; rfl) (by simp only [go_sem, seval, ai_, af_, ab_, aa_, T2_, T1_, a1_, al_]) (by simp only [go_sem, seval, ai_, af_, ab_, aa_, T2_, T1_, a1_, al_]; rfl) (by simp only [go_sem, seval, ai_, af_, ab_, aa_, T2_, T1_, a1_, al_]; rfl) ?_
  refine .ret ⟨.inr rfl, ?_⟩
  exact Out.plain (by simp only [Tryz.results110]; rfl) (by simp only [ay_, a6_, go_sem, seval, ai_, af_, ab_, aa_, T2_, T1_, a1_, al_] <;> (split <;> rfl)) (by simp only [a5_, go_sem, seval, ai_, af_, ab_, aa_, T2_, T1_, a1_, al_] <;> (have k : s.kind = 1 := (by simpa using h7); rw [if_pos (by omega), T1_ (by simp [ai_, a1_]; omega)]; simp [l8L, k, wdR, peel, wEq])) (by simp only [go_sem, seval, ai_, af_, ab_, aa_, T2_, T1_, a1_, al_])
 ·refine .seq (.rgn [] (by simp only [go_sem, seval, ai_, af_, ab_, aa_, T2_, T1_, a1_, al_]; rfl) ?_ ?_)
  ·(first | trivial | (simp; done) | (simp [b5_, bi_]; done))
  refine .condB (by simp only [go_sem, seval, ai_, af_, ab_, aa_, T2_, T1_, a1_, al_]; rfl) (by simp only [go_sem, seval, ai_, af_, ab_, aa_, T2_, T1_, a1_, al_]) (fun h19 => ?_) (fun h19 => ?_)
  ·refine .seq (.rgn [a3_ (X (.inr (.inl (by simpa using h19)))), a3_ (Sh (.inr (.inl (by simpa using h19))) 1 (by decide) (by decide))] (by simp only [go_sem, seval, ai_, af_, ab_, aa_, T2_, T1_, a1_, al_]; rfl) ?_ ?_)
   ·have k := h1 (.inr (.inl (by simpa using h19))); have q := (ry_ k).1; have q2 := aib_ k; simp [b5_, bi_, fk_, shf, q2]; omega
   refine .frz 37 (by simp only [go_sem, seval, ai_, af_, ab_, aa_, T2_, T1_, a1_, al_]; rfl) (by simp only [go_sem, seval, ai_, af_, ab_, aa_, T2_, T1_, a1_, al_]) (by simp only [go_sem, seval, ai_, af_, ab_, aa_, T2_, T1_, a1_, al_]; rfl) (by simp only [go_sem, seval, ai_, af_, ab_, aa_, T2_, T1_, a1_, al_]; rfl) ?_
   refine .ret ⟨.inr rfl, ?_⟩
   exact Out.plain (by simp only [Tryz.results110]; rfl) (by simp only [ay_, a6_, go_sem, seval, ai_, af_, ab_, aa_, T2_, T1_, a1_, al_] <;> (split <;> rfl)) (by simp only [a5_, go_sem, seval, ai_, af_, ab_, aa_, T2_, T1_, a1_, al_] <;> (have k : s.kind = 2 := (by simpa using h19); rw [if_pos (by omega), T1_ (by simp [ai_, a1_]; omega)]; simp [l8L, k, wdR, peel, fe_])) (by simp only [go_sem, seval, ai_, af_, ab_, aa_, T2_, T1_, a1_, al_])
  ·refine .seq (.rgn [] (by simp only [go_sem, seval, ai_, af_, ab_, aa_, T2_, T1_, a1_, al_]; rfl) ?_ ?_)
   ·(first | trivial | (simp; done) | (simp [b5_, bi_]; done))
   refine .condB (by simp only [go_sem, seval, ai_, af_, ab_, aa_, T2_, T1_, a1_, al_]; rfl) (by simp only [go_sem, seval, ai_, af_, ab_, aa_, T2_, T1_, a1_, al_]) (fun h28 => ?_) (fun h28 => ?_)
   ·refine .seq (.rgn [a3_ (W (by simpa using h28))] (by simp only [go_sem, seval, ai_, af_, ab_, aa_, T2_, T1_, a1_, al_]; rfl) ?_ ?_)
    ·(first | trivial | (simp; done) | (simp [b5_, bi_]; done))
    refine .seq (.rgn [a3_ (X (.inr (.inr (by simpa using h28)))), a3_ (Sh (.inr (.inr (by simpa using h28))) 1 (by decide) (by decide))] (by simp only [go_sem, seval, ai_, af_, ab_, aa_, T2_, T1_, a1_, al_]; rfl) ?_ ?_)
    ·have k := h1 (.inr (.inr (by simpa using h28))); have q := (ry_ k).1; have q2 := aib_ k; simp [b5_, bi_, fk_, shf, q2]; omega
    refine .seq (.rgn [] (by simp only [go_sem, seval, ai_, af_, ab_, aa_, T2_, T1_, a1_, al_, bd_ (show -9223372036854775808 ≤ ((wds s.expr 1).length : Int) + 1 by omega) (by have := hW (by simpa using h28); omega)]; rfl) ?_ ?_)
    ·have k := h1 (.inr (.inr (by simpa using h28))); have q := (ry_ k).1; simp [b5_, bi_]; omega
    refine .seq (.rgn [a3_ (X3 (by simpa using h28)), a3_ (Sh3 (by simpa using h28) ((wds s.expr 1).length + 2) (by omega) (by have := hW (by simpa using h28); omega))] (by simp only [go_sem, seval, ai_, af_, ab_, aa_, T2_, T1_, a1_, al_, bd_ (show -9223372036854775808 ≤ ((wds s.expr 1).length : Int) + 2 by omega) (by have := hW (by simpa using h28); omega)]; rfl) ?_ ?_)
    ·have k := h1 (.inr (.inr (by simpa using h28))); have q := (ry_ k).1; have k2 := h2 (by simpa using h28); have q2 := (ry_ k2).1; simp [b5_, bi_]; omega
    refine .frz 65 (by simp only [go_sem, seval, ai_, af_, ab_, aa_, T2_, T1_, a1_, al_]; rfl) (by simp only [go_sem, seval, ai_, af_, ab_, aa_, T2_, T1_, a1_, al_]) (by simp only [go_sem, seval, ai_, af_, ab_, aa_, T2_, T1_, a1_, al_]; rfl) (by simp only [go_sem, seval, ai_, af_, ab_, aa_, T2_, T1_, a1_, al_]; rfl) ?_
    refine .ret ⟨.inr rfl, ?_⟩
    exact Out.plain (by simp only [Tryz.results110]; rfl) (by simp only [ay_, a6_, go_sem, seval, ai_, af_, ab_, aa_, T2_, T1_, a1_, al_] <;> (split <;> rfl)) (by simp only [a5_, go_sem, seval, ai_, af_, ab_, aa_, T2_, T1_, a1_, al_] <;> (have k : s.kind = 3 := (by simpa using h28); rw [if_pos (by omega), T1_ (by simp [ai_, a1_]; omega)]; simp [l8L, k, wdR, peel, fe_, wIf, h2_])) (by simp only [go_sem, seval, ai_, af_, ab_, aa_, T2_, T1_, a1_, al_])
   ·refine .skip (.seq (.rgn [] (by simp only [go_sem, seval, ai_, af_, ab_, aa_, T2_, T1_, a1_, al_]; rfl) ?_ ?_))
    ·(first | trivial | (simp; done) | (simp [b5_, bi_]; done))
    refine .can (Can.slotLe 2 (.sl false []) (by simp only [go_sem, seval, ai_, af_, ab_, aa_, T2_, T1_, a1_, al_] <;> trivial) (by simp only [go_sem, seval, ai_, af_, ab_, aa_, T2_, T1_, a1_, al_] <;> rfl)) ?_
    refine .ret ⟨.inr rfl, ?_⟩
    exact Out.plain (by simp only [Tryz.results110]; rfl) (by simp only [ay_, a6_, go_sem, seval, ai_, af_, ab_, aa_, T2_, T1_, a1_, al_] <;> (split <;> rfl)) (by simp only [a5_, go_sem, seval, ai_, af_, ab_, aa_, T2_, T1_, a1_, al_] <;> (have k : s.kind = 0 := (by simp_all); simp [l8L, k, wdR])) (by simp only [go_sem, seval, ai_, af_, ab_, aa_, T2_, T1_, a1_, al_])
theorem hd_ {s : Sl} (h : c1_ s = true) : (l8L s).length = (bw (bof s)).length ∧ (l8L s).map (·.1) = bw (bof s) := by
 obtain ⟨h0, h1, h2⟩ := gg_ h
 have T : ∀ e : E, eok e = true → (l8 e 1 1).map (·.1) = wds (bare e) 1 := fun e he => by
  rw [(ji_ 5 e 1 1 0 (bt_ he) (by decide) (by decide) (by decide)).fst, es_]
 have hm : (l8L s).map (·.1) = bw (bof s) := by
  unfold l8L bw bof
  rcases h0 with k | k | k | k
  ·simp [k]
  ·simp [k, ub_, T _ (h1 (.inl k))]
  ·simp [k, ub_, T _ (h1 (.inr (.inl k)))]
  ·simp [k, ub_, T _ (h1 (.inr (.inr k))), T _ (h2 k)]
 exact ⟨by rw [← hm, List.length_map], hm⟩
end
section
set_option maxRecDepth 100000
set_option maxHeartbeats 4000000
theorem aht_ {e : E} {d : Int} (h : form e d = true) (nx : Int) : src e 1 nx = src e 0 nx := by
 rw [abe_ h 1 nx]
 obtain ⟨_, h1 | h1 | h1 | h1⟩ := bk_ h
 ·simp [h1.1, brk]
 ·simp [h1.1, brk]
 ·have := cm_ h1.2.2.1
  rw [decide_eq_false (show ¬ bf_ e.s < 1 by omega), Bool.and_false]; rfl
 ·simp [h1.1, brk]
def Ltr (L : Wd) : Wd → Wd → Prop
 | [], [] => True
 | w :: B, c :: C => c.1 = w.1 ∧ ((w.2 = -1 ∧ c.2 = -1 ∧ (w.1 = [40] ∨ w.1 = [41] ∨ w.1 = h2_)) ∨ (0 ≤ w.2 ∧ 0 ≤ c.2 ∧ ∃ u, L[c.2.toNat]? = some u ∧ u.2 = w.2 ∧ (u.1 = w.1 ∨ (u.1 = br_ ∧ w.1 = fe_) ∨ (u.1 = dw_ ∧ w.1 = wIf)))) ∧ Ltr L B C
 | _, _ => False
theorem Ltr.app {L : Wd} : ∀ {B C B' C' : Wd}, Ltr L B C → Ltr L B' C' → Ltr L (B ++ B') (C ++ C')
 | [], [], _, _, _, h => h
 | [], _ :: _, _, _, h, _ => by simp [Ltr] at h
 | _ :: _, [], _, _, h, _ => by simp [Ltr] at h
 | w :: B, c :: C, B', C', h, k => by
  simp only [Ltr] at h
  simp only [List.cons_append, Ltr]
  exact ⟨h.1, h.2.1, h.2.2.app k⟩
theorem Ltr.right {L Q : Wd} : ∀ {B C : Wd}, Ltr L B C → Ltr (L ++ Q) B C
 | [], [], _ => by simp [Ltr]
 | [], _ :: _, h => by simp [Ltr] at h
 | _ :: _, [], h => by simp [Ltr] at h
 | w :: B, c :: C, h => by
  simp only [Ltr] at h ⊢
  refine ⟨h.1, ?_, h.2.2.right⟩
  rcases h.2.1 with h1 | ⟨h1, h2, u, h3, h4⟩
  ·exact .inl h1
  ·exact .inr ⟨h1, h2, u, by rw [List.getElem?_append_left (List.getElem?_eq_some_iff.1 h3).1]; exact h3, h4⟩
def ut_ (l : Wd) : Prop := ∀ p ∈ l, p.2 = -1 → p.1 = [40] ∨ p.1 = [41]
theorem ts_ : ∀ (d : Nat) (e : E) (must nx : Int), form e d = true → pla e = true → 0 ≤ nx → ut_ (src e must nx)
 | 0, e, must, nx, h, _, _ => by have := (bk_ h).1; omega
 | d + 1, e, must, nx, h, hp, hn0 => by
  have e1 : ((d + 1 : Nat) : Int) - 1 = (d : Int) := by omega
  obtain ⟨h0, h1 | h1 | h1 | h1⟩ := bk_ h
  ·rw [pf_ h1.1]; intro p hp h; simp at hp; subst hp; dsimp only at h; omega
  ·rw [m4_ h1.1]; intro p hp h; simp at hp; subst hp; dsimp only at h; omega
  ·obtain ⟨k, hn, ho, hl, ha, hb⟩ := h1
   rw [e1] at ha hb
   have hpk : v1_ e.kids = true := by rw [agy_] at hp; simp only [T5_] at hp; exact hp.2
   rw [iv_ hl] at hpk
   simp only [v1_, Bool.and_true, T5_] at hpk
   have hc := dc_ d _ 0 ha
   have A := ts_ d _ (max 2 (bf_ e.s)) (nx + 1) ha hpk.1 (by omega)
   have B := ts_ d _ (bf_ e.s + 1) (nx + 1 + cnt (e.kids.getD 0 E0)) hb hpk.2 (by omega)
   rw [h6_ k hl]
   have core : ut_ (src (e.kids.getD 0 E0) (max 2 (bf_ e.s)) (nx + 1) ++ (e.s, nx) :: src (e.kids.getD 1 E0) (bf_ e.s + 1) (nx + 1 + cnt (e.kids.getD 0 E0))) := by
    intro p hp h
    rcases List.mem_append.1 hp with hp | hp
    ·exact A p hp h
    ·rcases List.mem_cons.1 hp with rfl | hp
     ·dsimp only at h; omega
     ·exact B p hp h
   cases decide (bf_ e.s < must) with
   | false => exact core
   | true =>
    intro p hp h
    simp only [brk, if_true, List.mem_cons, List.mem_append, List.not_mem_nil, or_false] at hp
    rcases hp with rfl | hp | rfl
    ·exact .inl rfl
    ·exact core p (by simpa using hp) h
    ·exact .inr rfl
  ·rw [agy_] at hp; simp [h1.1] at hp
theorem Ltr.of {L P : Wd} : ∀ {B C : Wd}, ut_ B → Trc L B C → Ltr (P ++ L) B (shf P.length C)
 | [], [], _, _ => by simp [shf, Ltr]
 | [], _ :: _, _, h => by simp [Trc] at h
 | _ :: _, [], _, h => by simp [Trc] at h
 | w :: B, c :: C, hb, h => by
  simp only [Trc] at h
  have ih := Ltr.of (P := P) (fun p hp => hb p (List.mem_cons_of_mem _ hp)) h.2.2
  simp only [shf, List.map_cons, Ltr] at ih ⊢
  rcases h.2.1 with ⟨h1, h2⟩ | ⟨h1, h2, h3⟩
  ·rw [if_neg (by omega)]
   refine ⟨h.1, .inl ⟨h1, h2, ?_⟩, ih⟩
   rcases hb w List.mem_cons_self h1 with q | q
   ·exact .inl q
   ·exact .inr (.inl q)
  ·rw [if_pos h2]
   refine ⟨h.1, .inr ⟨h1, by dsimp only; omega, w, ?_, rfl, .inl rfl⟩, ih⟩
   dsimp only
   rw [show (c.2 + (P.length : Int)).toNat = P.length + c.2.toNat by omega, List.getElem?_append_right (by omega), Nat.add_sub_cancel_left]
   exact h3
theorem mi_ {e : E} (h : eok e = true) (P : Wd) (nx : Int) (hn : 0 ≤ nx) : Ltr (P ++ src e 0 nx) (src (bare e) 0 nx) (shf P.length (l8 e 1 1)) := by
 have hb := fy_ 5 e (bt_ h)
 have T := ji_ 5 e 1 1 nx (bt_ h) (by decide) (by decide) hn
 rw [aht_ (bt_ h), aht_ hb.1] at T
 exact Ltr.of (ts_ 5 _ 0 nx hb.1 (mu_ e (jn_ h)) hn) T
theorem qi_ {s : Sl} (h : c1_ s = true) : Ltr (dz_ s) (eo_ (bof s)) (l8L s) := by
 obtain ⟨h0, h1, h2⟩ := gg_ h
 unfold dz_ eo_ bof l8L
 rcases h0 with k | k | k | k
 ·simp [k, Ltr]
 ·have q := mi_ (h1 (.inl k)) [(ig_, 100), (s.name, 101), (h2_, -1), (s.type, -1), (wEq, 102)] 0 (by decide)
  simp only [k, if_true, show ¬ (1 : Int) = 0 by omega, if_false]
  simp only [List.cons_append, List.nil_append, T7_, List.length_nil] at q
  simp only [Ltr]
  exact ⟨trivial, .inr ⟨by decide, by decide, (s.name, 101), rfl, rfl, .inl rfl⟩, trivial, .inr ⟨by decide, by decide, (wEq, 102), rfl, rfl, .inl rfl⟩, q⟩
 ·have q := mi_ (h1 (.inr (.inl k))) [(br_, 103)] 0 (by decide)
  simp only [k, if_true, show ¬ (2 : Int) = 0 by omega, show ¬ (2 : Int) = 1 by omega, if_false]
  simp only [List.cons_append, List.nil_append, T7_, List.length_nil] at q
  simp only [Ltr]
  exact ⟨trivial, .inr ⟨by decide, by decide, (br_, 103), rfl, rfl, .inr (.inl ⟨rfl, trivial⟩)⟩, q⟩
 ·have he := h1 (.inr (.inr k))
  have q := mi_ he [(dw_, 100)] 0 (by decide)
  have hc := (dc_ 5 _ 0 (bt_ he)).2.2.2
  have q2 := mi_ (h2 k) ((dw_, 100) :: src s.expr 0 0 ++ [(br_, 103)]) (cnt s.expr) (by omega)
  have hl : (src s.expr 0 0).length = (wds s.expr 1).length := by rw [nq_, e7_ (bt_ he)]
  simp only [k, if_true, show ¬ (3 : Int) = 0 by omega, show ¬ (3 : Int) = 1 by omega, show ¬ (3 : Int) = 2 by omega, if_false]
  rw [jt_ 5 _ (bt_ he)]
  refine Ltr.app (Ltr.app (B := (wIf, 100) :: _) (C := (wIf, 0) :: _) ?_ ?_) ?_
  ·simp only [List.cons_append, List.nil_append, T7_, List.length_nil] at q
   simp only [Ltr]
   refine ⟨trivial, .inr ⟨by decide, by decide, (dw_, 100), rfl, rfl, .inr (.inr ⟨rfl, trivial⟩)⟩, ?_⟩
   have := (q.right (Q := [(br_, 103)])).right (Q := src s.thn 0 (cnt s.expr))
   simpa using this
  ·simp only [Ltr]
   refine ⟨trivial, .inl ⟨trivial, trivial, .inr (.inr trivial)⟩, trivial, .inr ⟨by decide, by omega, (br_, 103), ?_, rfl, .inr (.inl ⟨rfl, trivial⟩)⟩, trivial⟩
   rw [← hl, show (((src s.expr 0 0).length : Int) + 1).toNat = (src s.expr 0 0).length + 1 by omega]
   simp
  ·have e2 : ((((dw_, 100) :: src s.expr 0 0 ++ [(br_, 103)] : Wd).length : Nat) : Int) = ((wds s.expr 1).length : Int) + 2 := by rw [← hl]; simp; omega
   rw [e2] at q2
   simpa using q2
theorem wz_ {s : Sl} (h : c1_ s = true) : (ids (dz_ s)).Nodup := by
 obtain ⟨h0, h1, h2⟩ := gg_ h
 have I : ∀ e : E, eok e = true → ∀ nx : Int, 0 ≤ nx → nx ≤ 12 → (ids (src e 0 nx)).Nodup ∧ ∀ i ∈ ids (src e 0 nx), nx ≤ i ∧ i < nx + cnt e ∧ i < 100 := fun e he nx hn hn2 => by
  have := pb_ 5 e 0 nx (bt_ he) hn
  have hc := k5_ he
  exact ⟨this.1, fun i hi => by have := this.2 i hi; omega⟩
 unfold dz_
 rcases h0 with k | k | k | k
 ·simp [k, ids]
 ·obtain ⟨i1, i2⟩ := I _ (h1 (.inl k)) 0 (by decide) (by decide)
  simp only [k, if_true, is_, show (0 : Int) ≤ 100 by omega, show (0 : Int) ≤ 101 by omega, show (0 : Int) ≤ 102 by omega, show ¬ (0 : Int) ≤ -1 by omega, if_false]
  simp only [List.nodup_cons, List.mem_cons]
  exact ⟨fun h => by rcases h with h | h | h; omega; omega; have := i2 _ h; omega, fun h => by rcases h with h | h; omega; have := i2 _ h; omega, fun h => by have := i2 _ h; omega, i1⟩
 ·obtain ⟨i1, i2⟩ := I _ (h1 (.inr (.inl k))) 0 (by decide) (by decide)
  simp only [k, if_true, show ¬ (2 : Int) = 1 by omega, if_false, is_, show (0 : Int) ≤ 103 by omega, List.nodup_cons]
  exact ⟨fun h => by have := i2 _ h; omega, i1⟩
 ·have he := h1 (.inr (.inr k))
  have hc := k5_ he
  obtain ⟨i1, i2⟩ := I _ he 0 (by decide) (by decide)
  obtain ⟨j1, j2⟩ := I _ (h2 k) (cnt s.expr) (by omega) (by omega)
  rw [if_neg (by omega), if_neg (by omega), if_pos k]
  have e1 : ids ((dw_, 100) :: src s.expr 0 0 ++ [(br_, 103)] ++ src s.thn 0 (cnt s.expr)) = 100 :: (ids (src s.expr 0 0) ++ 103 :: ids (src s.thn 0 (cnt s.expr))) := by
   simp [o2_, is_, aad_]
  rw [e1]
  refine List.nodup_cons.2 ⟨fun h => ?_, List.nodup_append.2 ⟨i1, List.nodup_cons.2 ⟨fun h => by have := j2 _ h; omega, j1⟩, fun a ha b hb => ?_⟩⟩
  ·rcases List.mem_append.1 h with h | h
   ·have := i2 _ h; omega
   ·rcases List.mem_cons.1 h with h | h
    ·omega
    ·have := j2 _ h; omega
  ·have q := i2 a ha
   rcases List.mem_cons.1 hb with rfl | hb
   ·omega
   ·have := j2 b hb; omega
def ga_ (s : Sl) : List Int := (eo_ (bof s)).map fun w => if w.2 < 0 then -1 else f3_ 0 (dz_ s) w.2
theorem Ltr.len {L : Wd} : ∀ {B C : Wd}, Ltr L B C → C.length = B.length
 | [], [], _ => rfl
 | [], _ :: _, h => by simp [Ltr] at h
 | _ :: _, [], h => by simp [Ltr] at h
 | w :: B, c :: C, h => by
  simp only [Ltr] at h
  simp only [T7_, h.2.2.len]
theorem Ltr.get {L : Wd} : ∀ {B C : Wd}, Ltr L B C → ∀ {j : Nat} {w : Str × Int}, B[j]? = some w → ∃ c, C[j]? = some c ∧ c.1 = w.1 ∧ ((w.2 = -1 ∧ c.2 = -1 ∧ (w.1 = [40] ∨ w.1 = [41] ∨ w.1 = h2_)) ∨ (0 ≤ w.2 ∧ 0 ≤ c.2 ∧ ∃ u, L[c.2.toNat]? = some u ∧ u.2 = w.2 ∧ (u.1 = w.1 ∨ (u.1 = br_ ∧ w.1 = fe_) ∨ (u.1 = dw_ ∧ w.1 = wIf))))
 | [], [], _, j, w, hw => by simp at hw
 | [], _ :: _, h, _, _, _ => by simp [Ltr] at h
 | _ :: _, [], h, _, _, _ => by simp [Ltr] at h
 | v :: B, c :: C, h, j, w, hw => by
  simp only [Ltr] at h
  cases j with
  | zero =>
   simp only [List.getElem?_cons_zero, Option.some.injEq] at hw; subst hw
   exact ⟨c, rfl, h.1, h.2.1⟩
  | succ j =>
   simp only [List.getElem?_cons_succ] at hw ⊢
   exact h.2.2.get hw
theorem vb_ {s : Sl} (h : c1_ s = true) : jw_ s = ga_ s := by
 have T := qi_ h
 have hn := wz_ h
 have hm := pe_ h
 unfold jw_ ga_
 apply List.ext_getElem?
 intro j
 rw [List.getElem?_map, List.getElem?_map]
 cases hj : (eo_ (bof s))[j]? with
 | none =>
  have : (l8L s)[j]? = none := List.getElem?_eq_none (by rw [T.len]; exact List.getElem?_eq_none_iff.1 hj)
  rw [this]; rfl
 | some w =>
  obtain ⟨c, c1, c2, c3⟩ := T.get hj
  rw [c1]
  simp only [Option.map_some, Option.some.injEq]
  rcases c3 with ⟨q1, q2, _⟩ | ⟨q1, q2, u, q3, q4, _⟩
  ·rw [if_pos (by omega), if_pos (by omega)]
  ·rw [if_neg (by omega), if_neg (by omega)]
   have := me_ 0 hn q3 (by omega)
   rw [hm, q4] at this
   rw [T8_, this]; rfl
theorem ai0_ {s : Sl} (h : c1_ s = true) {w : Str × Int} (hw : w ∈ eo_ (bof s)) (h0 : 0 ≤ w.2) : w.2 ∈ ids (dz_ s) := by
 obtain ⟨j, hj⟩ := List.mem_iff_getElem?.1 hw
 obtain ⟨c, _, _, c3⟩ := (qi_ h).get hj
 rcases c3 with ⟨q1, _⟩ | ⟨_, _, u, q3, q4, _⟩
 ·omega
 ·exact tt_.2 ⟨List.mem_map.2 ⟨u, List.mem_of_getElem? q3, q4⟩, h0⟩
theorem alb_ {s : Sl} (h : c1_ s = true) : ∀ p ∈ l8L s, p.2 < ((sw' s).length : Int) := fun p hp => by
 have T := qi_ h
 obtain ⟨j, hj⟩ := List.mem_iff_getElem?.1 hp
 have hl := (List.getElem?_eq_some_iff.1 hj).1
 rw [T.len] at hl
 obtain ⟨c, c1, _, c3⟩ := T.get (T6_ hl)
 rw [hj] at c1; cases c1
 rcases c3 with ⟨_, q2, _⟩ | ⟨_, q2, u, q3, _⟩
 ·omega
 ·have := (List.getElem?_eq_some_iff.1 q3).1
  have e : (dz_ s).length = (sw' s).length := by rw [← pe_ h, List.length_map]
  omega
end
section
set_option maxRecDepth 100000
set_option maxHeartbeats 4000000
def emT (s : Sl) : Str := if sok s then by_ (bw (bof s)) else []
def emF (s : Sl) : List Int := if sok s then ga_ s else []
theorem ahg_ {s : Sl} (h : c1_ s = true) : wid (sw' s) ≤ 1000 := by
 have := m0_ h
 have h2 := zc_ (fun s hs => (this.2 s hs).2)
 rw [abg_]; omega
theorem gk_ (s : Sl) : (jw_ s).length = (l8L s).length := by simp [jw_]
theorem tk_ {s : Sl} {k : Nat} (h : k < (l8L s).length) : (jw_ s).getD k 0 = if ((l8L s).getD k ([], 0)).2 < 0 then -1 else (ct_ 0 (sw' s)).getD ((l8L s).getD k ([], 0)).2.toNat 0 := by
 simp [jw_, T8_, T6_ h]
theorem yd_ {l : List Int} {k : Nat} (h : k < l.length) : inR (l.take (k + 1)) = inR (l.take k) ++ [[.i .i64 (l.getD k 0)]] := by
 rw [List.take_add_one, T6_ h, aau_, T8_, T6_ h]; rfl
theorem su_ {l : List Str} {k : Nat} (h : k < l.length) : bp_ (l.take (k + 1)) = bp_ (l.take k) ++ [[.s (l.getD k [])]] := by
 rw [List.take_add_one, T6_ h, qq_, T8_, T6_ h]; rfl
theorem af7_ {l : Wd} {k : Nat} (h : k < l.length) : (l.map (·.1)).getD k [] = (l.getD k ([], 0)).1 := by
 simp [T8_, T6_ h]
theorem x8_ (s : Sl) (hs : e4_ s = true) : ACall En 77 [.ag (sC s)] [] [.s (emT s), .sl false (inR (emF s))] [] := by
 have L : sok s = true → (l8L s).length ≤ 76 := fun h => by have := (p5_ (hq_ (dt_ h))).1; have := (hd_ (dt_ h)).1; omega
 have hm : sok s = true → (l8L s).map (·.1) = bw (bof s) := fun h => (hd_ (dt_ h)).2
 refine ak_ (fn := Tryz.f77) [] Tryz.func77 rfl rfl (by simp) fun C => ?_
 rw [aw_]
 simp only [Tryz.ntmps77, T7_, List.length_nil, Nat.reduceAdd, Nat.reduceSub, List.replicate_succ, List.replicate_zero, List.cons_append, List.nil_append, bo_]
 refine .seq (.rgn [] (by simp only [go_sem, seval, al_, ai_, af_, ab_, aa_, aj_, ac_, a8_]; rfl) ?_ ?_)
 ·(first | trivial | (simp; done) | (simp at h23; simp; omega))
 refine .seq (.seq (.rgn [a3_ (nx_ s hs)] (by simp only [go_sem, seval, al_, ai_, af_, ab_, aa_, aj_, ac_, a8_]; rfl) ?_ ?_))
 ·(first | trivial | (simp; done) | (simp at h23; simp; omega))
 refine .condB (by simp only [go_sem, seval, al_, ai_, af_, ab_, aa_, aj_, ac_, a8_]; rfl) (by simp only [go_sem, seval, al_, ai_, af_, ab_, aa_, aj_, ac_, a8_]) (fun h11 => ?_) (fun h11 => ?_)
 ·refine .seq (.rgn [] (by simp only [go_sem, seval, al_, ai_, af_, ab_, aa_, aj_, ac_, a8_]; rfl) ?_ ?_)
  ·(first | trivial | (simp; done) | (simp at h23; simp; omega))
  refine .ret ⟨.inr rfl, ?_⟩
  exact Out.plainL (by simp only [Tryz.results77]; rfl) (by simp only [ay_, a6_, go_sem, seval, al_, ai_, af_, ab_, aa_, aj_, ac_, a8_] <;> (split <;> rfl)) (by simp only [a5_, go_sem, seval, al_, ai_, af_, ab_, aa_, aj_, ac_, a8_] <;> (simp at h11; simp [emT, emF, h11, inR, ler])) (by simp only [go_sem, seval, al_, ai_, af_, ab_, aa_, aj_, ac_, a8_])
 ·refine .skip (.seq (.rgn [b9_ (sok s = true) (fun h => ahx_ s (dt_ h) hs)] (by simp only [go_sem, seval, al_, ai_, af_, ab_, aa_, aj_, ac_, a8_]; rfl) ?_ ?_))
  ·simpa using h11
  refine .seq (.rgn [b9_ (sok s = true) (fun h => iu_ s (dt_ h) hs), b9_ (sok s = true) (fun h => aec_ (sw' s) (by have := (m0_ (dt_ h)).1; omega) (by have := ahg_ (dt_ h); omega))] (by simp only [go_sem, seval, al_, ai_, af_, ab_, aa_, aj_, ac_, a8_]; rfl) ?_ ?_)
  ·simpa using h11
  refine .seq (.rgn [] (by simp only [go_sem, seval, al_, ai_, af_, ab_, aa_, aj_, ac_, a8_]; rfl) ?_ ?_)
  ·(first | trivial | (simp; done) | (simp at h23; simp; omega))
  refine .seq (.rgn [] (by simp only [go_sem, seval, al_, ai_, af_, ab_, aa_, aj_, ac_, a8_]; rfl) ?_ ?_)
  ·(first | trivial | (simp; done) | (simp at h23; simp; omega))
  refine .seq (.seq (.rgn [] (by simp only [go_sem, seval, al_, ai_, af_, ab_, aa_, aj_, ac_, a8_]; rfl) ?_ ?_))
  ·(first | trivial | (simp; done) | (simp at h23; simp; omega))
  refine .block (.loopK (fun k : Nat => ⟨[.no, .no, .no, .no, .sl false (wdR (l8L s)), .sl false (inR (ct_ 0 (sw' s))), .ow 60 1 0 k, .ow 61 1 0 k, .i .i64 k, .no, .no, .no, .no, .no, .no, .no, .no, .no, .no, .no, .no, .no, .no, .no, .no, .no, .no, .no, .no, .no, .no, .no, .no, .no, .no, .no, .no, .no, .no, .no, .no, .no, .no, .no, .no, .no, .no, .no, .no, .no, .no, .no, .no, .no, .no, .no, .no], be_ [(60, ⟨9, 1, bp_ ((bw (bof s)).take k)⟩), (61, ⟨3, 1, inR ((jw_ s).take k)⟩)], us [60, 61]⟩) (fun k : Nat => k ≤ (l8L s).length ∧ sok s = true) (fun k : Nat => (l8L s).length - k) (0) ?_ ?_ (fun k hI => ?_))
  ·exact ⟨by simp, by simpa using h11⟩
  ·refine Can.trans (Can.ownSlot 6 60 9 1 (by simp only [go_sem, seval, al_, ai_, af_, ab_, aa_, aj_, ac_, a8_] <;> rfl) (by simp only [go_sem, seval, al_, ai_, af_, ab_, aa_, aj_, ac_, a8_]) (by simp only [go_sem, seval, al_, ai_, af_, ab_, aa_, aj_, ac_, a8_] <;> rfl)) ?_
   refine Can.trans (Can.ownSlot 7 61 3 1 (by simp only [go_sem, seval, al_, ai_, af_, ab_, aa_, aj_, ac_, a8_] <;> rfl) (by simp only [go_sem, seval, al_, ai_, af_, ab_, aa_, aj_, ac_, a8_]) (by simp only [go_sem, seval, al_, ai_, af_, ab_, aa_, aj_, ac_, a8_] <;> rfl)) ?_
   exact Can.weak (Weak.lit (by simp only [go_sem, seval, al_, ai_, af_, ab_, aa_, aj_, ac_, a8_, ar_, leV, ap_, aq_, V.inn, us, T9_, Ta_] <;> (simp)) (by simp only [go_sem, seval, al_, ai_, af_, ab_, aa_, aj_, ac_, a8_, ar_, leV, ap_, aq_, V.inn, us, T9_, Ta_]) (by simp only [go_sem, seval, al_, ai_, af_, ab_, aa_, aj_, ac_, a8_, ar_, leV, ap_, aq_, V.inn, us, T9_, Ta_] <;> (simp [bp_, inR])))
  refine .seq (.seq (.rgn [] (by simp only [go_sem, seval, al_, ai_, af_, ab_, aa_, aj_, ac_, a8_]; rfl) ?_ ?_))
  ·(first | trivial | (simp; done) | (simp at h23; simp; omega))
  refine .condB (by simp only [go_sem, seval, al_, ai_, af_, ab_, aa_, aj_, ac_, a8_]; rfl) (by simp only [go_sem, seval, al_, ai_, af_, ab_, aa_, aj_, ac_, a8_]) (fun h23 => ?_) (fun h23 => ?_)
  ·refine .skip (.seqJ (fun u : Unit => ⟨[.no, .no, .no, .no, .sl false (wdR (l8L s)), .sl false (inR (ct_ 0 (sw' s))), .ow 43 1 0 (k + 1), .ow 61 1 0 (k + 1), .i .i64 k, .no, .no, .no, .no, .no, .no, .no, .no, .no, .no, .no, .no, .no, .no, .no, .no, .no, .no, .no, .no, .no, .no, .no, .no, .no, .no, .no, .no, .no, .no, .no, .no, .no, .no, .no, .no, .no, .no, .no, .no, .no, .no, .no, .no, .no, .no, .no, .no], be_ [(43, ⟨9, 1, bp_ ((bw (bof s)).take (k + 1))⟩), (61, ⟨3, 1, inR ((jw_ s).take (k + 1))⟩)], us [43, 61]⟩) (fun u : Unit => True) ?_ (fun u hJ => ?_))
   ·refine .block (.seq (.rgn [] (by simp only [go_sem, seval, al_, ai_, af_, ab_, aa_, aj_, ac_, a8_, ia_ (show k < (l8L s).length by simpa using h23)]; rfl) ?_ ?_))
    ·simp only [T3_] at h23; have q := L hI.2; have q2 := (hd_ (dt_ hI.2)).1; simp; omega
    refine .seq (.rgn [] (by simp only [go_sem, seval, al_, ai_, af_, ab_, aa_, aj_, ac_, a8_, ia_ (show k < (l8L s).length by simpa using h23)]; rfl) ?_ ?_)
    ·(first | trivial | (simp; done) | (simp at h23; simp; omega))
    refine .condB (by simp only [go_sem, seval, al_, ai_, af_, ab_, aa_, aj_, ac_, a8_]; rfl) (by simp only [go_sem, seval, al_, ai_, af_, ab_, aa_, aj_, ac_, a8_]) (fun h39 => ?_) (fun h39 => ?_)
    ·refine .rgn [] (by simp only [go_sem, seval, al_, ai_, af_, ab_, aa_, aj_, ac_, a8_]; rfl) ?_ ?_
     ·simp only [T3_] at h23; have q := L hI.2; have q2 := gk_ s; simp; omega
     refine Exists.intro (()) ⟨?_, ?_⟩
     ·trivial
     refine Can.trans (Can.swap 52 61 (by decide) (by decide) (by decide) (by decide) (by simp only [go_sem, seval, al_, ai_, af_, ab_, aa_, aj_, ac_, a8_, V.cl]) (by simp only [go_sem, seval, al_, ai_, af_, ab_, aa_, aj_, ac_, a8_, V.cl]) (by simp only [go_sem, seval, al_, ai_, af_, ab_, aa_, aj_, ac_, a8_, bj_, sw, swM, rnB] <;> rfl) (by simp only [go_sem, seval, al_, ai_, af_, ab_, aa_, aj_, ac_, a8_, bj_, sw, swM, rnB] <;> rfl) (by simp only [go_sem, seval, al_, ai_, af_, ab_, aa_, aj_, ac_, a8_, bj_, sw, swM, rnB] <;> rfl)) ?_
     exact Can.weak (Weak.lit (by simp only [go_sem, seval, al_, ai_, af_, ab_, aa_, aj_, ac_, a8_, ar_, leV, ap_, aq_, V.inn, us, T9_, Ta_] <;> (simp)) (by simp only [go_sem, seval, al_, ai_, af_, ab_, aa_, aj_, ac_, a8_, ar_, leV, ap_, aq_, V.inn, us, T9_, Ta_]) (by simp only [go_sem, seval, al_, ai_, af_, ab_, aa_, aj_, ac_, a8_, ar_, leV, ap_, aq_, V.inn, us, T9_, Ta_] <;> ((simp only [T3_] at h23); (have q2 := (hd_ (dt_ hI.2)).1); rw [su_ (show k < (bw (bof s)).length by omega), yd_ (show k < (jw_ s).length by rw [gk_]; omega), tk_ (show k < (l8L s).length by omega), ← hm hI.2, af7_ (show k < (l8L s).length by omega)]; (first | (simp only [T3_] at h39; rw [if_pos h39]; simp; done) | (simp only [T4_] at h39; rw [if_neg h39]; simp; done) | trace_state))))
    ·refine .rgn [] (by simp only [go_sem, seval, al_, ai_, af_, ab_, aa_, aj_, ac_, a8_, ia_ (show k < (l8L s).length by simpa using h23), e8_ (show ((l8L s).getD k ([], 0)).2.toNat < (ct_ 0 (sw' s)).length by have := alb_ (dt_ hI.2) _ (bh_ (d := ([], 0)) (show k < (l8L s).length by simpa using h23)); simp only [T4_] at h39; rw [a8_]; omega)]; rfl) ?_ ?_
     ·simp only [T3_] at h23; simp only [T4_] at h39; have q := L hI.2; have q2 := gk_ s; have q3 := alb_ (dt_ hI.2) _ (bh_ (d := ([], 0)) (show k < (l8L s).length by omega)); simp [-List.getD_eq_getElem?_getD]; omega
     refine Exists.intro (()) ⟨?_, ?_⟩
     ·trivial
     refine Can.trans (Can.swap 63 61 (by decide) (by decide) (by decide) (by decide) (by simp only [go_sem, seval, al_, ai_, af_, ab_, aa_, aj_, ac_, a8_, V.cl]) (by simp only [go_sem, seval, al_, ai_, af_, ab_, aa_, aj_, ac_, a8_, V.cl]) (by simp only [go_sem, seval, al_, ai_, af_, ab_, aa_, aj_, ac_, a8_, bj_, sw, swM, rnB] <;> rfl) (by simp only [go_sem, seval, al_, ai_, af_, ab_, aa_, aj_, ac_, a8_, bj_, sw, swM, rnB] <;> rfl) (by simp only [go_sem, seval, al_, ai_, af_, ab_, aa_, aj_, ac_, a8_, bj_, sw, swM, rnB] <;> rfl)) ?_
     exact Can.weak (Weak.lit (by simp only [go_sem, seval, al_, ai_, af_, ab_, aa_, aj_, ac_, a8_, ar_, leV, ap_, aq_, V.inn, us, T9_, Ta_] <;> (simp)) (by simp only [go_sem, seval, al_, ai_, af_, ab_, aa_, aj_, ac_, a8_, ar_, leV, ap_, aq_, V.inn, us, T9_, Ta_]) (by simp only [go_sem, seval, al_, ai_, af_, ab_, aa_, aj_, ac_, a8_, ar_, leV, ap_, aq_, V.inn, us, T9_, Ta_] <;> ((simp only [T3_] at h23); (have q2 := (hd_ (dt_ hI.2)).1); rw [su_ (show k < (bw (bof s)).length by omega), yd_ (show k < (jw_ s).length by rw [gk_]; omega), tk_ (show k < (l8L s).length by omega), ← hm hI.2, af7_ (show k < (l8L s).length by omega)]; (first | (simp only [T3_] at h39; rw [if_pos h39]; simp; done) | (simp only [T4_] at h39; rw [if_neg h39]; simp; done) | trace_state))))
   refine .rgn [] (by simp only [go_sem, seval, al_, ai_, af_, ab_, aa_, aj_, ac_, a8_]; rfl) ?_ ?_
   ·(first | trivial | (simp; done) | (simp at h23; simp; omega))
   refine Exists.intro (k + 1) ⟨?_, ?_, ?_⟩
   ·simp at h23; exact ⟨by omega, hI.2⟩
   ·simp at h23; omega
   refine Can.trans (Can.swap 43 60 (by decide) (by decide) (by decide) (by decide) (by simp only [go_sem, seval, al_, ai_, af_, ab_, aa_, aj_, ac_, a8_, V.cl]) (by simp only [go_sem, seval, al_, ai_, af_, ab_, aa_, aj_, ac_, a8_, V.cl]) (by simp only [go_sem, seval, al_, ai_, af_, ab_, aa_, aj_, ac_, a8_, bj_, sw, swM, rnB] <;> rfl) (by simp only [go_sem, seval, al_, ai_, af_, ab_, aa_, aj_, ac_, a8_, bj_, sw, swM, rnB] <;> rfl) (by simp only [go_sem, seval, al_, ai_, af_, ab_, aa_, aj_, ac_, a8_, bj_, sw, swM, rnB] <;> rfl)) ?_
   exact Can.weak (Weak.lit (by simp only [go_sem, seval, al_, ai_, af_, ab_, aa_, aj_, ac_, a8_, ar_, leV, ap_, aq_, V.inn, us, T9_, Ta_] <;> ((have q := L hI.2); rw [bd_ (by simp at h23; omega) (by simp at h23; omega)]; simp)) (by simp only [go_sem, seval, al_, ai_, af_, ab_, aa_, aj_, ac_, a8_, ar_, leV, ap_, aq_, V.inn, us, T9_, Ta_]) (by simp only [go_sem, seval, al_, ai_, af_, ab_, aa_, aj_, ac_, a8_, ar_, leV, ap_, aq_, V.inn, us, T9_, Ta_]))
  ·refine .exit (.seq (.rgn [zp_ (sok s = true) (fun h => ho_ (bw (bof s)) (by have := (p5_ (hq_ (dt_ h))).1; omega) (by have := aaf_ (hq_ (dt_ h)); omega))] (by simp only [go_sem, seval, al_, ai_, af_, ab_, aa_, aj_, ac_, a8_]; rfl) ?_ ?_))
   ·simp only [T4_] at h23; have q2 := (hd_ (dt_ hI.2)).1; obtain rfl : k = (bw (bof s)).length := (by omega); refine ⟨?_, hI.2⟩; rw [T1_ (Nat.le_refl _), if_pos (Nat.le_refl _), T1_ (by rw [ab_]; exact Nat.le_refl _)]; exact hu_ _
   refine .frz 61 (by simp only [go_sem, seval, al_, ai_, af_, ab_, aa_, aj_, ac_, a8_]; rfl) (by simp only [go_sem, seval, al_, ai_, af_, ab_, aa_, aj_, ac_, a8_]) (by simp only [go_sem, seval, al_, ai_, af_, ab_, aa_, aj_, ac_, a8_]; rfl) (by simp only [go_sem, seval, al_, ai_, af_, ab_, aa_, aj_, ac_, a8_]; rfl) ?_
   refine .ret ⟨.inr rfl, ?_⟩
   exact Out.plainL (by simp only [Tryz.results77]; rfl) (by simp only [ay_, a6_, go_sem, seval, al_, ai_, af_, ab_, aa_, aj_, ac_, a8_] <;> (split <;> rfl)) (by simp only [a5_, go_sem, seval, al_, ai_, af_, ab_, aa_, aj_, ac_, a8_] <;> (simp at h11; simp only [T4_] at h23; have q2 := (hd_ (dt_ hI.2)).1; have q3 := gk_ s; obtain rfl : k = (jw_ s).length := (by omega); rw [T1_ (Nat.le_refl _), if_pos (Nat.le_refl _), T1_ (by rw [aj_]; exact Nat.le_refl _), vb_ (dt_ hI.2)]; simp [emT, emF, h11, peel, a9_, hu_])) (by simp only [go_sem, seval, al_, ai_, af_, ab_, aa_, aj_, ac_, a8_])
theorem aem_ : En.P.underlying 102 = some (.map 3 3) := Tryz.underlying102
theorem aex_ : En.P.underlying 3 = some (.int .i64) := Tryz.underlying3
theorem afj_ {s : Sl} (h : c1_ s = true) : (dz_ s).length ≤ 76 ∧ gw_ (dz_ s) ≤ 1000 := by
 have h1 := (m0_ h).1
 have h2 := ahg_ h
 rw [← pe_ h] at h1 h2
 exact ⟨by simpa using h1, by unfold gw_; omega⟩
theorem af3_ {b : Bl} (h : kz_ b = true) : (eo_ b).length ≤ 76 := by
 have h1 := (p5_ h).1
 rw [← aac_ h] at h1
 simpa using h1
theorem acq_ (s : Sl) : (ga_ s).length = (eo_ (bof s)).length := by simp [ga_]
theorem sn_ {s : Sl} {k : Nat} (h : k < (eo_ (bof s)).length) : (ga_ s).getD k 0 = if ((eo_ (bof s)).getD k ([], 0)).2 < 0 then -1 else f3_ 0 (dz_ s) ((eo_ (bof s)).getD k ([], 0)).2 := by
 simp [ga_, T8_, T6_ h]
theorem o3_ {l : List Int} {k : Nat} (h : k < l.length) (z : List V) {r : List V} (hr : r = [.i .i64 (l.getD k 0)]) : (eu_ (inR l) z k).set k r = eu_ (inR l) z (k + 1) := by
 rw [hr, ← e8_ h]; exact hx_ (by rw [aj_]; exact h)
theorem aio_ {s : Sl} (h : c1_ s = true) {k : Nat} (hk : k < (eo_ (bof s)).length) (h0 : 0 ≤ ((eo_ (bof s)).getD k ([], 0)).2) : j9_ (ou_ (dz_ s) (dz_ s).length) ((eo_ (bof s)).getD k ([], 0)).2 = some (f3_ 0 (dz_ s) ((eo_ (bof s)).getD k ([], 0)).2) :=
 ae0_ (wz_ h) (ai0_ h (bh_ hk) h0)
theorem alx_ (s : Sl) (h : c1_ s = true) (hs : e4_ s = true) : ACall En 57 [.ag (sC s)] [] [.s (by_ (bw (bof s))), .ow 0 1 0 (ga_ s).length] [⟨3, 1, inR (ga_ s)⟩] := by
 obtain ⟨l1, l2⟩ := afj_ h
 have hb := hq_ h
 have hsb := aky_ hs
 have l3 := af3_ hb
 have W := xo_ s h hs
 have Cl := acc_ (dz_ s) (by omega) (by omega)
 have Bo := ahu_ s hs (aan_ h).1 (aan_ h).2
 have Bw := wu_ (bof s) hb hsb
 have Bt := aiu_ (bof s) hb hsb
 have hfl := acq_ s
 have hll : (inR (ga_ s)).length = (eo_ (bof s)).length := by rw [aj_, hfl]
 have hp : ∀ k, b7_ (eu_ (inR (ga_ s)) [.i .i64 0] k) = true := fun k => hf_ (ac_ _) rfl
 have hd1 : ∀ k j, ((eu_ (inR (ga_ s)) [.i .i64 0] k).getD j []).drop 1 = [] := w8_ _ _ (fun r hr => z8_ hr) rfl
 have hcl : (ct_ 0 ((dz_ s).map (·.1))).length = (dz_ s).length := by rw [a8_, List.length_map]
 refine ak_ (fn := Tryz.f57) [46] Tryz.func57 rfl rfl (by simp) fun C => ?_
 rw [aw_]
 simp only [Tryz.ntmps57, T7_, List.length_nil, Nat.reduceAdd, Nat.reduceSub, List.replicate_succ, List.replicate_zero, List.cons_append, List.nil_append, bo_]
 refine .seq (.rgn [] (by simp only [go_sem, seval, al_, bm_, ai_, af_, aj_, ac_, hcl, hll, hp, hd1, au_, am_]; rfl) ?_ ?_)
 ·first | trivial | simp
 refine .seq (.rgnS [12] [ald_ En 70] (by simp only [go_sem, seval, al_, bm_, ai_, af_, aj_, ac_, hcl, hll, hp, hd1, au_, am_]; rfl) ?_ ?_)
 ·first | trivial | simp
 refine .seq (.rgn [a3_ W] (by simp only [go_sem, seval, al_, bm_, ai_, af_, aj_, ac_, hcl, hll, hp, hd1, au_, am_]; rfl) ?_ ?_)
 ·first | trivial | simp
 refine .seq (.seq (.rgn [a3_ Cl] (by simp only [go_sem, seval, al_, bm_, ai_, af_, aj_, ac_, hcl, hll, hp, hd1, au_, am_]; rfl) ?_ ?_))
 ·first | trivial | simp
 refine .block (.loopK (fun k : Nat => ⟨[.no, .pt 11 11 0 0, .no, .no, .pt 70 0 0 0, .sl false (wdR (dz_ s)), .no, .no, .no, .no, .no, .no, .no, .no, .no, .no, .sl false (inR (ct_ 0 ((dz_ s).map (·.1)))), .i .i64 (dz_ s).length, .i .i64 k, .no, .no, .no, .no, .no, .no, .no, .no, .no, .no, .no, .no, .no, .no, .no, .no, .no, .no, .no, .no, .no, .no, .no, .no, .no, .no, .no, .no, .no, .no, .no, .no, .no, .no, .no, .no, .no, .no, .no, .no, .no, .no, .no], be_ [(11, ⟨66, 11, [sC s]⟩), (70, ⟨0, 0, mR (ou_ (dz_ s) k)⟩)], us [11, 70]⟩) (fun k : Nat => k ≤ (dz_ s).length) (fun k : Nat => (dz_ s).length - k) (0) ?_ ?_ (fun k hI => ?_))
 ·simp
 ·exact Can.weak (Weak.lit (by simp only [go_sem, seval, al_, bm_, ai_, af_, aj_, ac_, hcl, hll, hp, hd1, au_, am_, ar_, leV, ap_, aq_, V.inn, us, T9_, Ta_] <;> (simp)) (by simp only [go_sem, seval, al_, bm_, ai_, af_, aj_, ac_, hcl, hll, hp, hd1, au_, am_, ar_, leV, ap_, aq_, V.inn, us, T9_, Ta_]) (by simp only [go_sem, seval, al_, bm_, ai_, af_, aj_, ac_, hcl, hll, hp, hd1, au_, am_, ar_, leV, ap_, aq_, V.inn, us, T9_, Ta_] <;> (simp [ab5_, mR, al_])))
 refine .seq (.rgn [] (by simp only [go_sem, seval, al_, bm_, ai_, af_, aj_, ac_, hcl, hll, hp, hd1, au_, am_]; rfl) ?_ ?_)
 ·first | trivial | simp
 refine .seq (.condB (by simp only [go_sem, seval, al_, bm_, ai_, af_, aj_, ac_, hcl, hll, hp, hd1, au_, am_]; rfl) (by simp only [go_sem, seval, al_, bm_, ai_, af_, aj_, ac_, hcl, hll, hp, hd1, au_, am_]) (fun h19 => ?_) (fun h19 => ?_))
 ·refine .skip (.seq (.block (.seq (.rgn [] (by simp only [go_sem, seval, al_, bm_, ai_, af_, aj_, ac_, hcl, hll, hp, hd1, au_, am_, e8_ (show k < (ct_ 0 ((dz_ s).map (·.1))).length by rw [hcl]; simpa using h19)]; rfl) ?_ ?_))))
  ·simp only [T3_] at h19; omega
  refine .rgnS [0] [alq_ En 70 (ou_ (dz_ s) k) 102 3 3 ((dz_ s).getD k ([], 0)).2 ((ct_ 0 ((dz_ s).map (·.1))).getD k 0) aem_ aex_] (by simp only [go_sem, seval, al_, bm_, ai_, af_, aj_, ac_, hcl, hll, hp, hd1, au_, am_, ia_ (show k < (dz_ s).length by simpa using h19)]; rfl) ?_ ?_
  ·simp only [T3_] at h19; omega
  refine .rgn [] (by simp only [go_sem, seval, al_, bm_, ai_, af_, aj_, ac_, hcl, hll, hp, hd1, au_, am_]; rfl) ?_ ?_
  ·first | trivial | simp
  refine Exists.intro (k + 1) ⟨?_, ?_, ?_⟩
  ·simp at h19; omega
  ·simp at h19; omega
  exact Can.weak (Weak.lit (by simp only [go_sem, seval, al_, bm_, ai_, af_, aj_, ac_, hcl, hll, hp, hd1, au_, am_, ar_, leV, ap_, aq_, V.inn, us, T9_, Ta_] <;> (rw [bd_ (by simp at h19; omega) (by simp at h19; omega)]; simp)) (by simp only [go_sem, seval, al_, bm_, ai_, af_, aj_, ac_, hcl, hll, hp, hd1, au_, am_, ar_, leV, ap_, aq_, V.inn, us, T9_, Ta_]) (by simp only [go_sem, seval, al_, bm_, ai_, af_, aj_, ac_, hcl, hll, hp, hd1, au_, am_, ar_, leV, ap_, aq_, V.inn, us, T9_, Ta_] <;> (rw [adp_ (show k < (dz_ s).length by simpa using h19)])))
 ·refine .exit (.seq (.rgn [a3_ Bo, a3_ Bw] (by simp only [go_sem, seval, al_, bm_, ai_, af_, aj_, ac_, hcl, hll, hp, hd1, au_, am_]; rfl) ?_ ?_))
  ·first | trivial | simp
  refine .seq (.rgn [] (by simp only [go_sem, seval, al_, bm_, ai_, af_, aj_, ac_, hcl, hll, hp, hd1, au_, am_]; rfl) ?_ ?_)
  ·omega
  refine .seq (.seq (.rgn [] (by simp only [go_sem, seval, al_, bm_, ai_, af_, aj_, ac_, hcl, hll, hp, hd1, au_, am_]; rfl) ?_ ?_))
  ·first | trivial | simp
  refine .block (.loopK (fun k : Nat => ⟨[.no, .pt 11 11 0 0, .no, .no, .pt 70 0 0 0, .no, .no, .no, .no, .ow 46 1 0 (eo_ (bof s)).length, .no, .no, .no, .no, .no, .no, .no, .no, .no, .no, .no, .no, .no, .no, .no, .no, .no, .no, .no, .no, .no, .no, .no, .no, .no, .no, .no, .sl false (wdR (eo_ (bof s))), .i .i64 (eo_ (bof s)).length, .i .i64 k, .no, .no, .no, .no, .no, .no, .no, .no, .no, .no, .no, .no, .no, .no, .no, .no, .no, .no, .no, .no, .no, .no], be_ [(11, ⟨66, 11, [sC s]⟩), (70, ⟨0, 0, mR (ou_ (dz_ s) (dz_ s).length)⟩), (46, ⟨3, 1, eu_ (inR (ga_ s)) [.i .i64 0] k⟩)], us [11, 46, 70]⟩) (fun k : Nat => k ≤ (eo_ (bof s)).length) (fun k : Nat => (eo_ (bof s)).length - k) (0) ?_ ?_ (fun k hI => ?_))
  ·simp
  ·exact Can.weak (Weak.lit (by simp only [go_sem, seval, al_, bm_, ai_, af_, aj_, ac_, hcl, hll, hp, hd1, au_, am_, ar_, leV, ap_, aq_, V.inn, us, T9_, Ta_] <;> (simp)) (by simp only [go_sem, seval, al_, bm_, ai_, af_, aj_, ac_, hcl, hll, hp, hd1, au_, am_, ar_, leV, ap_, aq_, V.inn, us, T9_, Ta_]) (by simp only [go_sem, seval, al_, bm_, ai_, af_, aj_, ac_, hcl, hll, hp, hd1, au_, am_, ar_, leV, ap_, aq_, V.inn, us, T9_, Ta_] <;> ((simp only [T4_] at h19); (obtain rfl : k = (dz_ s).length := (by omega)); simp [hh_, hll])))
  refine .seq (.rgn [] (by simp only [go_sem, seval, al_, bm_, ai_, af_, aj_, ac_, hcl, hll, hp, hd1, au_, am_]; rfl) ?_ ?_)
  ·first | trivial | simp
  refine .seq (.condB (by simp only [go_sem, seval, al_, bm_, ai_, af_, aj_, ac_, hcl, hll, hp, hd1, au_, am_]; rfl) (by simp only [go_sem, seval, al_, bm_, ai_, af_, aj_, ac_, hcl, hll, hp, hd1, au_, am_]) (fun h40 => ?_) (fun h40 => ?_))
  ·refine .skip (.seqJ (fun u : Unit => ⟨[.no, .pt 11 11 0 0, .no, .no, .pt 70 0 0 0, .no, .no, .no, .no, .ow 46 1 0 (eo_ (bof s)).length, .no, .no, .no, .no, .no, .no, .no, .no, .no, .no, .no, .no, .no, .no, .no, .no, .no, .no, .no, .no, .no, .no, .no, .no, .no, .no, .no, .sl false (wdR (eo_ (bof s))), .i .i64 (eo_ (bof s)).length, .i .i64 k, .no, .no, .no, .no, .no, .no, .no, .no, .no, .no, .no, .no, .no, .no, .no, .no, .no, .no, .no, .no, .no, .no], be_ [(11, ⟨66, 11, [sC s]⟩), (70, ⟨0, 0, mR (ou_ (dz_ s) (dz_ s).length)⟩), (46, ⟨3, 1, eu_ (inR (ga_ s)) [.i .i64 0] (k + 1)⟩)], us [11, 46, 70]⟩) (fun u : Unit => True) ?_ (fun u hJ => ?_))
   ·refine .block (.seq (.rgn [] (by simp only [go_sem, seval, al_, bm_, ai_, af_, aj_, ac_, hcl, hll, hp, hd1, au_, am_, ia_ (show k < (eo_ (bof s)).length by simpa using h40)]; rfl) ?_ ?_))
    ·simp only [T3_] at h40; omega
    refine .seq (.rgn [] (by simp only [go_sem, seval, al_, bm_, ai_, af_, aj_, ac_, hcl, hll, hp, hd1, au_, am_]; rfl) ?_ ?_)
    ·simp only [T3_] at h40; omega
    refine .seq (.rgn [] (by simp only [go_sem, seval, al_, bm_, ai_, af_, aj_, ac_, hcl, hll, hp, hd1, au_, am_]; rfl) ?_ ?_)
    ·first | trivial | simp
    refine .condB (by simp only [go_sem, seval, al_, bm_, ai_, af_, aj_, ac_, hcl, hll, hp, hd1, au_, am_]; rfl) (by simp only [go_sem, seval, al_, bm_, ai_, af_, aj_, ac_, hcl, hll, hp, hd1, au_, am_]) (fun h49 => ?_) (fun h49 => ?_)
    ·refine .rgnS [55] [ak4_ En 70 (ou_ (dz_ s) (dz_ s).length) 102 3 3 ((eo_ (bof s)).getD k ([], 0)).2 (f3_ 0 (dz_ s) ((eo_ (bof s)).getD k ([], 0)).2) aem_ aex_] (by simp only [go_sem, seval, al_, bm_, ai_, af_, aj_, ac_, hcl, hll, hp, hd1, au_, am_]; rfl) ?_ ?_
     ·simp only [T3_] at h40 h49; refine ⟨⟨aio_ h (by omega) (by omega), by omega⟩, ?_⟩; rw [List.length_set, au_, hll]; omega
     refine Exists.intro (()) ⟨?_, ?_⟩
     ·trivial
     exact Can.weak (Weak.lit (by simp only [go_sem, seval, al_, bm_, ai_, af_, aj_, ac_, hcl, hll, hp, hd1, au_, am_, ar_, leV, ap_, aq_, V.inn, us, T9_, Ta_]) (by simp only [go_sem, seval, al_, bm_, ai_, af_, aj_, ac_, hcl, hll, hp, hd1, au_, am_, ar_, leV, ap_, aq_, V.inn, us, T9_, Ta_]) (by simp only [go_sem, seval, al_, bm_, ai_, af_, aj_, ac_, hcl, hll, hp, hd1, au_, am_, ar_, leV, ap_, aq_, V.inn, us, T9_, Ta_] <;> ((simp only [T3_] at h40); (have q := sn_ (show k < (eo_ (bof s)).length by omega)); (have q2 : k < (ga_ s).length := (by omega)); (first | (simp only [T3_] at h49; rw [if_neg (by omega)] at q; rw [List.set_set, ← q, o3_ q2 [.i .i64 0]]; congr 1; (have q3 : k < (eu_ (inR (ga_ s)) [.i .i64 0] k).length := (by rw [au_, hll]; omega)); simp [T8_, q3]; done) | (simp only [T4_] at h49; rw [if_pos (by omega)] at q; rw [o3_ q2 [.i .i64 0] (by rw [q])]; done) | trace_state))))
    ·refine .skip ?_
     refine Exists.intro (()) ⟨?_, ?_⟩
     ·trivial
     exact Can.weak (Weak.lit (by simp only [go_sem, seval, al_, bm_, ai_, af_, aj_, ac_, hcl, hll, hp, hd1, au_, am_, ar_, leV, ap_, aq_, V.inn, us, T9_, Ta_]) (by simp only [go_sem, seval, al_, bm_, ai_, af_, aj_, ac_, hcl, hll, hp, hd1, au_, am_, ar_, leV, ap_, aq_, V.inn, us, T9_, Ta_]) (by simp only [go_sem, seval, al_, bm_, ai_, af_, aj_, ac_, hcl, hll, hp, hd1, au_, am_, ar_, leV, ap_, aq_, V.inn, us, T9_, Ta_] <;> ((simp only [T3_] at h40); (have q := sn_ (show k < (eo_ (bof s)).length by omega)); (have q2 : k < (ga_ s).length := (by omega)); (first | (simp only [T3_] at h49; rw [if_neg (by omega)] at q; rw [List.set_set, ← q, o3_ q2 [.i .i64 0]]; congr 1; (have q3 : k < (eu_ (inR (ga_ s)) [.i .i64 0] k).length := (by rw [au_, hll]; omega)); simp [T8_, q3]; done) | (simp only [T4_] at h49; rw [if_pos (by omega)] at q; rw [o3_ q2 [.i .i64 0] (by rw [q])]; done) | trace_state))))
   refine .rgn [] (by simp only [go_sem, seval, al_, bm_, ai_, af_, aj_, ac_, hcl, hll, hp, hd1, au_, am_]; rfl) ?_ ?_
   ·first | trivial | simp
   refine Exists.intro (k + 1) ⟨?_, ?_, ?_⟩
   ·simp at h40; omega
   ·simp at h40; omega
   exact Can.weak (Weak.lit (by simp only [go_sem, seval, al_, bm_, ai_, af_, aj_, ac_, hcl, hll, hp, hd1, au_, am_, ar_, leV, ap_, aq_, V.inn, us, T9_, Ta_] <;> (rw [bd_ (by simp at h40; omega) (by simp at h40; omega)]; simp)) (by simp only [go_sem, seval, al_, bm_, ai_, af_, aj_, ac_, hcl, hll, hp, hd1, au_, am_, ar_, leV, ap_, aq_, V.inn, us, T9_, Ta_]) (by simp only [go_sem, seval, al_, bm_, ai_, af_, aj_, ac_, hcl, hll, hp, hd1, au_, am_, ar_, leV, ap_, aq_, V.inn, us, T9_, Ta_]))
  ·refine .exit (.seq (.rgn [a3_ Bo, a3_ Bt] (by simp only [go_sem, seval, al_, bm_, ai_, af_, aj_, ac_, hcl, hll, hp, hd1, au_, am_]; rfl) ?_ ?_))
   ·first | trivial | simp
   refine .ret ⟨.inr rfl, ?_⟩
   exact Out.mem' (by simp only [Tryz.results57]; rfl) (by simp only [ay_, a6_, go_sem, seval, al_, bm_, ai_, af_, aj_, ac_, hcl, hll, hp, hd1, au_, am_]) (by simp only [a5_, rns, rn, go_sem, seval, al_, bm_, ai_, af_, aj_, ac_, hcl, hll, hp, hd1, au_, am_] <;> (rw [hfl])) (by simp) rfl (by decide) (by simp only [go_sem, seval, al_, bm_, ai_, af_, aj_, ac_, hcl, hll, hp, hd1, au_, am_]) (by simp only [am_, go_sem, seval, al_, bm_, ai_, af_, aj_, ac_, hcl, hll, hp, hd1, au_, am_]) (by simp only [ah_, go_sem, seval, al_, bm_, ai_, af_, aj_, ac_, hcl, hll, hp, hd1, au_, am_] <;> (simp only [T4_] at h40; rw [it_ (by rw [hll]; omega)]))
end
section
set_option maxRecDepth 100000
set_option maxHeartbeats 4000000
def colLe (X Y : Wd) : Prop := gw_ X ≤ gw_ Y ∧ ∀ i, 0 ≤ i → ((i ∈ X.map (·.2) ↔ i ∈ Y.map (·.2)) ∧ (i ∈ X.map (·.2) → f3_ 0 X i ≤ f3_ 0 Y i))
theorem colLe.refl (X : Wd) : colLe X X := ⟨Int.le_refl _, fun _ _ => ⟨Iff.rfl, fun _ => Int.le_refl _⟩⟩
theorem colLe.app {X X' Y Y' : Wd} (h : colLe X X') (k : colLe Y Y') : colLe (X ++ Y) (X' ++ Y') := by
 refine ⟨by rw [m1_, m1_]; have := h.1; have := k.1; omega, fun i hi => ?_⟩
 obtain ⟨h1, h2⟩ := h.2 i hi
 obtain ⟨k1, k2⟩ := k.2 i hi
 refine ⟨by simp only [List.map_append, List.mem_append, h1, k1], fun hm => ?_⟩
 rw [nm_, nm_]
 by_cases hx : i ∈ X.map (·.2)
 ·rw [if_pos hx, if_pos (h1.1 hx)]; exact h2 hx
 ·rw [if_neg hx, if_neg (fun q => hx (h1.2 q))]
  have hy : i ∈ Y.map (·.2) := by
   rw [List.map_append] at hm
   exact (List.mem_append.1 hm).resolve_left hx
  rw [nk_ i (gw_ X) Y 0 hy, nk_ i (gw_ X') Y' 0 (k1.1 hy)]
  have := k2 hy
  have := h.1
  omega
theorem colLe.none {Q : Wd} (h : ∀ p ∈ Q, p.2 = -1) : colLe [] Q := by
 refine ⟨by rw [mb_]; exact qg_ Q, fun i hi => ⟨⟨fun q => by simp at q, fun q => ?_⟩, fun q => by simp at q⟩⟩
 obtain ⟨p, hp, e⟩ := List.mem_map.1 q
 have := h p hp
 omega
end
end Go.Proofs.YtpikbndepapbhaaGreatDoor
