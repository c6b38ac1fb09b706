/- What a line is turned into, the reference's: words with their places. Conditions: none. -/
import Derived.Test.YtpikbndepapbhaaGreatDoorKl
import Derived.Test.YtpikbndepapbhaaGreatDoorKx
import Derived.Test.YtpikbndepapbhaaGreatDoorKn
import Derived.Test.YtpikbndepapbhaaGreatDoorKd
import Derived.Test.YtpikbndepapbhaaGreatDoorKi
import Derived.Test.YtpikbndepapbhaaGreatDoorKb
set_option linter.unusedVariables false
set_option linter.unusedSimpArgs false
namespace Go.Proofs.YtpikbndepapbhaaGreatDoor
section
set_option maxRecDepth 100000
set_option maxHeartbeats 4000000
theorem aai_ {l : Wd} {k : Nat} (h : k < l.length) : gn_ (l.take (k + 1)) = gn_ (l.take k) + ((l.getD k ([], 0)).1.length + 1) := by
 have e : l.take (k + 1) = l.take k ++ [l.getD k ([], 0)] := by
  rw [List.take_add_one, T6_ h, T8_, T6_ h]; rfl
 rw [e, lv_, rm_, k3_]; omega
theorem ae5_ (l : Wd) (k : Nat) : gn_ (l.take k) ≤ gn_ l := by
 conv => rhs; rw [← List.take_append_drop k l]
 have := pn_ (l.drop k)
 rw [lv_]; omega
theorem abu_ {l : Wd} {k : Nat} (h : k < l.length) : (cv_ 0 (l.map (·.1))).getD k 0 = gn_ (l.take k) := by
 rw [mi_ _ _ (by simpa using h), gn_, List.map_take]; omega
theorem z8_ (l : Wd) (hl : l.length ≤ 1000000) (hw : gn_ l < 1099511627776) : ACall En 88 [.sl false (wdR l)] [] [.sl false (inR (cv_ 0 (l.map (·.1))))] [] := by
 have hp : ∀ k, ch_ (es_ (inR (cv_ 0 (l.map (·.1)))) [.i .i64 0] k) = true := fun k => gz_ (ac_ _) rfl
 have hll : (inR (cv_ 0 (l.map (·.1)))).length = l.length := by rw [an_, a5_, List.length_map]
 have hd1 : ∀ k j, ((es_ (inR (cv_ 0 (l.map (·.1)))) [.i .i64 0] k).getD j []).drop 1 = [] := wc_ _ _ (fun r hr => zd_ hr) rfl
 refine al_ (fn := Tryz.f88) [] Tryz.func88 rfl rfl (by simp) fun C => ?_
 rw [av_]
 simp only [Tryz.ntmps88, T7_, List.length_nil, Nat.reduceAdd, Nat.reduceSub, List.replicate_succ, List.replicate_zero, List.cons_append, List.nil_append, bt_]
 refine .seq (.rgn [] (by simp only [go_sem, seval, ah_, ae_, ac_, hp, hd1, at_, hll]; rfl) ?_ ?_)
 ·(first | trivial)
 refine .seq (.rgn [] (by simp only [go_sem, seval, ah_, ae_, ac_, hp, hd1, at_, hll]; rfl) ?_ ?_)
 ·simp; omega
 refine .seq (.rgn [] (by simp only [go_sem, seval, ah_, ae_, ac_, hp, hd1, at_, hll]; rfl) ?_ ?_)
 ·(first | trivial)
 refine .seq (.seq (.rgn [] (by simp only [go_sem, seval, ah_, ae_, ac_, hp, hd1, at_, hll]; rfl) ?_ ?_))
 ·(first | trivial)
 refine .block (.loopK (fun k : Nat => ⟨[.no, .no, .no, .ow 19 1 0 l.length, .i .i64 (gn_ (l.take k)), .no, .no, .no, .no, .no, .sl false (wdR l), .i .i64 l.length, .i .i64 k, .no, .no, .no, .no, .no, .no, .no, .no, .no, .no, .no, .no, .no, .no, .no, .no], be_ [(19, ⟨3, 1, es_ (inR (cv_ 0 (l.map (·.1)))) [.i .i64 0] k⟩)], us [19]⟩) (fun k : Nat => k ≤ l.length) (fun k : Nat => l.length - k) (0) ?_ ?_ (fun k hI => ?_))
 ·simp
 ·exact Can.weak (Weak.lit (by simp only [go_sem, seval, ah_, ae_, ac_, hp, hd1, at_, hll, as_, leV, aq_, ar_, V.inn, us, T9_, Ta_] <;> (simp [k3_])) (by simp only [go_sem, seval, ah_, ae_, ac_, hp, hd1, at_, hll, as_, leV, aq_, ar_, V.inn, us, T9_, Ta_]) (by simp only [go_sem, seval, ah_, ae_, ac_, hp, hd1, at_, hll, as_, leV, aq_, ar_, V.inn, us, T9_, Ta_] <;> (simp [g1_, hll])))
 refine .seq (.rgn [] (by simp only [go_sem, seval, ah_, ae_, ac_, hp, hd1, at_, hll]; rfl) ?_ ?_)
 ·(first | trivial)
 refine .seq (.condB (by simp only [go_sem, seval, ah_, ae_, ac_, hp, hd1, at_, hll]; rfl) (by simp only [go_sem, seval, ah_, ae_, ac_, hp, hd1, at_, hll]) (fun h13 => ?_) (fun h13 => ?_))
 ·refine .skip (.seq (.block (.seq (.rgn [] (by simp only [go_sem, seval, ah_, ae_, ac_, hp, hd1, at_, hll, hx_ (show k < l.length by simpa using h13)]; rfl) ?_ ?_))))
  ·simp only [T3_] at h13; simp; omega
  refine .seq (.rgn [] (by simp only [go_sem, seval, ah_, ae_, ac_, hp, hd1, at_, hll]; rfl) ?_ ?_)
  ·simp only [T3_] at h13; simp; omega
  refine .rgn [] (by simp only [go_sem, seval, ah_, ae_, ac_, hp, hd1, at_, hll]; rfl) ?_ ?_
  ·(first | trivial)
  refine .rgn [] (by simp only [go_sem, seval, ah_, ae_, ac_, hp, hd1, at_, hll]; rfl) ?_ ?_
  ·(first | trivial)
  refine Exists.intro (k + 1) ⟨?_, ?_, ?_⟩
  ·simp at h13; omega
  ·simp at h13; omega
  exact Can.weak (Weak.lit (by simp only [go_sem, seval, ah_, ae_, ac_, hp, hd1, at_, hll, as_, leV, aq_, ar_, V.inn, us, T9_, Ta_] <;> ((have q := aai_ (show k < l.length by simpa using h13)); (have q2 := ae5_ l (k + 1)); (have q3 := pn_ (l.take k)); (refine ⟨?_, ?_⟩; (rw [bd_ (show -9223372036854775808 ≤ (((l.getD k ([], 0)).1.length : Int) + 1) by omega) (by omega), bd_ (by omega) (by omega), q]); (rw [bd_ (by simp at h13; omega) (by simp at h13; omega)]; simp)))) (by simp only [go_sem, seval, ah_, ae_, ac_, hp, hd1, at_, hll, as_, leV, aq_, ar_, V.inn, us, T9_, Ta_]) (by simp only [go_sem, seval, ah_, ae_, ac_, hp, hd1, at_, hll, as_, leV, aq_, ar_, V.inn, us, T9_, Ta_] <;> ((rw [← g8_ (by rw [hll]; simpa using h13), fy_ (by rw [a5_, List.length_map]; simpa using h13), abu_ (by simpa using h13)]))))
 ·refine .exit (.seq (.rgn [] (by simp only [go_sem, seval, ah_, ae_, ac_, hp, hd1, at_, hll]; rfl) ?_ ?_))
  ·(first | trivial)
  refine .frz 19 (by simp only [go_sem, seval, ah_, ae_, ac_, hp, hd1, at_, hll]; rfl) (by simp only [go_sem, seval, ah_, ae_, ac_, hp, hd1, at_, hll]) (by simp only [go_sem, seval, ah_, ae_, ac_, hp, hd1, at_, hll]; rfl) (by simp only [go_sem, seval, ah_, ae_, ac_, hp, hd1, at_, hll]; rfl) ?_
  refine .ret ⟨.inr rfl, ?_⟩
  exact Out.plain (by simp only [Tryz.results88]; rfl) (by simp only [ax_, a6_, go_sem, seval, ah_, ae_, ac_, hp, hd1, at_, hll] <;> (split <;> rfl)) (by simp only [a4_, go_sem, seval, ah_, ae_, ac_, hp, hd1, at_, hll] <;> (simp at h13; rw [ik_ (by omega)]; simp [← hll, T1_, peel])) (by simp only [go_sem, seval, ah_, ae_, ac_, hp, hd1, at_, hll])
theorem adg_ {l : Wd} {k : Nat} (h : k < l.length) (n : Int) : shf n (l.take (k + 1)) = shf n (l.take k) ++ [((l.getD k ([], 0)).1, if 0 ≤ (l.getD k ([], 0)).2 then (l.getD k ([], 0)).2 + n else (l.getD k ([], 0)).2)] := by
 have e : l.take (k + 1) = l.take k ++ [l.getD k ([], 0)] := by
  rw [List.take_add_one, T6_ h, T8_, T6_ h]; rfl
 rw [e, age_]; congr 1
 simp only [shf, List.map_cons, List.map_nil]
 split <;> rfl
theorem ig_ (l : Wd) (n : Int) (hl : l.length ≤ 1000000) (hb : ∀ p ∈ l, p.2 ≤ 1000000) (h0 : 0 ≤ n) (h1 : n ≤ 1000000) : ACall En 150 [.sl false (wdR l), .i .i64 n] [] [.sl false (wdR (shf n l))] [] := by
 refine al_ (fn := Tryz.f150) [] Tryz.func150 rfl rfl (by simp) fun C => ?_
 rw [av_]
 simp only [Tryz.ntmps150, T7_, List.length_nil, Nat.reduceAdd, Nat.reduceSub, List.replicate_succ, List.replicate_zero, List.cons_append, List.nil_append, bt_]
 refine .seq (.rgn [] (by simp only [go_sem, seval, ah_, ae_, az_]; rfl) ?_ ?_)
 ·(first | trivial | (simp; done) | (simp at h12; simp; omega))
 refine .seq (.rgn [] (by simp only [go_sem, seval, ah_, ae_, az_]; rfl) ?_ ?_)
 ·(first | trivial | (simp; done) | (simp at h12; simp; omega))
 refine .seq (.seq (.rgn [] (by simp only [go_sem, seval, ah_, ae_, az_]; rfl) ?_ ?_))
 ·(first | trivial | (simp; done) | (simp at h12; simp; omega))
 refine .block (.loopK (fun k : Nat => ⟨[.sl false (wdR l), .i .i64 n, .no, .no, .no, .ow 60 2 0 k, .i .i64 k, .no, .no, .no, .no, .no, .no, .no, .no, .no, .no, .no, .no, .no, .no, .no, .no, .no, .no, .no, .no, .no, .no, .no, .no, .no], be_ [(60, ⟨135, 2, wdR (shf n (l.take k))⟩)], us [60]⟩) (fun k : Nat => k ≤ l.length) (fun k : Nat => l.length - k) (0) ?_ ?_ (fun k hI => ?_))
 ·simp
 ·refine Can.trans (Can.ownSlot 5 60 135 2 (by simp only [go_sem, seval, ah_, ae_, az_] <;> rfl) (by simp only [go_sem, seval, ah_, ae_, az_]) (by simp only [go_sem, seval, ah_, ae_, az_] <;> rfl)) ?_
  exact Can.weak (Weak.lit (by simp only [go_sem, seval, ah_, ae_, az_, as_, leV, aq_, ar_, V.inn, us, T9_, Ta_] <;> (simp)) (by simp only [go_sem, seval, ah_, ae_, az_, as_, leV, aq_, ar_, V.inn, us, T9_, Ta_]) (by simp only [go_sem, seval, ah_, ae_, az_, as_, leV, aq_, ar_, V.inn, us, T9_, Ta_] <;> (simp [shf, wdR])))
 refine .seq (.seq (.rgn [] (by simp only [go_sem, seval, ah_, ae_, az_]; rfl) ?_ ?_))
 ·(first | trivial | (simp; done) | (simp at h12; simp; omega))
 refine .condB (by simp only [go_sem, seval, ah_, ae_, az_]; rfl) (by simp only [go_sem, seval, ah_, ae_, az_]) (fun h12 => ?_) (fun h12 => ?_)
 ·refine .skip (.seq (.block (.seq (.rgn [] (by simp only [go_sem, seval, ah_, ae_, az_, hx_ (show k < l.length by simpa using h12)]; rfl) ?_ ?_))))
  ·(first | trivial | (simp; done) | (simp at h12; simp; omega))
  refine .seqJ (fun v : Int => ⟨[.sl false (wdR l), .i .i64 n, .no, .no, .no, .ow 60 2 0 k, .i .i64 k, .pt 17 2 0 0, .no, .no, .no, .no, .no, .no, .no, .no, .no, .no, .no, .no, .no, .no, .no, .no, .no, .no, .no, .no, .no, .no, .no, .no], be_ [(60, ⟨135, 2, wdR (shf n (l.take k))⟩), (17, ⟨135, 2, [[.s (l.getD k ([], 0)).1, .i .i64 v]]⟩)], us [17, 60]⟩) (fun v : Int => v = if 0 ≤ (l.getD k ([], 0)).2 then (l.getD k ([], 0)).2 + n else (l.getD k ([], 0)).2) ?_ (fun v hJ => ?_)
  ·refine .seq (.rgn [] (by simp only [go_sem, seval, ah_, ae_, az_]; rfl) ?_ ?_)
   ·(first | trivial | (simp; done) | (simp at h12; simp; omega))
   refine .condB (by simp only [go_sem, seval, ah_, ae_, az_]; rfl) (by simp only [go_sem, seval, ah_, ae_, az_]) (fun h21 => ?_) (fun h21 => ?_)
   ·refine .rgn [] (by simp only [go_sem, seval, ah_, ae_, az_]; rfl) ?_ ?_
    ·(first | trivial | (simp; done) | (simp at h12; simp; omega))
    refine Exists.intro ((l.getD k ([], 0)).2 + n) ⟨?_, ?_⟩
    ·(simp only [T3_, T4_] at h21; first | rw [if_pos (by omega)] | rw [if_neg (by omega)])
    exact Can.weak (Weak.lit (by simp only [go_sem, seval, ah_, ae_, az_, as_, leV, aq_, ar_, V.inn, us, T9_, Ta_]) (by simp only [go_sem, seval, ah_, ae_, az_, as_, leV, aq_, ar_, V.inn, us, T9_, Ta_]) (by simp only [go_sem, seval, ah_, ae_, az_, as_, leV, aq_, ar_, V.inn, us, T9_, Ta_] <;> ((simp only [T3_, T4_] at h21; have := hb _ (bp_ (d := ([], 0)) (show k < l.length by simpa using h12)); first | rfl | (rw [bd_ (by omega) (by omega)]; done) | (simp; done) | trace_state))))
   ·refine .skip ?_
    refine Exists.intro ((l.getD k ([], 0)).2) ⟨?_, ?_⟩
    ·(simp only [T3_, T4_] at h21; first | rw [if_pos (by omega)] | rw [if_neg (by omega)])
    exact Can.weak (Weak.lit (by simp only [go_sem, seval, ah_, ae_, az_, as_, leV, aq_, ar_, V.inn, us, T9_, Ta_]) (by simp only [go_sem, seval, ah_, ae_, az_, as_, leV, aq_, ar_, V.inn, us, T9_, Ta_]) (by simp only [go_sem, seval, ah_, ae_, az_, as_, leV, aq_, ar_, V.inn, us, T9_, Ta_] <;> ((simp only [T3_, T4_] at h21; have := hb _ (bp_ (d := ([], 0)) (show k < l.length by simpa using h12)); first | rfl | (rw [bd_ (by omega) (by omega)]; done) | (simp; done) | trace_state))))
  refine .rgn [] (by simp only [go_sem, seval, ah_, ae_, az_]; rfl) ?_ ?_
  ·simp at h12; simp [bf_, ce_]; omega
  refine .rgn [] (by simp only [go_sem, seval, ah_, ae_, az_]; rfl) ?_ ?_
  ·(first | trivial | (simp; done) | (simp at h12; simp; omega))
  refine Exists.intro (k + 1) ⟨?_, ?_, ?_⟩
  ·simp at h12; omega
  ·simp at h12; omega
  refine Can.trans (Can.swap 40 60 (by decide) (by decide) (by decide) (by decide) (by simp only [go_sem, seval, ah_, ae_, az_, V.cl]) (by simp only [go_sem, seval, ah_, ae_, az_, V.cl]) (by simp only [go_sem, seval, ah_, ae_, az_, bq_, sw, swM, rnB] <;> rfl) (by simp only [go_sem, seval, ah_, ae_, az_, bq_, sw, swM, rnB] <;> rfl) (by simp only [go_sem, seval, ah_, ae_, az_, bq_, sw, swM, rnB] <;> rfl)) ?_
  exact Can.weak (Weak.lit (by simp only [go_sem, seval, ah_, ae_, az_, as_, leV, aq_, ar_, V.inn, us, T9_, Ta_] <;> (rw [bd_ (by simp at h12; omega) (by simp at h12; omega)]; simp)) (by simp only [go_sem, seval, ah_, ae_, az_, as_, leV, aq_, ar_, V.inn, us, T9_, Ta_]) (by simp only [go_sem, seval, ah_, ae_, az_, as_, leV, aq_, ar_, V.inn, us, T9_, Ta_] <;> (rw [adg_ (by simpa using h12), k1_, ← hJ]; rfl)))
 ·refine .exit (.seq (.rgn [] (by simp only [go_sem, seval, ah_, ae_, az_]; rfl) ?_ ?_))
  ·(first | trivial | (simp; done) | (simp at h12; simp; omega))
  refine .frz 60 (by simp only [go_sem, seval, ah_, ae_, az_]; rfl) (by simp only [go_sem, seval, ah_, ae_, az_]) (by simp only [go_sem, seval, ah_, ae_, az_]; rfl) (by simp only [go_sem, seval, ah_, ae_, az_]; rfl) ?_
  refine .ret ⟨.inr rfl, ?_⟩
  exact Out.plain (by simp only [Tryz.results150]; rfl) (by simp only [ax_, a6_, go_sem, seval, ah_, ae_, az_] <;> (split <;> rfl)) (by simp only [a4_, go_sem, seval, ah_, ae_, az_] <;> (simp at h12; (obtain rfl : k = l.length := (by omega)); rw [T1_ (Nat.le_refl _)]; simp [T1_, az_, ah_, peel])) (by simp only [go_sem, seval, ah_, ae_, az_])
theorem aer_ (l : List Str) (hl : l.length ≤ 1000000) (hw : wid l < 1099511627776) : ACall En 111 [.sl false (bm_ l)] [] [.sl false (inR (cv_ 0 l))] [] := by
 refine al_ (fn := Tryz.f111) [] Tryz.func111 rfl rfl (by simp) fun C => ?_
 rw [av_]
 simp only [Tryz.ntmps111, T7_, List.length_nil, Nat.reduceAdd, Nat.reduceSub, List.replicate_succ, List.replicate_zero, List.cons_append, List.nil_append, bt_]
 refine .seq (.rgn [] (by simp only [go_sem, seval, ab_, aa_, ac_]; rfl) ?_ ?_)
 ·(first | trivial | (simp; done) | (simp at h10; simp; omega))
 refine .seq (.rgn [] (by simp only [go_sem, seval, ab_, aa_, ac_]; rfl) ?_ ?_)
 ·(first | trivial | (simp; done) | (simp at h10; simp; omega))
 refine .seq (.rgn [] (by simp only [go_sem, seval, ab_, aa_, ac_]; rfl) ?_ ?_)
 ·(first | trivial | (simp; done) | (simp at h10; simp; omega))
 refine .seq (.seq (.rgn [] (by simp only [go_sem, seval, ab_, aa_, ac_]; rfl) ?_ ?_))
 ·(first | trivial | (simp; done) | (simp at h10; simp; omega))
 refine .block (.loopK (fun k : Nat => ⟨[.sl false (bm_ l), .no, .no, .ow 60 1 0 k, .i .i64 (wid (l.take k)), .i .i64 k, .no, .no, .no, .no, .no, .no, .no, .no, .no, .no, .no, .no, .no, .no, .no, .no, .no, .no, .no, .no], be_ [(60, ⟨3, 1, inR ((cv_ 0 l).take k)⟩)], us [60]⟩) (fun k : Nat => k ≤ l.length) (fun k : Nat => l.length - k) (0) ?_ ?_ (fun k hI => ?_))
 ·simp
 ·refine Can.trans (Can.ownSlot 3 60 3 1 (by simp only [go_sem, seval, ab_, aa_, ac_] <;> rfl) (by simp only [go_sem, seval, ab_, aa_, ac_]) (by simp only [go_sem, seval, ab_, aa_, ac_] <;> rfl)) ?_
  exact Can.weak (Weak.lit (by simp only [go_sem, seval, ab_, aa_, ac_, as_, leV, aq_, ar_, V.inn, us, T9_, Ta_] <;> (simp [sk_])) (by simp only [go_sem, seval, ab_, aa_, ac_, as_, leV, aq_, ar_, V.inn, us, T9_, Ta_]) (by simp only [go_sem, seval, ab_, aa_, ac_, as_, leV, aq_, ar_, V.inn, us, T9_, Ta_] <;> (simp [inR])))
 refine .seq (.seq (.rgn [] (by simp only [go_sem, seval, ab_, aa_, ac_]; rfl) ?_ ?_))
 ·(first | trivial | (simp; done) | (simp at h10; simp; omega))
 refine .condB (by simp only [go_sem, seval, ab_, aa_, ac_]; rfl) (by simp only [go_sem, seval, ab_, aa_, ac_]) (fun h10 => ?_) (fun h10 => ?_)
 ·refine .skip (.seq (.block (.seq (.rgn [] (by simp only [go_sem, seval, ab_, aa_, ac_]; rfl) ?_ ?_))))
  ·simp at h10; simp [uv_, ce_, an_, a5_]; omega
  refine .rgn [] (by simp only [go_sem, seval, ab_, aa_, ac_, cj_ (show k < l.length by simpa using h10)]; rfl) ?_ ?_
  ·(first | trivial | (simp; done) | (simp at h10; simp; omega))
  refine .rgn [] (by simp only [go_sem, seval, ab_, aa_, ac_]; rfl) ?_ ?_
  ·(first | trivial | (simp; done) | (simp at h10; simp; omega))
  refine Exists.intro (k + 1) ⟨?_, ?_, ?_⟩
  ·simp at h10; omega
  ·simp at h10; omega
  refine Can.trans (Can.swap 26 60 (by decide) (by decide) (by decide) (by decide) (by simp only [go_sem, seval, ab_, aa_, ac_, V.cl]) (by simp only [go_sem, seval, ab_, aa_, ac_, V.cl]) (by simp only [go_sem, seval, ab_, aa_, ac_, bq_, sw, swM, rnB] <;> rfl) (by simp only [go_sem, seval, ab_, aa_, ac_, bq_, sw, swM, rnB] <;> rfl) (by simp only [go_sem, seval, ab_, aa_, ac_, bq_, sw, swM, rnB] <;> rfl)) ?_
  exact Can.weak (Weak.lit (by simp only [go_sem, seval, ab_, aa_, ac_, as_, leV, aq_, ar_, V.inn, us, T9_, Ta_] <;> ((have q := adj_ (show k < l.length by simpa using h10)); (have q2 := ags_ l (k + 1)); (repeat' apply And.intro) <;> first | (simp; done) | (rw [bd_ (by simp at h10; omega) (by simp at h10; omega)]; simp; done) | (rw [bd_ (show -9223372036854775808 ≤ ((wid (l.take k) : Int) + ((l.getD k []).length : Int)) by omega) (by omega), bd_ (by omega) (by omega)]; omega) | trace_state)) (by simp only [go_sem, seval, ab_, aa_, ac_, as_, leV, aq_, ar_, V.inn, us, T9_, Ta_]) (by simp only [go_sem, seval, ab_, aa_, ac_, as_, leV, aq_, ar_, V.inn, us, T9_, Ta_] <;> ((rw [List.take_add_one, T6_ (show k < (cv_ 0 l).length by rw [a5_]; simpa using h10), yc_]; (have := mi_ l 0 (show k < l.length by simpa using h10)); rw [T8_, T6_ (show k < (cv_ 0 l).length by rw [a5_]; simpa using h10), Option.getD_some] at this; rw [this]; simp [inR]))))
 ·refine .exit (.seq (.rgn [] (by simp only [go_sem, seval, ab_, aa_, ac_]; rfl) ?_ ?_))
  ·(first | trivial | (simp; done) | (simp at h10; simp; omega))
  refine .frz 60 (by simp only [go_sem, seval, ab_, aa_, ac_]; rfl) (by simp only [go_sem, seval, ab_, aa_, ac_]) (by simp only [go_sem, seval, ab_, aa_, ac_]; rfl) (by simp only [go_sem, seval, ab_, aa_, ac_]; rfl) ?_
  refine .ret ⟨.inr rfl, ?_⟩
  exact Out.plain (by simp only [Tryz.results111]; rfl) (by simp only [ax_, a6_, go_sem, seval, ab_, aa_, ac_] <;> (split <;> rfl)) (by simp only [a4_, go_sem, seval, ab_, aa_, ac_] <;> (simp at h10; (obtain rfl : k = l.length := (by omega)); rw [T1_ (by rw [a5_]; exact Nat.le_refl _)]; simp [T1_, an_, a5_, peel])) (by simp only [go_sem, seval, ab_, aa_, ac_])
end
section
set_option maxRecDepth 100000
set_option maxHeartbeats 4000000
theorem ah9_ (x y : Int) : ACall En 182 [.i .i64 x, .i .i64 y] [] [.i .i64 (max x y)] [] := by
 refine al_ (fn := Tryz.f182) [] Tryz.func182 rfl rfl (by simp) fun C => ?_
 rw [av_]
 simp only [Tryz.ntmps182, T7_, List.length_nil, Nat.reduceAdd, Nat.reduceSub, List.replicate_succ, List.replicate_zero, List.cons_append, List.nil_append, bt_]
 refine .seq (.rgn [] (by simp only [go_sem, seval]; rfl) ?_ ?_)
 ·first | trivial | simp
 refine .seq (.seq (.rgn [] (by simp only [go_sem, seval]; rfl) ?_ ?_))
 ·first | trivial | simp
 refine .condB (by simp only [go_sem, seval]; rfl) (by simp only [go_sem, seval]) (fun h7 => ?_) (fun h7 => ?_)
 ·refine .seq (.rgn [] (by simp only [go_sem, seval]; rfl) ?_ ?_)
  ·first | trivial | simp
  refine .ret ⟨.inr rfl, ?_⟩
  exact Out.plain (by simp only [Tryz.results182]; rfl) (by simp only [ax_, a6_, go_sem, seval] <;> (split <;> rfl)) (by simp only [a4_, go_sem, seval] <;> (simp only [T3_] at h7; rw [show max x y = x by omega])) (by simp only [go_sem, seval])
 ·refine .skip (.seq (.rgn [] (by simp only [go_sem, seval]; rfl) ?_ ?_))
  ·first | trivial | simp
  refine .ret ⟨.inr rfl, ?_⟩
  exact Out.plain (by simp only [Tryz.results182]; rfl) (by simp only [ax_, a6_, go_sem, seval] <;> (split <;> rfl)) (by simp only [a4_, go_sem, seval] <;> (simp only [T4_] at h7; rw [show max x y = y by omega])) (by simp only [go_sem, seval])
theorem we_ (d : Nat) : ∀ (e : E) (t b : Int), form e d = true → sm e = true → many e d ≤ 1000 → t ≤ 4 → b ≤ 4 → -1000 ≤ t → -1000 ≤ b → ACall En 151 [.ag (eC e), .i .i64 t, .i .i64 b] [] [.sl false (wdR (l8 e t b))] [] := by
 induction d with
 | zero => intro e t b h; have := (bl_ h).1; omega
 | succ d ih =>
 intro e t b h hs hm ht hb ht2 hb2
 obtain ⟨a1, a2, a3⟩ := fc_ hs
 have e1 : ((d + 1 : Nat) : Int) - 1 = (d : Int) := by omega
 have hd1 : (1 : Int) ≤ ((d + 1 : Nat) : Int) := by omega
 have g1 : e.kind = 1 → 0 ≤ e.n ∧ e.n ≤ 1000000 := fun hk => by
  rcases (bl_ h).2 with ⟨k1, h1, h2, h3, h4⟩ | ⟨k1, h1, h2, h3⟩ | ⟨k1, _⟩ | ⟨k1, _⟩ <;> omega
 have g3 : e.kind = 3 → e.kids.length = 2 ∧ 1 ≤ bb_ e.s ∧ bb_ e.s ≤ 3 ∧ form (e.kids.getD 0 E0) d = true ∧ form (e.kids.getD 1 E0) d = true ∧ many (e.kids.getD 0 E0) d ≤ 1000 ∧ many (e.kids.getD 1 E0) d ≤ 1000 ∧ lvl e = bb_ e.s := fun hk => by
  rcases (bl_ h).2 with ⟨k1, _⟩ | ⟨k1, _⟩ | ⟨k1, h1, h2, h3, h4, h5⟩ | ⟨k1, _⟩ <;> try omega
  rw [e1] at h4 h5
  have := cr_ h2
  have hm2 := h9_ hd1 h3
  rw [e1] at hm2
  have q1 := de_ d _ 0 h4
  have q2 := de_ d _ 0 h5
  exact ⟨h3, this.1, this.2, h4, h5, by omega, by omega, o9_ k1 h2⟩
 have g4 : e.kind = 4 → e.kids.length = 1 ∧ form (e.kids.getD 0 E0) d = true ∧ many (e.kids.getD 0 E0) d ≤ 1000 := fun hk => by
  rcases (bl_ h).2 with ⟨k1, _⟩ | ⟨k1, _⟩ | ⟨k1, _⟩ | ⟨k1, h1, h2, h3, h4⟩ <;> try omega
  rw [e1] at h4
  have hm2 := jx_ hd1 h3
  rw [e1] at hm2
  have q1 := de_ d _ 0 h4
  exact ⟨h3, h4, by omega⟩
 have g0 : e.kind = 1 ∨ e.kind = 2 ∨ e.kind = 3 ∨ e.kind = 4 := by
  rcases (bl_ h).2 with ⟨k1, _⟩ | ⟨k1, _⟩ | ⟨k1, _⟩ | ⟨k1, _⟩ <;> omega
 have hlv : lvl e = if e.kind = 3 then bb_ e.s else 4 := by
  by_cases hk : e.kind = 3
  ·rw [if_pos hk, (g3 hk).2.2.2.2.2.2.2]
  ·rw [if_neg hk, lvl, if_neg hk]
 have hC : e.kind ≠ 4 → (l8c e).length ≤ 7000 ∧ ∀ p ∈ l8c e, p.2 ≤ 7000 := fun hk => by
  rcases g0 with hk4 | hk4 | hk4 | hk4
  ·simp [l8c, hk4]
  ·simp [l8c, hk4]
  ·have q := g3 hk4
   have q1 := lw_ q.2.2.2.1 q.2.2.2.2.2.1 (t := max 2 (bb_ e.s)) (b := max 2 (bb_ e.s)) (by omega) (by omega)
   have q2 := lw_ q.2.2.2.2.1 q.2.2.2.2.2.2.1 (t := bb_ e.s + 1) (b := bb_ e.s + 1) (by omega) (by omega)
   have q3 := h5_ d _ q.2.2.2.1 q.2.2.2.2.2.1 (max 2 (bb_ e.s))
   simp only [l8c, hk4, show ¬ (3 : Int) = 1 by omega, show ¬ (3 : Int) = 2 by omega, if_false]
   refine ⟨by simp only [T2_, T7_, az_]; omega, fun p hp => ?_⟩
   rcases List.mem_append.1 hp with hp | hp
   ·have := q1.2 p hp; omega
   ·rcases List.mem_cons.1 hp with rfl | hp
    ·dsimp only; omega
    ·simp only [shf, List.mem_map] at hp
     obtain ⟨u, hu, rfl⟩ := hp
     have := q2.2 u hu
     split
     ·dsimp only; omega
     ·omega
  ·exact absurd hk4 hk
 have hN : e.kind ≠ 4 → l8c e ≠ [] := fun hk => by
  rcases g0 with k | k | k | k
  ·simp [l8c, k]
  ·simp [l8c, k]
  ·simp [l8c, k]
  ·exact absurd k hk
 have hT : e.kind ≠ 4 → l8 e t b = brk (decide (lvl e < b)) (shf (if lvl e < t then 1 else 0) (l8c e)) := fun hk => by
  rw [ag6_ (by rcases g0 with k | k | k | k; exact .inl k; exact .inr (.inl k); exact .inr (.inr ⟨k, (g3 k).1⟩); exact absurd k hk)]
  rw [hlv]
  by_cases k3 : e.kind = 3
  ·simp [k3]
  ·simp [k3, show ¬ (4 : Int) < b by omega, show ¬ (4 : Int) < t by omega]
 refine al_ (fn := Tryz.f151) [] Tryz.func151 rfl rfl (by simp) fun C => ?_
 rw [av_]
 simp only [Tryz.ntmps151, T7_, List.length_nil, Nat.reduceAdd, Nat.reduceSub, List.replicate_succ, List.replicate_zero, List.cons_append, List.nil_append, bt_]
 refine .seq (.rgn [] (by simp only [go_sem, seval, ah_, ae_, ab_, aa_, T2_, T1_, az_]; rfl) ?_ ?_)
 ·(first | trivial | (simp; done) | (simp [ce_, bf_]; done))
 refine .seq (.rgn [] (by simp only [go_sem, seval, ah_, ae_, ab_, aa_, T2_, T1_, az_]; rfl) ?_ ?_)
 ·(first | trivial | (simp; done) | (simp [ce_, bf_]; done))
 refine .seq (.rgn [a3_ (mo_ e)] (by simp only [go_sem, seval, ah_, ae_, ab_, aa_, T2_, T1_, az_]; rfl) ?_ ?_)
 ·(first | trivial | (simp; done) | (simp [ce_, bf_]; done))
 refine .seqJ (fun op : Int => ⟨[.no, .i .i64 t, .i .i64 b, .pt 13 4 0 0, .no, .no, .no, .i .i64 op, .i .i64 (lvl e), .no, .no, .no, .no, .no, .no, .no, .no, .no, .no, .no, .no, .no, .no, .no, .no, .no, .no, .no, .no, .no, .no, .no, .no, .no, .no, .no, .no, .no, .no, .no, .no, .no, .no, .no, .no, .no, .no, .no, .no, .no, .no, .no, .no, .no, .no, .no, .no, .no, .no, .no, .no, .no, .no, .no, .no, .no, .no, .no, .no, .no, .no, .no, .no, .no, .no, .no, .no, .no, .no, .no, .no, .no, .no, .no, .no, .no, .no, .no, .no, .no, .no, .no, .no, .no, .no, .no, .no, .no, .no, .no, .no, .no], be_ [(13, ⟨64, 4, [eC e]⟩)], us [13]⟩) (fun op : Int => op = if lvl e < t then 1 else 0) ?_ (fun op hJ => ?_)
 ·refine .seq (.rgn [] (by simp only [go_sem, seval, ah_, ae_, ab_, aa_, T2_, T1_, az_]; rfl) ?_ ?_)
  ·(first | trivial | (simp; done) | (simp [ce_, bf_]; done))
  refine .condB (by simp only [go_sem, seval, ah_, ae_, ab_, aa_, T2_, T1_, az_]; rfl) (by simp only [go_sem, seval, ah_, ae_, ab_, aa_, T2_, T1_, az_]) (fun h18 => ?_) (fun h18 => ?_)
  ·refine .rgn [] (by simp only [go_sem, seval, ah_, ae_, ab_, aa_, T2_, T1_, az_]; rfl) ?_ ?_
   ·(first | trivial | (simp; done) | (simp [ce_, bf_]; done))
   refine Exists.intro (1) ⟨?_, ?_⟩
   ·simp_all
   exact Can.weak (Weak.lit (by simp only [go_sem, seval, ah_, ae_, ab_, aa_, T2_, T1_, az_, as_, leV, aq_, ar_, V.inn, us, T9_, Ta_]) (by simp only [go_sem, seval, ah_, ae_, ab_, aa_, T2_, T1_, az_, as_, leV, aq_, ar_, V.inn, us, T9_, Ta_]) (by simp only [go_sem, seval, ah_, ae_, ab_, aa_, T2_, T1_, az_, as_, leV, aq_, ar_, V.inn, us, T9_, Ta_]))
  ·refine .skip ?_
   refine Exists.intro (0) ⟨?_, ?_⟩
   ·simp_all
   exact Can.weak (Weak.lit (by simp only [go_sem, seval, ah_, ae_, ab_, aa_, T2_, T1_, az_, as_, leV, aq_, ar_, V.inn, us, T9_, Ta_]) (by simp only [go_sem, seval, ah_, ae_, ab_, aa_, T2_, T1_, az_, as_, leV, aq_, ar_, V.inn, us, T9_, Ta_]) (by simp only [go_sem, seval, ah_, ae_, ab_, aa_, T2_, T1_, az_, as_, leV, aq_, ar_, V.inn, us, T9_, Ta_]))
 refine .seq (.rgn [] (by simp only [go_sem, seval, ah_, ae_, ab_, aa_, T2_, T1_, az_]; rfl) ?_ ?_)
 ·(first | trivial | (simp; done) | (simp [ce_, bf_]; done))
 refine .seqJ (fun u : Unit => ⟨[.no, .no, .i .i64 b, .no, .no, .no, .no, .i .i64 op, .i .i64 (lvl e), .sl false (wdR (l8c e)), .no, .no, .no, .no, .no, .no, .no, .no, .no, .no, .no, .no, .no, .no, .no, .no, .no, .no, .no, .no, .no, .no, .no, .no, .no, .no, .no, .no, .no, .no, .no, .no, .no, .no, .no, .no, .no, .no, .no, .no, .no, .no, .no, .no, .no, .no, .no, .no, .no, .no, .no, .no, .no, .no, .no, .no, .no, .no, .no, .no, .no, .no, .no, .no, .no, .no, .no, .no, .no, .no, .no, .no, .no, .no, .no, .no, .no, .no, .no, .no, .no, .no, .no, .no, .no, .no, .no, .no, .no, .no, .no, .no], be_ [], us []⟩) (fun u : Unit => e.kind ≠ 4 ∧ op = if lvl e < t then 1 else 0) ?_ (fun u hJ => ?_)
 ·refine .seq (.rgn [] (by simp only [go_sem, seval, ah_, ae_, ab_, aa_, T2_, T1_, az_]; rfl) ?_ ?_)
  ·(first | trivial | (simp; done) | (simp [ce_, bf_]; done))
  refine .block (.seq (.rgn [] (by simp only [go_sem, seval, ah_, ae_, ab_, aa_, T2_, T1_, az_]; rfl) ?_ ?_))
  ·(first | trivial | (simp; done) | (simp [ce_, bf_]; done))
  refine .condB (by simp only [go_sem, seval, ah_, ae_, ab_, aa_, T2_, T1_, az_]; rfl) (by simp only [go_sem, seval, ah_, ae_, ab_, aa_, T2_, T1_, az_]) (fun h30 => ?_) (fun h30 => ?_)
  ·refine .rgn [a3_ (vw_ e.n (by have := g1 (by simpa using h30); omega) (by have := g1 (by simpa using h30); omega))] (by simp only [go_sem, seval, ah_, ae_, ab_, aa_, T2_, T1_, az_]; rfl) ?_ ?_
   ·(first | trivial | (simp; done) | (simp [ce_, bf_]; done))
   refine Exists.intro (()) ⟨?_, ?_⟩
   ·exact ⟨by simp_all, hJ⟩
   refine Can.trans (Can.frz 48 (by simp only [go_sem, seval, ah_, ae_, ab_, aa_, T2_, T1_, az_] <;> rfl) (by simp only [go_sem, seval, ah_, ae_, ab_, aa_, T2_, T1_, az_]) (by simp only [go_sem, seval, ah_, ae_, ab_, aa_, T2_, T1_, az_] <;> rfl) (by simp only [go_sem, seval, ah_, ae_, ab_, aa_, T2_, T1_, az_] <;> rfl)) ?_
   exact Can.weak (Weak.lit (by simp only [go_sem, seval, ah_, ae_, ab_, aa_, T2_, T1_, az_, as_, leV, aq_, ar_, V.inn, us, T9_, Ta_] <;> (first | (have k1 : e.kind = 1 := (by simpa using h30); rw [fb_ (g1 k1).1]; simp [l8c, k1, wdR, a8_]; done) | (have k1 : e.kind = 2 := (by simpa using h39); simp [l8c, k1, wdR, a8_]; done) | (have k1 : e.kind = 3 := (by simpa using h47); have q := (g3 k1).2.2.2.2.2.2.2; rw [q, show max (bb_ e.s) 2 = max 2 (bb_ e.s) by omega]; simp [l8c, k1, wdR, a8_]; done) | trace_state)) (by simp only [go_sem, seval, ah_, ae_, ab_, aa_, T2_, T1_, az_, as_, leV, aq_, ar_, V.inn, us, T9_, Ta_]) (by simp only [go_sem, seval, ah_, ae_, ab_, aa_, T2_, T1_, az_, as_, leV, aq_, ar_, V.inn, us, T9_, Ta_]))
  ·refine .seq (.rgn [] (by simp only [go_sem, seval, ah_, ae_, ab_, aa_, T2_, T1_, az_]; rfl) ?_ ?_)
   ·(first | trivial | (simp; done) | (simp [ce_, bf_]; done))
   refine .condB (by simp only [go_sem, seval, ah_, ae_, ab_, aa_, T2_, T1_, az_]; rfl) (by simp only [go_sem, seval, ah_, ae_, ab_, aa_, T2_, T1_, az_]) (fun h39 => ?_) (fun h39 => ?_)
   ·refine .rgn [] (by simp only [go_sem, seval, ah_, ae_, ab_, aa_, T2_, T1_, az_]; rfl) ?_ ?_
    ·(first | trivial | (simp; done) | (simp [ce_, bf_]; done))
    refine Exists.intro (()) ⟨?_, ?_⟩
    ·exact ⟨by simp_all, hJ⟩
    refine Can.trans (Can.frz 56 (by simp only [go_sem, seval, ah_, ae_, ab_, aa_, T2_, T1_, az_] <;> rfl) (by simp only [go_sem, seval, ah_, ae_, ab_, aa_, T2_, T1_, az_]) (by simp only [go_sem, seval, ah_, ae_, ab_, aa_, T2_, T1_, az_] <;> rfl) (by simp only [go_sem, seval, ah_, ae_, ab_, aa_, T2_, T1_, az_] <;> rfl)) ?_
    exact Can.weak (Weak.lit (by simp only [go_sem, seval, ah_, ae_, ab_, aa_, T2_, T1_, az_, as_, leV, aq_, ar_, V.inn, us, T9_, Ta_] <;> (first | (have k1 : e.kind = 1 := (by simpa using h30); rw [fb_ (g1 k1).1]; simp [l8c, k1, wdR, a8_]; done) | (have k1 : e.kind = 2 := (by simpa using h39); simp [l8c, k1, wdR, a8_]; done) | (have k1 : e.kind = 3 := (by simpa using h47); have q := (g3 k1).2.2.2.2.2.2.2; rw [q, show max (bb_ e.s) 2 = max 2 (bb_ e.s) by omega]; simp [l8c, k1, wdR, a8_]; done) | trace_state)) (by simp only [go_sem, seval, ah_, ae_, ab_, aa_, T2_, T1_, az_, as_, leV, aq_, ar_, V.inn, us, T9_, Ta_]) (by simp only [go_sem, seval, ah_, ae_, ab_, aa_, T2_, T1_, az_, as_, leV, aq_, ar_, V.inn, us, T9_, Ta_]))
   ·refine .seq (.rgn [] (by simp only [go_sem, seval, ah_, ae_, ab_, aa_, T2_, T1_, az_]; rfl) ?_ ?_)
    ·(first | trivial | (simp; done) | (simp [ce_, bf_]; done))
    refine .condB (by simp only [go_sem, seval, ah_, ae_, ab_, aa_, T2_, T1_, az_]; rfl) (by simp only [go_sem, seval, ah_, ae_, ab_, aa_, T2_, T1_, az_]) (fun h47 => ?_) (fun h47 => ?_)
    ·refine .seq (.rgn [a3_ (ah9_ (lvl e) 2)] (by simp only [go_sem, seval, ah_, ae_, ab_, aa_, T2_, T1_, az_]; rfl) ?_ ?_)
     ·(first | trivial | (simp; done) | (simp [ce_, bf_]; done))
     refine .seq (.rgn [a3_ (ih (e.kids.getD 0 E0) (max (lvl e) 2) (max (lvl e) 2) (g3 (by simpa using h47)).2.2.2.1 (c7_ a3 _ (bp_ (by have := g3 (by simpa using h47); omega))) (g3 (by simpa using h47)).2.2.2.2.2.1 (by have := g3 (by simpa using h47); omega) (by have := g3 (by simpa using h47); omega) (by omega) (by omega))] (by simp only [go_sem, seval, ah_, ae_, ab_, aa_, T2_, T1_, az_, eb_ (show 0 < e.kids.length by have := g3 (by simpa using h47); omega)]; rfl) ?_ ?_)
     ·have q := g3 (by simpa using h47); simp; omega
     refine .seq (.rgn [a3_ (ie_ d (e.kids.getD 0 E0) (max (lvl e) 2) (g3 (by simpa using h47)).2.2.2.1 (c7_ a3 _ (bp_ (by have := g3 (by simpa using h47); omega))) (g3 (by simpa using h47)).2.2.2.2.2.1 (by have := g3 (by simpa using h47); omega) (by omega))] (by simp only [go_sem, seval, ah_, ae_, ab_, aa_, T2_, T1_, az_, eb_ (show 0 < e.kids.length by have := g3 (by simpa using h47); omega)]; rfl) ?_ ?_)
     ·have q := g3 (by simpa using h47); simp; omega
     refine .seq (.rgn [a3_ (ih (e.kids.getD 1 E0) (lvl e + 1) (lvl e + 1) (g3 (by simpa using h47)).2.2.2.2.1 (c7_ a3 _ (bp_ (by have := g3 (by simpa using h47); omega))) (g3 (by simpa using h47)).2.2.2.2.2.2.1 (by have := g3 (by simpa using h47); omega) (by have := g3 (by simpa using h47); omega) (by have := g3 (by simpa using h47); omega) (by have := g3 (by simpa using h47); omega))] (by simp only [go_sem, seval, ah_, ae_, ab_, aa_, T2_, T1_, az_, eb_ (show 1 < e.kids.length by have := g3 (by simpa using h47); omega), bd_ (show -9223372036854775808 ≤ lvl e + 1 by have := g3 (by simpa using h47); omega) (by have := g3 (by simpa using h47); omega)]; rfl) ?_ ?_)
     ·have q := g3 (by simpa using h47); simp; omega
     refine .rgnD [a3_ (ig_ (l8 (e.kids.getD 1 E0) (lvl e + 1) (lvl e + 1)) ((wds (e.kids.getD 0 E0) (max (lvl e) 2)).length + 1) (by have q := g3 (by simpa using h47); have := (lw_ q.2.2.2.2.1 q.2.2.2.2.2.2.1 (t := lvl e + 1) (b := lvl e + 1) (by omega) (by omega)).1; omega) (fun p hp => by have q := g3 (by simpa using h47); have := (lw_ q.2.2.2.2.1 q.2.2.2.2.2.2.1 (t := lvl e + 1) (b := lvl e + 1) (by omega) (by omega)).2 p hp; omega) (by omega) (by have q := g3 (by simpa using h47); have := h5_ d _ q.2.2.2.1 q.2.2.2.2.2.1 (max (lvl e) 2); omega))] enM (by simp only [go_sem, seval, ah_, ae_, ab_, aa_, T2_, T1_, az_, bd_ (show -9223372036854775808 ≤ ((wds (e.kids.getD 0 E0) (max (lvl e) 2)).length : Int) + 1 by omega) (by have q := g3 (by simpa using h47); have := h5_ d _ q.2.2.2.1 q.2.2.2.2.2.1 (max (lvl e) 2); omega)]; rfl) (by rfl) ?_ ?_
     ·have q := g3 (by simpa using h47); have q1 := (lw_ q.2.2.2.1 q.2.2.2.2.2.1 (t := max (lvl e) 2) (b := max (lvl e) 2) (by omega) (by omega)).1; have q2 := (lw_ q.2.2.2.2.1 q.2.2.2.2.2.2.1 (t := lvl e + 1) (b := lvl e + 1) (by omega) (by omega)).1; simp [-List.getD_eq_getElem?_getD, ce_, bf_]; omega
     refine Exists.intro (()) ⟨?_, ?_⟩
     ·exact ⟨by simp_all, hJ⟩
     refine Can.trans (Can.frz 97 (by simp only [go_sem, seval, ah_, ae_, ab_, aa_, T2_, T1_, az_] <;> rfl) (by simp only [go_sem, seval, ah_, ae_, ab_, aa_, T2_, T1_, az_]) (by simp only [go_sem, seval, ah_, ae_, ab_, aa_, T2_, T1_, az_] <;> rfl) (by simp only [go_sem, seval, ah_, ae_, ab_, aa_, T2_, T1_, az_] <;> rfl)) ?_
     exact Can.weak (Weak.lit (by simp only [go_sem, seval, ah_, ae_, ab_, aa_, T2_, T1_, az_, as_, leV, aq_, ar_, V.inn, us, T9_, Ta_] <;> (first | (have k1 : e.kind = 1 := (by simpa using h30); rw [fb_ (g1 k1).1]; simp [l8c, k1, wdR, a8_]; done) | (have k1 : e.kind = 2 := (by simpa using h39); simp [l8c, k1, wdR, a8_]; done) | (have k1 : e.kind = 3 := (by simpa using h47); have q := (g3 k1).2.2.2.2.2.2.2; rw [q, show max (bb_ e.s) 2 = max 2 (bb_ e.s) by omega]; simp [l8c, k1, wdR, a8_]; done) | trace_state)) (by simp only [go_sem, seval, ah_, ae_, ab_, aa_, T2_, T1_, az_, as_, leV, aq_, ar_, V.inn, us, T9_, Ta_]) (by simp only [go_sem, seval, ah_, ae_, ab_, aa_, T2_, T1_, az_, as_, leV, aq_, ar_, V.inn, us, T9_, Ta_]))
    ·refine .seq (.rgn [a3_ (ih (e.kids.getD 0 E0) 4 b (g4 (by simp_all)).2.1 (c7_ a3 _ (bp_ (by have := g4 (by simp_all); omega))) (g4 (by simp_all)).2.2 (by decide) hb (by decide) hb2), a3_ (ig_ (l8 (e.kids.getD 0 E0) 4 b) op (by have q := g4 (by simp_all); have := (lw_ q.2.1 q.2.2 (t := 4) (b := b) (by omega) hb).1; omega) (fun p hp => by have q := g4 (by simp_all); have := (lw_ q.2.1 q.2.2 (t := 4) (b := b) (by omega) hb).2 p hp; omega) (by rw [hJ]; split <;> decide) (by rw [hJ]; split <;> decide))] (by simp only [go_sem, seval, ah_, ae_, ab_, aa_, T2_, T1_, az_, eb_ (show 0 < e.kids.length by have := g4 (by simp_all); omega)]; rfl) ?_ ?_)
     ·have q := g4 (by simp_all); simp; omega
     refine .ret ⟨.inr rfl, ?_⟩
     exact Out.plain (by simp only [Tryz.results151]; rfl) (by simp only [ax_, a6_, go_sem, seval, ah_, ae_, ab_, aa_, T2_, T1_, az_] <;> (split <;> rfl)) (by simp only [a4_, go_sem, seval, ah_, ae_, ab_, aa_, T2_, T1_, az_] <;> (have k4 : e.kind = 4 := (by simp_all); rw [ai9_ k4 (g4 k4).1, show op = 0 by rw [hJ, if_neg (by rw [hlv, if_neg (by omega)]; omega)], lz_])) (by simp only [go_sem, seval, ah_, ae_, ab_, aa_, T2_, T1_, az_])
 refine .seq (.rgn [a3_ (ig_ (l8c e) op (by have := hC hJ.1; omega) (fun p hp => by have := (hC hJ.1).2 p hp; omega) (by rw [hJ.2]; split <;> decide) (by rw [hJ.2]; split <;> decide))] (by simp only [go_sem, seval, ah_, ae_, ab_, aa_, T2_, T1_, az_]; rfl) ?_ ?_)
 ·(first | trivial | (simp; done) | (simp [ce_, bf_]; done))
 refine .seq (.seq (.rgn [] (by simp only [go_sem, seval, ah_, ae_, ab_, aa_, T2_, T1_, az_]; rfl) ?_ ?_))
 ·(first | trivial | (simp; done) | (simp [ce_, bf_]; done))
 refine .condB (by simp only [go_sem, seval, ah_, ae_, ab_, aa_, T2_, T1_, az_]; rfl) (by simp only [go_sem, seval, ah_, ae_, ab_, aa_, T2_, T1_, az_]) (fun h93 => ?_) (fun h93 => ?_)
 ·refine .seq (.rgn [] (by simp only [go_sem, seval, ah_, ae_, ab_, aa_, T2_, T1_, az_]; rfl) ?_ ?_)
  ·have q := hC hJ.1; have q2 := hN hJ.1; simp [ce_, bf_, fa_, shf, q2]; omega
  refine .frz 110 (by simp only [go_sem, seval, ah_, ae_, ab_, aa_, T2_, T1_, az_]; rfl) (by simp only [go_sem, seval, ah_, ae_, ab_, aa_, T2_, T1_, az_]) (by simp only [go_sem, seval, ah_, ae_, ab_, aa_, T2_, T1_, az_]; rfl) (by simp only [go_sem, seval, ah_, ae_, ab_, aa_, T2_, T1_, az_]; rfl) ?_
  refine .ret ⟨.inr rfl, ?_⟩
  exact Out.plain (by simp only [Tryz.results151]; rfl) (by simp only [ax_, a6_, go_sem, seval, ah_, ae_, ab_, aa_, T2_, T1_, az_] <;> (split <;> rfl)) (by simp only [a4_, go_sem, seval, ah_, ae_, ab_, aa_, T2_, T1_, az_] <;> (rw [hT hJ.1, h93, hJ.2, if_pos (by omega), T1_ (by simp [ah_, az_]; omega)]; simp [brk, wdR, peel])) (by simp only [go_sem, seval, ah_, ae_, ab_, aa_, T2_, T1_, az_])
 ·refine .skip (.seq (.rgn [] (by simp only [go_sem, seval, ah_, ae_, ab_, aa_, T2_, T1_, az_]; rfl) ?_ ?_))
  ·(first | trivial | (simp; done) | (simp [ce_, bf_]; done))
  refine .ret ⟨.inr rfl, ?_⟩
  exact Out.plain (by simp only [Tryz.results151]; rfl) (by simp only [ax_, a6_, go_sem, seval, ah_, ae_, ab_, aa_, T2_, T1_, az_] <;> (split <;> rfl)) (by simp only [a4_, go_sem, seval, ah_, ae_, ab_, aa_, T2_, T1_, az_] <;> (rw [hT hJ.1, h93, hJ.2]; rfl)) (by simp only [go_sem, seval, ah_, ae_, ab_, aa_, T2_, T1_, az_])
theorem qk_ {e : E} (h : eok e = true) : (l8 e 1 1).length ≤ 3000 ∧ ∀ p ∈ l8 e 1 1, -1 ≤ p.2 ∧ p.2 ≤ 3000 := lw_ (d := 5) (bx_ h) (h0_ h) (by decide) (by decide)
theorem aec_ {e : E} (h : eok e = true) : l8 e 1 1 ≠ [] := fun e0 => by
 have T := iv_ 5 e 1 1 0 (bx_ h) (by decide) (by decide) (by decide)
 have h1 := fl_ 5 e (bx_ h)
 have h2 := (de_ 5 (bare e) 1 h1.1).1
 have h3 := T.len
 rw [e0, mk_] at h3
 simp only [List.length_nil] at h3; omega
theorem ae3_ (s : Sl) (h : cz_ s = true) (hs : ez_ s = true) : ACall En 110 [.ag (sC s)] [] [.sl false (wdR (l8L s))] [] := by
 obtain ⟨h0, h1, h2⟩ := gb_ h
 obtain ⟨s1, s1', s2, s3⟩ := gk_ hs
 have X : s.kind = 1 ∨ s.kind = 2 ∨ s.kind = 3 → _ := fun hk => we_ 5 s.expr 1 1 (bx_ (h1 hk)) s2 (h0_ (h1 hk)) (by decide) (by decide) (by decide) (by decide)
 have X3 : s.kind = 3 → _ := fun hk => we_ 5 s.thn 1 1 (bx_ (h2 hk)) s3 (h0_ (h2 hk)) (by decide) (by decide) (by decide) (by decide)
 have W : s.kind = 3 → _ := fun hk => ie_ 5 s.expr 1 (bx_ (h1 (.inr (.inr hk)))) s2 (h0_ (h1 (.inr (.inr hk)))) (by decide) (by decide)
 have Sh : s.kind = 1 ∨ s.kind = 2 ∨ s.kind = 3 → ∀ n : Int, 0 ≤ n → n ≤ 1000000 → _ := fun hk n hn hn2 => ig_ (l8 s.expr 1 1) n (by have := (qk_ (h1 hk)).1; omega) (fun p hp => by have := (qk_ (h1 hk)).2 p hp; omega) hn hn2
 have Sh3 : s.kind = 3 → ∀ n : Int, 0 ≤ n → n ≤ 1000000 → _ := fun hk n hn hn2 => ig_ (l8 s.thn 1 1) n (by have := (qk_ (h2 hk)).1; omega) (fun p hp => by have := (qk_ (h2 hk)).2 p hp; omega) hn hn2
 have hW : s.kind = 3 → (wds s.expr 1).length ≤ 36 := fun hk => (cq_ (h1 (.inr (.inr hk))) 1).2.1
 refine al_ (fn := Tryz.f110) [] Tryz.func110 rfl rfl (by simp) fun C => ?_
 rw [av_]
 simp only [Tryz.ntmps110, T7_, List.length_nil, Nat.reduceAdd, Nat.reduceSub, List.replicate_succ, List.replicate_zero, List.cons_append, List.nil_append, bt_]
 refine .seq (.rgn [] (by simp only [go_sem, seval, ah_, ae_, ab_, aa_, T2_, T1_, az_, aj_]; rfl) ?_ ?_)
 ·(first | trivial | (simp; done) | (simp [ce_, bf_]; done))
 refine .seq (.seq (.rgn [] (by simp only [go_sem, seval, ah_, ae_, ab_, aa_, T2_, T1_, az_, aj_]; rfl) ?_ ?_))
 ·(first | trivial | (simp; done) | (simp [ce_, bf_]; done))
 refine .block (.seq (.rgn [] (by simp only [go_sem, seval, ah_, ae_, ab_, aa_, T2_, T1_, az_, aj_]; rfl) ?_ ?_))
 ·(first | trivial | (simp; done) | (simp [ce_, bf_]; done))
 refine .condB (by simp only [go_sem, seval, ah_, ae_, ab_, aa_, T2_, T1_, az_, aj_]; rfl) (by simp only [go_sem, seval, ah_, ae_, ab_, aa_, T2_, T1_, az_, aj_]) (fun h7 => ?_) (fun h7 => ?_)
 ·refine .seq (.rgnD [a3_ (X (.inl (by simpa using h7))), a3_ (Sh (.inl (by simpa using h7)) 5 (by decide) (by decide))] enM (by simp only [go_sem, seval, ah_, ae_, ab_, aa_, T2_, T1_, az_, aj_]; rfl) (by rfl) ?_ ?_)
  ·have k := h1 (.inl (by simpa using h7)); have q := (qk_ k).1; have q2 := aec_ k; simp [ce_, bf_, fa_, shf, q2]; omega
  refine .frz 28 (by simp only [go_sem, seval, ah_, ae_, ab_, aa_, T2_, T1_, az_, aj_]; rfl) (by simp only [go_sem, seval, ah_, ae_, ab_, aa_, T2_, T1_, az_, aj_]) (by simp only [go_sem, seval, ah_, ae_, ab_, aa_, T2_, T1_, az_, aj_]; rfl) (by simp only [go_sem, seval, ah_, ae_, ab_, aa_, T2_, T1_, az_, aj_]; rfl) ?_
  refine .ret ⟨.inr rfl, ?_⟩
  exact Out.plain (by simp only [Tryz.results110]; rfl) (by simp only [ax_, a6_, go_sem, seval, ah_, ae_, ab_, aa_, T2_, T1_, az_, aj_] <;> (split <;> rfl)) (by simp only [a4_, go_sem, seval, ah_, ae_, ab_, aa_, T2_, T1_, az_, aj_] <;> (have k : s.kind = 1 := (by simpa using h7); rw [if_pos (by omega), T1_ (by simp [ah_, az_]; omega)]; simp [l8L, k, wdR, peel, wEq])) (by simp only [go_sem, seval, ah_, ae_, ab_, aa_, T2_, T1_, az_, aj_])
 ·refine .seq (.rgn [] (by simp only [go_sem, seval, ah_, ae_, ab_, aa_, T2_, T1_, az_, aj_]; rfl) ?_ ?_)
  ·(first | trivial | (simp; done) | (simp [ce_, bf_]; done))
  refine .condB (by simp only [go_sem, seval, ah_, ae_, ab_, aa_, T2_, T1_, az_, aj_]; rfl) (by simp only [go_sem, seval, ah_, ae_, ab_, aa_, T2_, T1_, az_, aj_]) (fun h19 => ?_) (fun h19 => ?_)
  ·refine .seq (.rgn [a3_ (X (.inr (.inl (by simpa using h19)))), a3_ (Sh (.inr (.inl (by simpa using h19))) 1 (by decide) (by decide))] (by simp only [go_sem, seval, ah_, ae_, ab_, aa_, T2_, T1_, az_, aj_]; rfl) ?_ ?_)
   ·have k := h1 (.inr (.inl (by simpa using h19))); have q := (qk_ k).1; have q2 := aec_ k; simp [ce_, bf_, fa_, shf, q2]; omega
   refine .frz 37 (by simp only [go_sem, seval, ah_, ae_, ab_, aa_, T2_, T1_, az_, aj_]; rfl) (by simp only [go_sem, seval, ah_, ae_, ab_, aa_, T2_, T1_, az_, aj_]) (by simp only [go_sem, seval, ah_, ae_, ab_, aa_, T2_, T1_, az_, aj_]; rfl) (by simp only [go_sem, seval, ah_, ae_, ab_, aa_, T2_, T1_, az_, aj_]; rfl) ?_
   refine .ret ⟨.inr rfl, ?_⟩
   exact Out.plain (by simp only [Tryz.results110]; rfl) (by simp only [ax_, a6_, go_sem, seval, ah_, ae_, ab_, aa_, T2_, T1_, az_, aj_] <;> (split <;> rfl)) (by simp only [a4_, go_sem, seval, ah_, ae_, ab_, aa_, T2_, T1_, az_, aj_] <;> (have k : s.kind = 2 := (by simpa using h19); rw [if_pos (by omega), T1_ (by simp [ah_, az_]; omega)]; simp [l8L, k, wdR, peel, e6_])) (by simp only [go_sem, seval, ah_, ae_, ab_, aa_, T2_, T1_, az_, aj_])
  ·refine .seq (.rgn [] (by simp only [go_sem, seval, ah_, ae_, ab_, aa_, T2_, T1_, az_, aj_]; rfl) ?_ ?_)
   ·(first | trivial | (simp; done) | (simp [ce_, bf_]; done))
   refine .condB (by simp only [go_sem, seval, ah_, ae_, ab_, aa_, T2_, T1_, az_, aj_]; rfl) (by simp only [go_sem, seval, ah_, ae_, ab_, aa_, T2_, T1_, az_, aj_]) (fun h28 => ?_) (fun h28 => ?_)
   ·refine .seq (.rgn [a3_ (W (by simpa using h28))] (by simp only [go_sem, seval, ah_, ae_, ab_, aa_, T2_, T1_, az_, aj_]; rfl) ?_ ?_)
    ·(first | trivial | (simp; done) | (simp [ce_, bf_]; done))
    refine .seq (.rgn [a3_ (X (.inr (.inr (by simpa using h28)))), a3_ (Sh (.inr (.inr (by simpa using h28))) 1 (by decide) (by decide))] (by simp only [go_sem, seval, ah_, ae_, ab_, aa_, T2_, T1_, az_, aj_]; rfl) ?_ ?_)
    ·have k := h1 (.inr (.inr (by simpa using h28))); have q := (qk_ k).1; have q2 := aec_ k; simp [ce_, bf_, fa_, shf, q2]; omega
    refine .seq (.rgn [] (by simp only [go_sem, seval, ah_, ae_, ab_, aa_, T2_, T1_, az_, aj_, bd_ (show -9223372036854775808 ≤ ((wds s.expr 1).length : Int) + 1 by omega) (by have := hW (by simpa using h28); omega)]; rfl) ?_ ?_)
    ·have k := h1 (.inr (.inr (by simpa using h28))); have q := (qk_ k).1; simp [ce_, bf_]; omega
    refine .seq (.rgn [a3_ (X3 (by simpa using h28)), a3_ (Sh3 (by simpa using h28) ((wds s.expr 1).length + 2) (by omega) (by have := hW (by simpa using h28); omega))] (by simp only [go_sem, seval, ah_, ae_, ab_, aa_, T2_, T1_, az_, aj_, bd_ (show -9223372036854775808 ≤ ((wds s.expr 1).length : Int) + 2 by omega) (by have := hW (by simpa using h28); omega)]; rfl) ?_ ?_)
    ·have k := h1 (.inr (.inr (by simpa using h28))); have q := (qk_ k).1; have k2 := h2 (by simpa using h28); have q2 := (qk_ k2).1; simp [ce_, bf_]; omega
    refine .frz 65 (by simp only [go_sem, seval, ah_, ae_, ab_, aa_, T2_, T1_, az_, aj_]; rfl) (by simp only [go_sem, seval, ah_, ae_, ab_, aa_, T2_, T1_, az_, aj_]) (by simp only [go_sem, seval, ah_, ae_, ab_, aa_, T2_, T1_, az_, aj_]; rfl) (by simp only [go_sem, seval, ah_, ae_, ab_, aa_, T2_, T1_, az_, aj_]; rfl) ?_
    refine .ret ⟨.inr rfl, ?_⟩
    exact Out.plain (by simp only [Tryz.results110]; rfl) (by simp only [ax_, a6_, go_sem, seval, ah_, ae_, ab_, aa_, T2_, T1_, az_, aj_] <;> (split <;> rfl)) (by simp only [a4_, go_sem, seval, ah_, ae_, ab_, aa_, T2_, T1_, az_, aj_] <;> (have k : s.kind = 3 := (by simpa using h28); rw [if_pos (by omega), T1_ (by simp [ah_, az_]; omega)]; simp [l8L, k, wdR, peel, e6_, wIf, hk_])) (by simp only [go_sem, seval, ah_, ae_, ab_, aa_, T2_, T1_, az_, aj_])
   ·refine .skip (.seq (.rgn [] (by simp only [go_sem, seval, ah_, ae_, ab_, aa_, T2_, T1_, az_, aj_]; rfl) ?_ ?_))
    ·(first | trivial | (simp; done) | (simp [ce_, bf_]; done))
    refine .can (Can.slotLe 2 (.sl false []) (by simp only [go_sem, seval, ah_, ae_, ab_, aa_, T2_, T1_, az_, aj_] <;> trivial) (by simp only [go_sem, seval, ah_, ae_, ab_, aa_, T2_, T1_, az_, aj_] <;> rfl)) ?_
    refine .ret ⟨.inr rfl, ?_⟩
    exact Out.plain (by simp only [Tryz.results110]; rfl) (by simp only [ax_, a6_, go_sem, seval, ah_, ae_, ab_, aa_, T2_, T1_, az_, aj_] <;> (split <;> rfl)) (by simp only [a4_, go_sem, seval, ah_, ae_, ab_, aa_, T2_, T1_, az_, aj_] <;> (have k : s.kind = 0 := (by simp_all); simp [l8L, k, wdR])) (by simp only [go_sem, seval, ah_, ae_, ab_, aa_, T2_, T1_, az_, aj_])
theorem gy_ {s : Sl} (h : cz_ s = true) : (l8L s).length = (bw (bof s)).length ∧ (l8L s).map (·.1) = bw (bof s) := by
 obtain ⟨h0, h1, h2⟩ := gb_ h
 have T : ∀ e : E, eok e = true → (l8 e 1 1).map (·.1) = wds (bare e) 1 := fun e he => by
  rw [(iv_ 5 e 1 1 0 (bx_ he) (by decide) (by decide) (by decide)).fst, em_]
 have hm : (l8L s).map (·.1) = bw (bof s) := by
  unfold l8L bw bof
  rcases h0 with k | k | k | k
  ·simp [k]
  ·simp [k, tn_, T _ (h1 (.inl k))]
  ·simp [k, tn_, T _ (h1 (.inr (.inl k)))]
  ·simp [k, tn_, T _ (h1 (.inr (.inr k))), T _ (h2 k)]
 exact ⟨by rw [← hm, List.length_map], hm⟩
end
section
set_option maxRecDepth 100000
set_option maxHeartbeats 4000000
theorem acb_ {e : E} {d : Int} (h : form e d = true) (nx : Int) : src e 1 nx = src e 0 nx := by
 rw [zw_ h 1 nx]
 obtain ⟨_, h1 | h1 | h1 | h1⟩ := bl_ h
 ·simp [h1.1, brk]
 ·simp [h1.1, brk]
 ·have := cr_ h1.2.2.1
  rw [decide_eq_false (show ¬ bb_ e.s < 1 by omega), Bool.and_false]; rfl
 ·simp [h1.1, brk]
def Ltr (L : Wd) : Wd → Wd → Prop
 | [], [] => True
 | w :: B, c :: C => c.1 = w.1 ∧ ((w.2 = -1 ∧ c.2 = -1 ∧ (w.1 = [40] ∨ w.1 = [41] ∨ w.1 = hk_)) ∨ (0 ≤ w.2 ∧ 0 ≤ c.2 ∧ ∃ u, L[c.2.toNat]? = some u ∧ u.2 = w.2 ∧ (u.1 = w.1 ∨ (u.1 = bv_ ∧ w.1 = e6_) ∨ (u.1 = ds_ ∧ w.1 = wIf)))) ∧ Ltr L B C
 | _, _ => False
theorem Ltr.app {L : Wd} : ∀ {B C B' C' : Wd}, Ltr L B C → Ltr L B' C' → Ltr L (B ++ B') (C ++ C')
 | [], [], _, _, _, h => h
 | [], _ :: _, _, _, h, _ => by simp [Ltr] at h
 | _ :: _, [], _, _, h, _ => by simp [Ltr] at h
 | w :: B, c :: C, B', C', h, k => by
  simp only [Ltr] at h
  simp only [List.cons_append, Ltr]
  exact ⟨h.1, h.2.1, h.2.2.app k⟩
theorem Ltr.right {L Q : Wd} : ∀ {B C : Wd}, Ltr L B C → Ltr (L ++ Q) B C
 | [], [], _ => by simp [Ltr]
 | [], _ :: _, h => by simp [Ltr] at h
 | _ :: _, [], h => by simp [Ltr] at h
 | w :: B, c :: C, h => by
  simp only [Ltr] at h ⊢
  refine ⟨h.1, ?_, h.2.2.right⟩
  rcases h.2.1 with h1 | ⟨h1, h2, u, h3, h4⟩
  ·exact .inl h1
  ·exact .inr ⟨h1, h2, u, by rw [List.getElem?_append_left (List.getElem?_eq_some_iff.1 h3).1]; exact h3, h4⟩
def s7_ (l : Wd) : Prop := ∀ p ∈ l, p.2 = -1 → p.1 = [40] ∨ p.1 = [41]
theorem ss_ : ∀ (d : Nat) (e : E) (must nx : Int), form e d = true → pla e = true → 0 ≤ nx → s7_ (src e must nx)
 | 0, e, must, nx, h, _, _ => by have := (bl_ h).1; omega
 | d + 1, e, must, nx, h, hp, hn0 => by
  have e1 : ((d + 1 : Nat) : Int) - 1 = (d : Int) := by omega
  obtain ⟨h0, h1 | h1 | h1 | h1⟩ := bl_ h
  ·rw [oi_ h1.1]; intro p hp h; simp at hp; subst hp; dsimp only at h; omega
  ·rw [lt_ h1.1]; intro p hp h; simp at hp; subst hp; dsimp only at h; omega
  ·obtain ⟨k, hn, ho, hl, ha, hb⟩ := h1
   rw [e1] at ha hb
   have hpk : v3_ e.kids = true := by rw [afy_] at hp; simp only [T5_] at hp; exact hp.2
   rw [h4_ hl] at hpk
   simp only [v3_, Bool.and_true, T5_] at hpk
   have hc := de_ d _ 0 ha
   have A := ss_ d _ (max 2 (bb_ e.s)) (nx + 1) ha hpk.1 (by omega)
   have B := ss_ d _ (bb_ e.s + 1) (nx + 1 + cnt (e.kids.getD 0 E0)) hb hpk.2 (by omega)
   rw [hp_ k hl]
   have core : s7_ (src (e.kids.getD 0 E0) (max 2 (bb_ e.s)) (nx + 1) ++ (e.s, nx) :: src (e.kids.getD 1 E0) (bb_ e.s + 1) (nx + 1 + cnt (e.kids.getD 0 E0))) := by
    intro p hp h
    rcases List.mem_append.1 hp with hp | hp
    ·exact A p hp h
    ·rcases List.mem_cons.1 hp with rfl | hp
     ·dsimp only at h; omega
     ·exact B p hp h
   cases decide (bb_ e.s < must) with
   | false => exact core
   | true =>
    intro p hp h
    simp only [brk, if_true, List.mem_cons, List.mem_append, List.not_mem_nil, or_false] at hp
    rcases hp with rfl | hp | rfl
    ·exact .inl rfl
    ·exact core p (by simpa using hp) h
    ·exact .inr rfl
  ·rw [afy_] at hp; simp [h1.1] at hp
theorem Ltr.of {L P : Wd} : ∀ {B C : Wd}, s7_ B → Trc L B C → Ltr (P ++ L) B (shf P.length C)
 | [], [], _, _ => by simp [shf, Ltr]
 | [], _ :: _, _, h => by simp [Trc] at h
 | _ :: _, [], _, h => by simp [Trc] at h
 | w :: B, c :: C, hb, h => by
  simp only [Trc] at h
  have ih := Ltr.of (P := P) (fun p hp => hb p (List.mem_cons_of_mem _ hp)) h.2.2
  simp only [shf, List.map_cons, Ltr] at ih ⊢
  rcases h.2.1 with ⟨h1, h2⟩ | ⟨h1, h2, h3⟩
  ·rw [if_neg (by omega)]
   refine ⟨h.1, .inl ⟨h1, h2, ?_⟩, ih⟩
   rcases hb w List.mem_cons_self h1 with q | q
   ·exact .inl q
   ·exact .inr (.inl q)
  ·rw [if_pos h2]
   refine ⟨h.1, .inr ⟨h1, by dsimp only; omega, w, ?_, rfl, .inl rfl⟩, ih⟩
   dsimp only
   rw [show (c.2 + (P.length : Int)).toNat = P.length + c.2.toNat by omega, List.getElem?_append_right (by omega), Nat.add_sub_cancel_left]
   exact h3
theorem lg_ {e : E} (h : eok e = true) (P : Wd) (nx : Int) (hn : 0 ≤ nx) : Ltr (P ++ src e 0 nx) (src (bare e) 0 nx) (shf P.length (l8 e 1 1)) := by
 have hb := fl_ 5 e (bx_ h)
 have T := iv_ 5 e 1 1 nx (bx_ h) (by decide) (by decide) hn
 rw [acb_ (bx_ h), acb_ hb.1] at T
 exact Ltr.of (ss_ 5 _ 0 nx hb.1 (ly_ e (iq_ h)) hn) T
theorem pe_ {s : Sl} (h : cz_ s = true) : Ltr (du_ s) (ek_ (bof s)) (l8L s) := by
 obtain ⟨h0, h1, h2⟩ := gb_ h
 unfold du_ ek_ bof l8L
 rcases h0 with k | k | k | k
 ·simp [k, Ltr]
 ·have q := lg_ (h1 (.inl k)) [(hz_, 100), (s.name, 101), (hk_, -1), (s.type, -1), (wEq, 102)] 0 (by decide)
  simp only [k, if_true, show ¬ (1 : Int) = 0 by omega, if_false]
  simp only [List.cons_append, List.nil_append, T7_, List.length_nil] at q
  simp only [Ltr]
  exact ⟨trivial, .inr ⟨by decide, by decide, (s.name, 101), rfl, rfl, .inl rfl⟩, trivial, .inr ⟨by decide, by decide, (wEq, 102), rfl, rfl, .inl rfl⟩, q⟩
 ·have q := lg_ (h1 (.inr (.inl k))) [(bv_, 103)] 0 (by decide)
  simp only [k, if_true, show ¬ (2 : Int) = 0 by omega, show ¬ (2 : Int) = 1 by omega, if_false]
  simp only [List.cons_append, List.nil_append, T7_, List.length_nil] at q
  simp only [Ltr]
  exact ⟨trivial, .inr ⟨by decide, by decide, (bv_, 103), rfl, rfl, .inr (.inl ⟨rfl, trivial⟩)⟩, q⟩
 ·have he := h1 (.inr (.inr k))
  have q := lg_ he [(ds_, 100)] 0 (by decide)
  have hc := (de_ 5 _ 0 (bx_ he)).2.2.2
  have q2 := lg_ (h2 k) ((ds_, 100) :: src s.expr 0 0 ++ [(bv_, 103)]) (cnt s.expr) (by omega)
  have hl : (src s.expr 0 0).length = (wds s.expr 1).length := by rw [mk_, e2_ (bx_ he)]
  simp only [k, if_true, show ¬ (3 : Int) = 0 by omega, show ¬ (3 : Int) = 1 by omega, show ¬ (3 : Int) = 2 by omega, if_false]
  rw [jv_ 5 _ (bx_ he)]
  refine Ltr.app (Ltr.app (B := (wIf, 100) :: _) (C := (wIf, 0) :: _) ?_ ?_) ?_
  ·simp only [List.cons_append, List.nil_append, T7_, List.length_nil] at q
   simp only [Ltr]
   refine ⟨trivial, .inr ⟨by decide, by decide, (ds_, 100), rfl, rfl, .inr (.inr ⟨rfl, trivial⟩)⟩, ?_⟩
   have := (q.right (Q := [(bv_, 103)])).right (Q := src s.thn 0 (cnt s.expr))
   simpa using this
  ·simp only [Ltr]
   refine ⟨trivial, .inl ⟨trivial, trivial, .inr (.inr trivial)⟩, trivial, .inr ⟨by decide, by omega, (bv_, 103), ?_, rfl, .inr (.inl ⟨rfl, trivial⟩)⟩, trivial⟩
   rw [← hl, show (((src s.expr 0 0).length : Int) + 1).toNat = (src s.expr 0 0).length + 1 by omega]
   simp
  ·have e2 : ((((ds_, 100) :: src s.expr 0 0 ++ [(bv_, 103)] : Wd).length : Nat) : Int) = ((wds s.expr 1).length : Int) + 2 := by rw [← hl]; simp; omega
   rw [e2] at q2
   simpa using q2
theorem vm_ {s : Sl} (h : cz_ s = true) : (ids (du_ s)).Nodup := by
 obtain ⟨h0, h1, h2⟩ := gb_ h
 have I : ∀ e : E, eok e = true → ∀ nx : Int, 0 ≤ nx → nx ≤ 12 → (ids (src e 0 nx)).Nodup ∧ ∀ i ∈ ids (src e 0 nx), nx ≤ i ∧ i < nx + cnt e ∧ i < 100 := fun e he nx hn hn2 => by
  have := n7_ 5 e 0 nx (bx_ he) hn
  have hc := kl_ he
  exact ⟨this.1, fun i hi => by have := this.2 i hi; omega⟩
 unfold du_
 rcases h0 with k | k | k | k
 ·simp [k, ids]
 ·obtain ⟨i1, i2⟩ := I _ (h1 (.inl k)) 0 (by decide) (by decide)
  simp only [k, if_true, ic_, show (0 : Int) ≤ 100 by omega, show (0 : Int) ≤ 101 by omega, show (0 : Int) ≤ 102 by omega, show ¬ (0 : Int) ≤ -1 by omega, if_false]
  simp only [List.nodup_cons, List.mem_cons]
  exact ⟨fun h => by rcases h with h | h | h; omega; omega; have := i2 _ h; omega, fun h => by rcases h with h | h; omega; have := i2 _ h; omega, fun h => by have := i2 _ h; omega, i1⟩
 ·obtain ⟨i1, i2⟩ := I _ (h1 (.inr (.inl k))) 0 (by decide) (by decide)
  simp only [k, if_true, show ¬ (2 : Int) = 1 by omega, if_false, ic_, show (0 : Int) ≤ 103 by omega, List.nodup_cons]
  exact ⟨fun h => by have := i2 _ h; omega, i1⟩
 ·have he := h1 (.inr (.inr k))
  have hc := kl_ he
  obtain ⟨i1, i2⟩ := I _ he 0 (by decide) (by decide)
  obtain ⟨j1, j2⟩ := I _ (h2 k) (cnt s.expr) (by omega) (by omega)
  rw [if_neg (by omega), if_neg (by omega), if_pos k]
  have e1 : ids ((ds_, 100) :: src s.expr 0 0 ++ [(bv_, 103)] ++ src s.thn 0 (cnt s.expr)) = 100 :: (ids (src s.expr 0 0) ++ 103 :: ids (src s.thn 0 (cnt s.expr))) := by
   simp [oa_, ic_, zs_]
  rw [e1]
  refine List.nodup_cons.2 ⟨fun h => ?_, List.nodup_append.2 ⟨i1, List.nodup_cons.2 ⟨fun h => by have := j2 _ h; omega, j1⟩, fun a ha b hb => ?_⟩⟩
  ·rcases List.mem_append.1 h with h | h
   ·have := i2 _ h; omega
   ·rcases List.mem_cons.1 h with h | h
    ·omega
    ·have := j2 _ h; omega
  ·have q := i2 a ha
   rcases List.mem_cons.1 hb with rfl | hb
   ·omega
   ·have := j2 b hb; omega
def f0_ (s : Sl) : List Int := (ek_ (bof s)).map fun w => if w.2 < 0 then -1 else fw_ 0 (du_ s) w.2
theorem Ltr.len {L : Wd} : ∀ {B C : Wd}, Ltr L B C → C.length = B.length
 | [], [], _ => rfl
 | [], _ :: _, h => by simp [Ltr] at h
 | _ :: _, [], h => by simp [Ltr] at h
 | w :: B, c :: C, h => by
  simp only [Ltr] at h
  simp only [T7_, h.2.2.len]
theorem Ltr.get {L : Wd} : ∀ {B C : Wd}, Ltr L B C → ∀ {j : Nat} {w : Str × Int}, B[j]? = some w → ∃ c, C[j]? = some c ∧ c.1 = w.1 ∧ ((w.2 = -1 ∧ c.2 = -1 ∧ (w.1 = [40] ∨ w.1 = [41] ∨ w.1 = hk_)) ∨ (0 ≤ w.2 ∧ 0 ≤ c.2 ∧ ∃ u, L[c.2.toNat]? = some u ∧ u.2 = w.2 ∧ (u.1 = w.1 ∨ (u.1 = bv_ ∧ w.1 = e6_) ∨ (u.1 = ds_ ∧ w.1 = wIf))))
 | [], [], _, j, w, hw => by simp at hw
 | [], _ :: _, h, _, _, _ => by simp [Ltr] at h
 | _ :: _, [], h, _, _, _ => by simp [Ltr] at h
 | v :: B, c :: C, h, j, w, hw => by
  simp only [Ltr] at h
  cases j with
  | zero =>
   simp only [List.getElem?_cons_zero, Option.some.injEq] at hw; subst hw
   exact ⟨c, rfl, h.1, h.2.1⟩
  | succ j =>
   simp only [List.getElem?_cons_succ] at hw ⊢
   exact h.2.2.get hw
theorem so_ {s : Sl} (h : cz_ s = true) : jn_ s = f0_ s := by
 have T := pe_ h
 have hn := vm_ h
 have hm := nx_ h
 unfold jn_ f0_
 apply List.ext_getElem?
 intro j
 rw [List.getElem?_map, List.getElem?_map]
 cases hj : (ek_ (bof s))[j]? with
 | none =>
  have : (l8L s)[j]? = none := List.getElem?_eq_none (by rw [T.len]; exact List.getElem?_eq_none_iff.1 hj)
  rw [this]; rfl
 | some w =>
  obtain ⟨c, c1, c2, c3⟩ := T.get hj
  rw [c1]
  simp only [Option.map_some, Option.some.injEq]
  rcases c3 with ⟨q1, q2, _⟩ | ⟨q1, q2, u, q3, q4, _⟩
  ·rw [if_pos (by omega), if_pos (by omega)]
  ·rw [if_neg (by omega), if_neg (by omega)]
   have := l3_ 0 hn q3 (by omega)
   rw [hm, q4] at this
   rw [T8_, this]; rfl
theorem aiw_ {s : Sl} (h : cz_ s = true) {w : Str × Int} (hw : w ∈ ek_ (bof s)) (h0 : 0 ≤ w.2) : w.2 ∈ ids (du_ s) := by
 obtain ⟨j, hj⟩ := List.mem_iff_getElem?.1 hw
 obtain ⟨c, _, _, c3⟩ := (pe_ h).get hj
 rcases c3 with ⟨q1, _⟩ | ⟨_, _, u, q3, q4, _⟩
 ·omega
 ·exact tq_.2 ⟨List.mem_map.2 ⟨u, List.mem_of_getElem? q3, q4⟩, h0⟩
theorem ai4_ {s : Sl} (h : cz_ s = true) : ∀ p ∈ l8L s, p.2 < ((sw' s).length : Int) := fun p hp => by
 have T := pe_ h
 obtain ⟨j, hj⟩ := List.mem_iff_getElem?.1 hp
 have hl := (List.getElem?_eq_some_iff.1 hj).1
 rw [T.len] at hl
 obtain ⟨c, c1, _, c3⟩ := T.get (T6_ hl)
 rw [hj] at c1; cases c1
 rcases c3 with ⟨_, q2, _⟩ | ⟨_, q2, u, q3, _⟩
 ·omega
 ·have := (List.getElem?_eq_some_iff.1 q3).1
  have e : (du_ s).length = (sw' s).length := by rw [← nx_ h, List.length_map]
  omega
end
section
set_option maxRecDepth 100000
set_option maxHeartbeats 4000000
def emT (s : Sl) : Str := if sok s then b1_ (bw (bof s)) else []
def emF (s : Sl) : List Int := if sok s then f0_ s else []
theorem aca_ {s : Sl} (h : cz_ s = true) : wid (sw' s) ≤ 1000 := by
 have := l8_ h
 have h2 := w1_ (fun s hs => (this.2 s hs).2)
 rw [x9_]; omega
theorem f8_ (s : Sl) : (jn_ s).length = (l8L s).length := by simp [jn_]
theorem rf_ {s : Sl} {k : Nat} (h : k < (l8L s).length) : (jn_ s).getD k 0 = if ((l8L s).getD k ([], 0)).2 < 0 then -1 else (cv_ 0 (sw' s)).getD ((l8L s).getD k ([], 0)).2.toNat 0 := by
 simp [jn_, T8_, T6_ h]
theorem vx_ {l : List Int} {k : Nat} (h : k < l.length) : inR (l.take (k + 1)) = inR (l.take k) ++ [[.i .i64 (l.getD k 0)]] := by
 rw [List.take_add_one, T6_ h, yc_, T8_, T6_ h]; rfl
theorem qs_ {l : List Str} {k : Nat} (h : k < l.length) : bm_ (l.take (k + 1)) = bm_ (l.take k) ++ [[.s (l.getD k [])]] := by
 rw [List.take_add_one, T6_ h, pg_, T8_, T6_ h]; rfl
theorem adt_ {l : Wd} {k : Nat} (h : k < l.length) : (l.map (·.1)).getD k [] = (l.getD k ([], 0)).1 := by
 simp [T8_, T6_ h]
theorem ui_ (s : Sl) (hs : ez_ s = true) : ACall En 77 [.ag (sC s)] [] [.s (emT s), .sl false (inR (emF s))] [] := by
 have L : sok s = true → (l8L s).length ≤ 76 := fun h => by have := (px_ (hg_ (do_ h))).1; have := (gy_ (do_ h)).1; omega
 have hm : sok s = true → (l8L s).map (·.1) = bw (bof s) := fun h => (gy_ (do_ h)).2
 refine al_ (fn := Tryz.f77) [] Tryz.func77 rfl rfl (by simp) fun C => ?_
 rw [av_]
 simp only [Tryz.ntmps77, T7_, List.length_nil, Nat.reduceAdd, Nat.reduceSub, List.replicate_succ, List.replicate_zero, List.cons_append, List.nil_append, bt_]
 refine .seq (.rgn [] (by simp only [go_sem, seval, aj_, ah_, ae_, ab_, aa_, an_, ac_, a5_]; rfl) ?_ ?_)
 ·(first | trivial | (simp; done) | (simp at h23; simp; omega))
 refine .seq (.seq (.rgn [a3_ (mm_ s hs)] (by simp only [go_sem, seval, aj_, ah_, ae_, ab_, aa_, an_, ac_, a5_]; rfl) ?_ ?_))
 ·(first | trivial | (simp; done) | (simp at h23; simp; omega))
 refine .condB (by simp only [go_sem, seval, aj_, ah_, ae_, ab_, aa_, an_, ac_, a5_]; rfl) (by simp only [go_sem, seval, aj_, ah_, ae_, ab_, aa_, an_, ac_, a5_]) (fun h11 => ?_) (fun h11 => ?_)
 ·refine .seq (.rgn [] (by simp only [go_sem, seval, aj_, ah_, ae_, ab_, aa_, an_, ac_, a5_]; rfl) ?_ ?_)
  ·(first | trivial | (simp; done) | (simp at h23; simp; omega))
  refine .ret ⟨.inr rfl, ?_⟩
  exact Out.plainL (by simp only [Tryz.results77]; rfl) (by simp only [ax_, a6_, go_sem, seval, aj_, ah_, ae_, ab_, aa_, an_, ac_, a5_] <;> (split <;> rfl)) (by simp only [a4_, go_sem, seval, aj_, ah_, ae_, ab_, aa_, an_, ac_, a5_] <;> (simp at h11; simp [emT, emF, h11, inR, ler])) (by simp only [go_sem, seval, aj_, ah_, ae_, ab_, aa_, an_, ac_, a5_])
 ·refine .skip (.seq (.rgn [cm_ (sok s = true) (fun h => ae3_ s (do_ h) hs)] (by simp only [go_sem, seval, aj_, ah_, ae_, ab_, aa_, an_, ac_, a5_]; rfl) ?_ ?_))
  ·simpa using h11
  refine .seq (.rgn [cm_ (sok s = true) (fun h => ii_ s (do_ h) hs), cm_ (sok s = true) (fun h => aer_ (sw' s) (by have := (l8_ (do_ h)).1; omega) (by have := aca_ (do_ h); omega))] (by simp only [go_sem, seval, aj_, ah_, ae_, ab_, aa_, an_, ac_, a5_]; rfl) ?_ ?_)
  ·simpa using h11
  refine .seq (.rgn [] (by simp only [go_sem, seval, aj_, ah_, ae_, ab_, aa_, an_, ac_, a5_]; rfl) ?_ ?_)
  ·(first | trivial | (simp; done) | (simp at h23; simp; omega))
  refine .seq (.rgn [] (by simp only [go_sem, seval, aj_, ah_, ae_, ab_, aa_, an_, ac_, a5_]; rfl) ?_ ?_)
  ·(first | trivial | (simp; done) | (simp at h23; simp; omega))
  refine .seq (.seq (.rgn [] (by simp only [go_sem, seval, aj_, ah_, ae_, ab_, aa_, an_, ac_, a5_]; rfl) ?_ ?_))
  ·(first | trivial | (simp; done) | (simp at h23; simp; omega))
  refine .block (.loopK (fun k : Nat => ⟨[.no, .no, .no, .no, .sl false (wdR (l8L s)), .sl false (inR (cv_ 0 (sw' s))), .ow 60 1 0 k, .ow 61 1 0 k, .i .i64 k, .no, .no, .no, .no, .no, .no, .no, .no, .no, .no, .no, .no, .no, .no, .no, .no, .no, .no, .no, .no, .no, .no, .no, .no, .no, .no, .no, .no, .no, .no, .no, .no, .no, .no, .no, .no, .no, .no, .no, .no, .no, .no, .no, .no, .no, .no, .no, .no], be_ [(60, ⟨9, 1, bm_ ((bw (bof s)).take k)⟩), (61, ⟨3, 1, inR ((jn_ s).take k)⟩)], us [60, 61]⟩) (fun k : Nat => k ≤ (l8L s).length ∧ sok s = true) (fun k : Nat => (l8L s).length - k) (0) ?_ ?_ (fun k hI => ?_))
  ·exact ⟨by simp, by simpa using h11⟩
  ·refine Can.trans (Can.ownSlot 6 60 9 1 (by simp only [go_sem, seval, aj_, ah_, ae_, ab_, aa_, an_, ac_, a5_] <;> rfl) (by simp only [go_sem, seval, aj_, ah_, ae_, ab_, aa_, an_, ac_, a5_]) (by simp only [go_sem, seval, aj_, ah_, ae_, ab_, aa_, an_, ac_, a5_] <;> rfl)) ?_
   refine Can.trans (Can.ownSlot 7 61 3 1 (by simp only [go_sem, seval, aj_, ah_, ae_, ab_, aa_, an_, ac_, a5_] <;> rfl) (by simp only [go_sem, seval, aj_, ah_, ae_, ab_, aa_, an_, ac_, a5_]) (by simp only [go_sem, seval, aj_, ah_, ae_, ab_, aa_, an_, ac_, a5_] <;> rfl)) ?_
   exact Can.weak (Weak.lit (by simp only [go_sem, seval, aj_, ah_, ae_, ab_, aa_, an_, ac_, a5_, as_, leV, aq_, ar_, V.inn, us, T9_, Ta_] <;> (simp)) (by simp only [go_sem, seval, aj_, ah_, ae_, ab_, aa_, an_, ac_, a5_, as_, leV, aq_, ar_, V.inn, us, T9_, Ta_]) (by simp only [go_sem, seval, aj_, ah_, ae_, ab_, aa_, an_, ac_, a5_, as_, leV, aq_, ar_, V.inn, us, T9_, Ta_] <;> (simp [bm_, inR])))
  refine .seq (.seq (.rgn [] (by simp only [go_sem, seval, aj_, ah_, ae_, ab_, aa_, an_, ac_, a5_]; rfl) ?_ ?_))
  ·(first | trivial | (simp; done) | (simp at h23; simp; omega))
  refine .condB (by simp only [go_sem, seval, aj_, ah_, ae_, ab_, aa_, an_, ac_, a5_]; rfl) (by simp only [go_sem, seval, aj_, ah_, ae_, ab_, aa_, an_, ac_, a5_]) (fun h23 => ?_) (fun h23 => ?_)
  ·refine .skip (.seqJ (fun u : Unit => ⟨[.no, .no, .no, .no, .sl false (wdR (l8L s)), .sl false (inR (cv_ 0 (sw' s))), .ow 43 1 0 (k + 1), .ow 61 1 0 (k + 1), .i .i64 k, .no, .no, .no, .no, .no, .no, .no, .no, .no, .no, .no, .no, .no, .no, .no, .no, .no, .no, .no, .no, .no, .no, .no, .no, .no, .no, .no, .no, .no, .no, .no, .no, .no, .no, .no, .no, .no, .no, .no, .no, .no, .no, .no, .no, .no, .no, .no, .no], be_ [(43, ⟨9, 1, bm_ ((bw (bof s)).take (k + 1))⟩), (61, ⟨3, 1, inR ((jn_ s).take (k + 1))⟩)], us [43, 61]⟩) (fun u : Unit => True) ?_ (fun u hJ => ?_))
   ·refine .block (.seq (.rgn [] (by simp only [go_sem, seval, aj_, ah_, ae_, ab_, aa_, an_, ac_, a5_, hx_ (show k < (l8L s).length by simpa using h23)]; rfl) ?_ ?_))
    ·simp only [T3_] at h23; have q := L hI.2; have q2 := (gy_ (do_ hI.2)).1; simp; omega
    refine .seq (.rgn [] (by simp only [go_sem, seval, aj_, ah_, ae_, ab_, aa_, an_, ac_, a5_, hx_ (show k < (l8L s).length by simpa using h23)]; rfl) ?_ ?_)
    ·(first | trivial | (simp; done) | (simp at h23; simp; omega))
    refine .condB (by simp only [go_sem, seval, aj_, ah_, ae_, ab_, aa_, an_, ac_, a5_]; rfl) (by simp only [go_sem, seval, aj_, ah_, ae_, ab_, aa_, an_, ac_, a5_]) (fun h39 => ?_) (fun h39 => ?_)
    ·refine .rgn [] (by simp only [go_sem, seval, aj_, ah_, ae_, ab_, aa_, an_, ac_, a5_]; rfl) ?_ ?_
     ·simp only [T3_] at h23; have q := L hI.2; have q2 := f8_ s; simp; omega
     refine Exists.intro (()) ⟨?_, ?_⟩
     ·trivial
     refine Can.trans (Can.swap 52 61 (by decide) (by decide) (by decide) (by decide) (by simp only [go_sem, seval, aj_, ah_, ae_, ab_, aa_, an_, ac_, a5_, V.cl]) (by simp only [go_sem, seval, aj_, ah_, ae_, ab_, aa_, an_, ac_, a5_, V.cl]) (by simp only [go_sem, seval, aj_, ah_, ae_, ab_, aa_, an_, ac_, a5_, bq_, sw, swM, rnB] <;> rfl) (by simp only [go_sem, seval, aj_, ah_, ae_, ab_, aa_, an_, ac_, a5_, bq_, sw, swM, rnB] <;> rfl) (by simp only [go_sem, seval, aj_, ah_, ae_, ab_, aa_, an_, ac_, a5_, bq_, sw, swM, rnB] <;> rfl)) ?_
     exact Can.weak (Weak.lit (by simp only [go_sem, seval, aj_, ah_, ae_, ab_, aa_, an_, ac_, a5_, as_, leV, aq_, ar_, V.inn, us, T9_, Ta_] <;> (simp)) (by simp only [go_sem, seval, aj_, ah_, ae_, ab_, aa_, an_, ac_, a5_, as_, leV, aq_, ar_, V.inn, us, T9_, Ta_]) (by simp only [go_sem, seval, aj_, ah_, ae_, ab_, aa_, an_, ac_, a5_, as_, leV, aq_, ar_, V.inn, us, T9_, Ta_] <;> ((simp only [T3_] at h23); (have q2 := (gy_ (do_ hI.2)).1); rw [qs_ (show k < (bw (bof s)).length by omega), vx_ (show k < (jn_ s).length by rw [f8_]; omega), rf_ (show k < (l8L s).length by omega), ← hm hI.2, adt_ (show k < (l8L s).length by omega)]; (first | (simp only [T3_] at h39; rw [if_pos h39]; simp; done) | (simp only [T4_] at h39; rw [if_neg h39]; simp; done) | trace_state))))
    ·refine .rgn [] (by simp only [go_sem, seval, aj_, ah_, ae_, ab_, aa_, an_, ac_, a5_, hx_ (show k < (l8L s).length by simpa using h23), fy_ (show ((l8L s).getD k ([], 0)).2.toNat < (cv_ 0 (sw' s)).length by have := ai4_ (do_ hI.2) _ (bp_ (d := ([], 0)) (show k < (l8L s).length by simpa using h23)); simp only [T4_] at h39; rw [a5_]; omega)]; rfl) ?_ ?_
     ·simp only [T3_] at h23; simp only [T4_] at h39; have q := L hI.2; have q2 := f8_ s; have q3 := ai4_ (do_ hI.2) _ (bp_ (d := ([], 0)) (show k < (l8L s).length by omega)); simp [-List.getD_eq_getElem?_getD]; omega
     refine Exists.intro (()) ⟨?_, ?_⟩
     ·trivial
     refine Can.trans (Can.swap 63 61 (by decide) (by decide) (by decide) (by decide) (by simp only [go_sem, seval, aj_, ah_, ae_, ab_, aa_, an_, ac_, a5_, V.cl]) (by simp only [go_sem, seval, aj_, ah_, ae_, ab_, aa_, an_, ac_, a5_, V.cl]) (by simp only [go_sem, seval, aj_, ah_, ae_, ab_, aa_, an_, ac_, a5_, bq_, sw, swM, rnB] <;> rfl) (by simp only [go_sem, seval, aj_, ah_, ae_, ab_, aa_, an_, ac_, a5_, bq_, sw, swM, rnB] <;> rfl) (by simp only [go_sem, seval, aj_, ah_, ae_, ab_, aa_, an_, ac_, a5_, bq_, sw, swM, rnB] <;> rfl)) ?_
     exact Can.weak (Weak.lit (by simp only [go_sem, seval, aj_, ah_, ae_, ab_, aa_, an_, ac_, a5_, as_, leV, aq_, ar_, V.inn, us, T9_, Ta_] <;> (simp)) (by simp only [go_sem, seval, aj_, ah_, ae_, ab_, aa_, an_, ac_, a5_, as_, leV, aq_, ar_, V.inn, us, T9_, Ta_]) (by simp only [go_sem, seval, aj_, ah_, ae_, ab_, aa_, an_, ac_, a5_, as_, leV, aq_, ar_, V.inn, us, T9_, Ta_] <;> ((simp only [T3_] at h23); (have q2 := (gy_ (do_ hI.2)).1); rw [qs_ (show k < (bw (bof s)).length by omega), vx_ (show k < (jn_ s).length by rw [f8_]; omega), rf_ (show k < (l8L s).length by omega), ← hm hI.2, adt_ (show k < (l8L s).length by omega)]; (first | (simp only [T3_] at h39; rw [if_pos h39]; simp; done) | (simp only [T4_] at h39; rw [if_neg h39]; simp; done) | trace_state))))
   refine .rgn [] (by simp only [go_sem, seval, aj_, ah_, ae_, ab_, aa_, an_, ac_, a5_]; rfl) ?_ ?_
   ·(first | trivial | (simp; done) | (simp at h23; simp; omega))
   refine Exists.intro (k + 1) ⟨?_, ?_, ?_⟩
   ·simp at h23; exact ⟨by omega, hI.2⟩
   ·simp at h23; omega
   refine Can.trans (Can.swap 43 60 (by decide) (by decide) (by decide) (by decide) (by simp only [go_sem, seval, aj_, ah_, ae_, ab_, aa_, an_, ac_, a5_, V.cl]) (by simp only [go_sem, seval, aj_, ah_, ae_, ab_, aa_, an_, ac_, a5_, V.cl]) (by simp only [go_sem, seval, aj_, ah_, ae_, ab_, aa_, an_, ac_, a5_, bq_, sw, swM, rnB] <;> rfl) (by simp only [go_sem, seval, aj_, ah_, ae_, ab_, aa_, an_, ac_, a5_, bq_, sw, swM, rnB] <;> rfl) (by simp only [go_sem, seval, aj_, ah_, ae_, ab_, aa_, an_, ac_, a5_, bq_, sw, swM, rnB] <;> rfl)) ?_
   exact Can.weak (Weak.lit (by simp only [go_sem, seval, aj_, ah_, ae_, ab_, aa_, an_, ac_, a5_, as_, leV, aq_, ar_, V.inn, us, T9_, Ta_] <;> ((have q := L hI.2); rw [bd_ (by simp at h23; omega) (by simp at h23; omega)]; simp)) (by simp only [go_sem, seval, aj_, ah_, ae_, ab_, aa_, an_, ac_, a5_, as_, leV, aq_, ar_, V.inn, us, T9_, Ta_]) (by simp only [go_sem, seval, aj_, ah_, ae_, ab_, aa_, an_, ac_, a5_, as_, leV, aq_, ar_, V.inn, us, T9_, Ta_]))
  ·refine .exit (.seq (.rgn [mw_ (sok s = true) (fun h => he_ (bw (bof s)) (by have := (px_ (hg_ (do_ h))).1; omega) (by have := yd_ (hg_ (do_ h)); omega))] (by simp only [go_sem, seval, aj_, ah_, ae_, ab_, aa_, an_, ac_, a5_]; rfl) ?_ ?_))
   ·simp only [T4_] at h23; have q2 := (gy_ (do_ hI.2)).1; obtain rfl : k = (bw (bof s)).length := (by omega); refine ⟨?_, hI.2⟩; rw [T1_ (Nat.le_refl _), if_pos (Nat.le_refl _), T1_ (by rw [ab_]; exact Nat.le_refl _)]; exact hj_ _
   refine .frz 61 (by simp only [go_sem, seval, aj_, ah_, ae_, ab_, aa_, an_, ac_, a5_]; rfl) (by simp only [go_sem, seval, aj_, ah_, ae_, ab_, aa_, an_, ac_, a5_]) (by simp only [go_sem, seval, aj_, ah_, ae_, ab_, aa_, an_, ac_, a5_]; rfl) (by simp only [go_sem, seval, aj_, ah_, ae_, ab_, aa_, an_, ac_, a5_]; rfl) ?_
   refine .ret ⟨.inr rfl, ?_⟩
   exact Out.plainL (by simp only [Tryz.results77]; rfl) (by simp only [ax_, a6_, go_sem, seval, aj_, ah_, ae_, ab_, aa_, an_, ac_, a5_] <;> (split <;> rfl)) (by simp only [a4_, go_sem, seval, aj_, ah_, ae_, ab_, aa_, an_, ac_, a5_] <;> (simp at h11; simp only [T4_] at h23; have q2 := (gy_ (do_ hI.2)).1; have q3 := f8_ s; obtain rfl : k = (jn_ s).length := (by omega); rw [T1_ (Nat.le_refl _), if_pos (Nat.le_refl _), T1_ (by rw [an_]; exact Nat.le_refl _), so_ (do_ hI.2)]; simp [emT, emF, h11, peel, a8_, hj_])) (by simp only [go_sem, seval, aj_, ah_, ae_, ab_, aa_, an_, ac_, a5_])
theorem aez_ : En.P.underlying 102 = some (.map 3 3) := Tryz.underlying102
theorem acc_ : En.P.underlying 3 = some (.int .i64) := Tryz.underlying3
theorem ac6_ {s : Sl} (h : cz_ s = true) : (du_ s).length ≤ 76 ∧ gn_ (du_ s) ≤ 1000 := by
 have h1 := (l8_ h).1
 have h2 := aca_ h
 rw [← nx_ h] at h1 h2
 exact ⟨by simpa using h1, by unfold gn_; omega⟩
theorem ac1_ {b : Bl} (h : kg_ b = true) : (ek_ b).length ≤ 76 := by
 have h1 := (px_ h).1
 rw [← zv_ h] at h1
 simpa using h1
theorem aal_ (s : Sl) : (f0_ s).length = (ek_ (bof s)).length := by simp [f0_]
theorem q7_ {s : Sl} {k : Nat} (h : k < (ek_ (bof s)).length) : (f0_ s).getD k 0 = if ((ek_ (bof s)).getD k ([], 0)).2 < 0 then -1 else fw_ 0 (du_ s) ((ek_ (bof s)).getD k ([], 0)).2 := by
 simp [f0_, T8_, T6_ h]
theorem n2_ {l : List Int} {k : Nat} (h : k < l.length) (z : List V) {r : List V} (hr : r = [.i .i64 (l.getD k 0)]) : (es_ (inR l) z k).set k r = es_ (inR l) z (k + 1) := by
 rw [hr, ← fy_ h]; exact g8_ (by rw [an_]; exact h)
theorem aiv_ {s : Sl} (h : cz_ s = true) {k : Nat} (hk : k < (ek_ (bof s)).length) (h0 : 0 ≤ ((ek_ (bof s)).getD k ([], 0)).2) : jk_ (nr_ (du_ s) (du_ s).length) ((ek_ (bof s)).getD k ([], 0)).2 = some (fw_ 0 (du_ s) ((ek_ (bof s)).getD k ([], 0)).2) :=
 ae6_ (vm_ h) (aiw_ h (bp_ hk) h0)
theorem ajs_ (s : Sl) (h : cz_ s = true) (hs : ez_ s = true) : ACall En 57 [.ag (sC s)] [] [.s (b1_ (bw (bof s))), .ow 0 1 0 (f0_ s).length] [⟨3, 1, inR (f0_ s)⟩] := by
 obtain ⟨l1, l2⟩ := ac6_ h
 have hb := hg_ h
 have hsb := aii_ hs
 have l3 := ac1_ hb
 have W := vt_ s h hs
 have Cl := z8_ (du_ s) (by omega) (by omega)
 have Bo := aeq_ s hs (y3_ h).1 (y3_ h).2
 have Bw := u8_ (bof s) hb hsb
 have Bt := ahd_ (bof s) hb hsb
 have hfl := aal_ s
 have hll : (inR (f0_ s)).length = (ek_ (bof s)).length := by rw [an_, hfl]
 have hp : ∀ k, ch_ (es_ (inR (f0_ s)) [.i .i64 0] k) = true := fun k => gz_ (ac_ _) rfl
 have hd1 : ∀ k j, ((es_ (inR (f0_ s)) [.i .i64 0] k).getD j []).drop 1 = [] := wc_ _ _ (fun r hr => zd_ hr) rfl
 have hcl : (cv_ 0 ((du_ s).map (·.1))).length = (du_ s).length := by rw [a5_, List.length_map]
 refine al_ (fn := Tryz.f57) [46] Tryz.func57 rfl rfl (by simp) fun C => ?_
 rw [av_]
 simp only [Tryz.ntmps57, T7_, List.length_nil, Nat.reduceAdd, Nat.reduceSub, List.replicate_succ, List.replicate_zero, List.cons_append, List.nil_append, bt_]
 refine .seq (.rgn [] (by simp only [go_sem, seval, aj_, bo_, ah_, ae_, an_, ac_, hcl, hll, hp, hd1, at_, ak_]; rfl) ?_ ?_)
 ·first | trivial | simp
 refine .seq (.rgnS [12] [ai6_ En 70] (by simp only [go_sem, seval, aj_, bo_, ah_, ae_, an_, ac_, hcl, hll, hp, hd1, at_, ak_]; rfl) ?_ ?_)
 ·first | trivial | simp
 refine .seq (.rgn [a3_ W] (by simp only [go_sem, seval, aj_, bo_, ah_, ae_, an_, ac_, hcl, hll, hp, hd1, at_, ak_]; rfl) ?_ ?_)
 ·first | trivial | simp
 refine .seq (.seq (.rgn [a3_ Cl] (by simp only [go_sem, seval, aj_, bo_, ah_, ae_, an_, ac_, hcl, hll, hp, hd1, at_, ak_]; rfl) ?_ ?_))
 ·first | trivial | simp
 refine .block (.loopK (fun k : Nat => ⟨[.no, .pt 11 11 0 0, .no, .no, .pt 70 0 0 0, .sl false (wdR (du_ s)), .no, .no, .no, .no, .no, .no, .no, .no, .no, .no, .sl false (inR (cv_ 0 ((du_ s).map (·.1)))), .i .i64 (du_ s).length, .i .i64 k, .no, .no, .no, .no, .no, .no, .no, .no, .no, .no, .no, .no, .no, .no, .no, .no, .no, .no, .no, .no, .no, .no, .no, .no, .no, .no, .no, .no, .no, .no, .no, .no, .no, .no, .no, .no, .no, .no, .no, .no, .no, .no, .no], be_ [(11, ⟨66, 11, [sC s]⟩), (70, ⟨0, 0, mR (nr_ (du_ s) k)⟩)], us [11, 70]⟩) (fun k : Nat => k ≤ (du_ s).length) (fun k : Nat => (du_ s).length - k) (0) ?_ ?_ (fun k hI => ?_))
 ·simp
 ·exact Can.weak (Weak.lit (by simp only [go_sem, seval, aj_, bo_, ah_, ae_, an_, ac_, hcl, hll, hp, hd1, at_, ak_, as_, leV, aq_, ar_, V.inn, us, T9_, Ta_] <;> (simp)) (by simp only [go_sem, seval, aj_, bo_, ah_, ae_, an_, ac_, hcl, hll, hp, hd1, at_, ak_, as_, leV, aq_, ar_, V.inn, us, T9_, Ta_]) (by simp only [go_sem, seval, aj_, bo_, ah_, ae_, an_, ac_, hcl, hll, hp, hd1, at_, ak_, as_, leV, aq_, ar_, V.inn, us, T9_, Ta_] <;> (simp [abh_, mR, aj_])))
 refine .seq (.rgn [] (by simp only [go_sem, seval, aj_, bo_, ah_, ae_, an_, ac_, hcl, hll, hp, hd1, at_, ak_]; rfl) ?_ ?_)
 ·first | trivial | simp
 refine .seq (.condB (by simp only [go_sem, seval, aj_, bo_, ah_, ae_, an_, ac_, hcl, hll, hp, hd1, at_, ak_]; rfl) (by simp only [go_sem, seval, aj_, bo_, ah_, ae_, an_, ac_, hcl, hll, hp, hd1, at_, ak_]) (fun h19 => ?_) (fun h19 => ?_))
 ·refine .skip (.seq (.block (.seq (.rgn [] (by simp only [go_sem, seval, aj_, bo_, ah_, ae_, an_, ac_, hcl, hll, hp, hd1, at_, ak_, fy_ (show k < (cv_ 0 ((du_ s).map (·.1))).length by rw [hcl]; simpa using h19)]; rfl) ?_ ?_))))
  ·simp only [T3_] at h19; omega
  refine .rgnS [0] [ajg_ En 70 (nr_ (du_ s) k) 102 3 3 ((du_ s).getD k ([], 0)).2 ((cv_ 0 ((du_ s).map (·.1))).getD k 0) aez_ acc_] (by simp only [go_sem, seval, aj_, bo_, ah_, ae_, an_, ac_, hcl, hll, hp, hd1, at_, ak_, hx_ (show k < (du_ s).length by simpa using h19)]; rfl) ?_ ?_
  ·simp only [T3_] at h19; omega
  refine .rgn [] (by simp only [go_sem, seval, aj_, bo_, ah_, ae_, an_, ac_, hcl, hll, hp, hd1, at_, ak_]; rfl) ?_ ?_
  ·first | trivial | simp
  refine Exists.intro (k + 1) ⟨?_, ?_, ?_⟩
  ·simp at h19; omega
  ·simp at h19; omega
  exact Can.weak (Weak.lit (by simp only [go_sem, seval, aj_, bo_, ah_, ae_, an_, ac_, hcl, hll, hp, hd1, at_, ak_, as_, leV, aq_, ar_, V.inn, us, T9_, Ta_] <;> (rw [bd_ (by simp at h19; omega) (by simp at h19; omega)]; simp)) (by simp only [go_sem, seval, aj_, bo_, ah_, ae_, an_, ac_, hcl, hll, hp, hd1, at_, ak_, as_, leV, aq_, ar_, V.inn, us, T9_, Ta_]) (by simp only [go_sem, seval, aj_, bo_, ah_, ae_, an_, ac_, hcl, hll, hp, hd1, at_, ak_, as_, leV, aq_, ar_, V.inn, us, T9_, Ta_] <;> (rw [abc_ (show k < (du_ s).length by simpa using h19)])))
 ·refine .exit (.seq (.rgn [a3_ Bo, a3_ Bw] (by simp only [go_sem, seval, aj_, bo_, ah_, ae_, an_, ac_, hcl, hll, hp, hd1, at_, ak_]; rfl) ?_ ?_))
  ·first | trivial | simp
  refine .seq (.rgn [] (by simp only [go_sem, seval, aj_, bo_, ah_, ae_, an_, ac_, hcl, hll, hp, hd1, at_, ak_]; rfl) ?_ ?_)
  ·omega
  refine .seq (.seq (.rgn [] (by simp only [go_sem, seval, aj_, bo_, ah_, ae_, an_, ac_, hcl, hll, hp, hd1, at_, ak_]; rfl) ?_ ?_))
  ·first | trivial | simp
  refine .block (.loopK (fun k : Nat => ⟨[.no, .pt 11 11 0 0, .no, .no, .pt 70 0 0 0, .no, .no, .no, .no, .ow 46 1 0 (ek_ (bof s)).length, .no, .no, .no, .no, .no, .no, .no, .no, .no, .no, .no, .no, .no, .no, .no, .no, .no, .no, .no, .no, .no, .no, .no, .no, .no, .no, .no, .sl false (wdR (ek_ (bof s))), .i .i64 (ek_ (bof s)).length, .i .i64 k, .no, .no, .no, .no, .no, .no, .no, .no, .no, .no, .no, .no, .no, .no, .no, .no, .no, .no, .no, .no, .no, .no], be_ [(11, ⟨66, 11, [sC s]⟩), (70, ⟨0, 0, mR (nr_ (du_ s) (du_ s).length)⟩), (46, ⟨3, 1, es_ (inR (f0_ s)) [.i .i64 0] k⟩)], us [11, 46, 70]⟩) (fun k : Nat => k ≤ (ek_ (bof s)).length) (fun k : Nat => (ek_ (bof s)).length - k) (0) ?_ ?_ (fun k hI => ?_))
  ·simp
  ·exact Can.weak (Weak.lit (by simp only [go_sem, seval, aj_, bo_, ah_, ae_, an_, ac_, hcl, hll, hp, hd1, at_, ak_, as_, leV, aq_, ar_, V.inn, us, T9_, Ta_] <;> (simp)) (by simp only [go_sem, seval, aj_, bo_, ah_, ae_, an_, ac_, hcl, hll, hp, hd1, at_, ak_, as_, leV, aq_, ar_, V.inn, us, T9_, Ta_]) (by simp only [go_sem, seval, aj_, bo_, ah_, ae_, an_, ac_, hcl, hll, hp, hd1, at_, ak_, as_, leV, aq_, ar_, V.inn, us, T9_, Ta_] <;> ((simp only [T4_] at h19); (obtain rfl : k = (du_ s).length := (by omega)); simp [g1_, hll])))
  refine .seq (.rgn [] (by simp only [go_sem, seval, aj_, bo_, ah_, ae_, an_, ac_, hcl, hll, hp, hd1, at_, ak_]; rfl) ?_ ?_)
  ·first | trivial | simp
  refine .seq (.condB (by simp only [go_sem, seval, aj_, bo_, ah_, ae_, an_, ac_, hcl, hll, hp, hd1, at_, ak_]; rfl) (by simp only [go_sem, seval, aj_, bo_, ah_, ae_, an_, ac_, hcl, hll, hp, hd1, at_, ak_]) (fun h40 => ?_) (fun h40 => ?_))
  ·refine .skip (.seqJ (fun u : Unit => ⟨[.no, .pt 11 11 0 0, .no, .no, .pt 70 0 0 0, .no, .no, .no, .no, .ow 46 1 0 (ek_ (bof s)).length, .no, .no, .no, .no, .no, .no, .no, .no, .no, .no, .no, .no, .no, .no, .no, .no, .no, .no, .no, .no, .no, .no, .no, .no, .no, .no, .no, .sl false (wdR (ek_ (bof s))), .i .i64 (ek_ (bof s)).length, .i .i64 k, .no, .no, .no, .no, .no, .no, .no, .no, .no, .no, .no, .no, .no, .no, .no, .no, .no, .no, .no, .no, .no, .no], be_ [(11, ⟨66, 11, [sC s]⟩), (70, ⟨0, 0, mR (nr_ (du_ s) (du_ s).length)⟩), (46, ⟨3, 1, es_ (inR (f0_ s)) [.i .i64 0] (k + 1)⟩)], us [11, 46, 70]⟩) (fun u : Unit => True) ?_ (fun u hJ => ?_))
   ·refine .block (.seq (.rgn [] (by simp only [go_sem, seval, aj_, bo_, ah_, ae_, an_, ac_, hcl, hll, hp, hd1, at_, ak_, hx_ (show k < (ek_ (bof s)).length by simpa using h40)]; rfl) ?_ ?_))
    ·simp only [T3_] at h40; omega
    refine .seq (.rgn [] (by simp only [go_sem, seval, aj_, bo_, ah_, ae_, an_, ac_, hcl, hll, hp, hd1, at_, ak_]; rfl) ?_ ?_)
    ·simp only [T3_] at h40; omega
    refine .seq (.rgn [] (by simp only [go_sem, seval, aj_, bo_, ah_, ae_, an_, ac_, hcl, hll, hp, hd1, at_, ak_]; rfl) ?_ ?_)
    ·first | trivial | simp
    refine .condB (by simp only [go_sem, seval, aj_, bo_, ah_, ae_, an_, ac_, hcl, hll, hp, hd1, at_, ak_]; rfl) (by simp only [go_sem, seval, aj_, bo_, ah_, ae_, an_, ac_, hcl, hll, hp, hd1, at_, ak_]) (fun h49 => ?_) (fun h49 => ?_)
    ·refine .rgnS [55] [aja_ En 70 (nr_ (du_ s) (du_ s).length) 102 3 3 ((ek_ (bof s)).getD k ([], 0)).2 (fw_ 0 (du_ s) ((ek_ (bof s)).getD k ([], 0)).2) aez_ acc_] (by simp only [go_sem, seval, aj_, bo_, ah_, ae_, an_, ac_, hcl, hll, hp, hd1, at_, ak_]; rfl) ?_ ?_
     ·simp only [T3_] at h40 h49; refine ⟨⟨aiv_ h (by omega) (by omega), by omega⟩, ?_⟩; rw [List.length_set, at_, hll]; omega
     refine Exists.intro (()) ⟨?_, ?_⟩
     ·trivial
     exact Can.weak (Weak.lit (by simp only [go_sem, seval, aj_, bo_, ah_, ae_, an_, ac_, hcl, hll, hp, hd1, at_, ak_, as_, leV, aq_, ar_, V.inn, us, T9_, Ta_]) (by simp only [go_sem, seval, aj_, bo_, ah_, ae_, an_, ac_, hcl, hll, hp, hd1, at_, ak_, as_, leV, aq_, ar_, V.inn, us, T9_, Ta_]) (by simp only [go_sem, seval, aj_, bo_, ah_, ae_, an_, ac_, hcl, hll, hp, hd1, at_, ak_, as_, leV, aq_, ar_, V.inn, us, T9_, Ta_] <;> ((simp only [T3_] at h40); (have q := q7_ (show k < (ek_ (bof s)).length by omega)); (have q2 : k < (f0_ s).length := (by omega)); (first | (simp only [T3_] at h49; rw [if_neg (by omega)] at q; rw [List.set_set, ← q, n2_ q2 [.i .i64 0]]; congr 1; (have q3 : k < (es_ (inR (f0_ s)) [.i .i64 0] k).length := (by rw [at_, hll]; omega)); simp [T8_, q3]; done) | (simp only [T4_] at h49; rw [if_pos (by omega)] at q; rw [n2_ q2 [.i .i64 0] (by rw [q])]; done) | trace_state))))
    ·refine .skip ?_
     refine Exists.intro (()) ⟨?_, ?_⟩
     ·trivial
     exact Can.weak (Weak.lit (by simp only [go_sem, seval, aj_, bo_, ah_, ae_, an_, ac_, hcl, hll, hp, hd1, at_, ak_, as_, leV, aq_, ar_, V.inn, us, T9_, Ta_]) (by simp only [go_sem, seval, aj_, bo_, ah_, ae_, an_, ac_, hcl, hll, hp, hd1, at_, ak_, as_, leV, aq_, ar_, V.inn, us, T9_, Ta_]) (by simp only [go_sem, seval, aj_, bo_, ah_, ae_, an_, ac_, hcl, hll, hp, hd1, at_, ak_, as_, leV, aq_, ar_, V.inn, us, T9_, Ta_] <;> ((simp only [T3_] at h40); (have q := q7_ (show k < (ek_ (bof s)).length by omega)); (have q2 : k < (f0_ s).length := (by omega)); (first | (simp only [T3_] at h49; rw [if_neg (by omega)] at q; rw [List.set_set, ← q, n2_ q2 [.i .i64 0]]; congr 1; (have q3 : k < (es_ (inR (f0_ s)) [.i .i64 0] k).length := (by rw [at_, hll]; omega)); simp [T8_, q3]; done) | (simp only [T4_] at h49; rw [if_pos (by omega)] at q; rw [n2_ q2 [.i .i64 0] (by rw [q])]; done) | trace_state))))
   refine .rgn [] (by simp only [go_sem, seval, aj_, bo_, ah_, ae_, an_, ac_, hcl, hll, hp, hd1, at_, ak_]; rfl) ?_ ?_
   ·first | trivial | simp
   refine Exists.intro (k + 1) ⟨?_, ?_, ?_⟩
   ·simp at h40; omega
   ·simp at h40; omega
   exact Can.weak (Weak.lit (by simp only [go_sem, seval, aj_, bo_, ah_, ae_, an_, ac_, hcl, hll, hp, hd1, at_, ak_, as_, leV, aq_, ar_, V.inn, us, T9_, Ta_] <;> (rw [bd_ (by simp at h40; omega) (by simp at h40; omega)]; simp)) (by simp only [go_sem, seval, aj_, bo_, ah_, ae_, an_, ac_, hcl, hll, hp, hd1, at_, ak_, as_, leV, aq_, ar_, V.inn, us, T9_, Ta_]) (by simp only [go_sem, seval, aj_, bo_, ah_, ae_, an_, ac_, hcl, hll, hp, hd1, at_, ak_, as_, leV, aq_, ar_, V.inn, us, T9_, Ta_]))
  ·refine .exit (.seq (.rgn [a3_ Bo, a3_ Bt] (by simp only [go_sem, seval, aj_, bo_, ah_, ae_, an_, ac_, hcl, hll, hp, hd1, at_, ak_]; rfl) ?_ ?_))
   ·first | trivial | simp
   refine .ret ⟨.inr rfl, ?_⟩
   exact Out.mem' (by simp only [Tryz.results57]; rfl) (by simp only [ax_, a6_, go_sem, seval, aj_, bo_, ah_, ae_, an_, ac_, hcl, hll, hp, hd1, at_, ak_]) (by simp only [a4_, rns, rn, go_sem, seval, aj_, bo_, ah_, ae_, an_, ac_, hcl, hll, hp, hd1, at_, ak_] <;> (rw [hfl])) (by simp) rfl (by decide) (by simp only [go_sem, seval, aj_, bo_, ah_, ae_, an_, ac_, hcl, hll, hp, hd1, at_, ak_]) (by simp only [ak_, go_sem, seval, aj_, bo_, ah_, ae_, an_, ac_, hcl, hll, hp, hd1, at_, ak_]) (by simp only [ag_, go_sem, seval, aj_, bo_, ah_, ae_, an_, ac_, hcl, hll, hp, hd1, at_, ak_] <;> (simp only [T4_] at h40; rw [ik_ (by rw [hll]; omega)]))
end
section
set_option maxRecDepth 100000
set_option maxHeartbeats 4000000
def colLe (X Y : Wd) : Prop := gn_ X ≤ gn_ Y ∧ ∀ i, 0 ≤ i → ((i ∈ X.map (·.2) ↔ i ∈ Y.map (·.2)) ∧ (i ∈ X.map (·.2) → fw_ 0 X i ≤ fw_ 0 Y i))
theorem colLe.refl (X : Wd) : colLe X X := ⟨Int.le_refl _, fun _ _ => ⟨Iff.rfl, fun _ => Int.le_refl _⟩⟩
theorem colLe.app {X X' Y Y' : Wd} (h : colLe X X') (k : colLe Y Y') : colLe (X ++ Y) (X' ++ Y') := by
 refine ⟨by rw [lv_, lv_]; have := h.1; have := k.1; omega, fun i hi => ?_⟩
 obtain ⟨h1, h2⟩ := h.2 i hi
 obtain ⟨k1, k2⟩ := k.2 i hi
 refine ⟨by simp only [List.map_append, List.mem_append, h1, k1], fun hm => ?_⟩
 rw [m9_, m9_]
 by_cases hx : i ∈ X.map (·.2)
 ·rw [if_pos hx, if_pos (h1.1 hx)]; exact h2 hx
 ·rw [if_neg hx, if_neg (fun q => hx (h1.2 q))]
  have hy : i ∈ Y.map (·.2) := by
   rw [List.map_append] at hm
   exact (List.mem_append.1 hm).resolve_left hx
  rw [mx_ i (gn_ X) Y 0 hy, mx_ i (gn_ X') Y' 0 (k1.1 hy)]
  have := k2 hy
  have := h.1
  omega
theorem colLe.none {Q : Wd} (h : ∀ p ∈ Q, p.2 = -1) : colLe [] Q := by
 refine ⟨by rw [k3_]; exact pn_ Q, fun i hi => ⟨⟨fun q => by simp at q, fun q => ?_⟩, fun q => by simp at q⟩⟩
 obtain ⟨p, hp, e⟩ := List.mem_map.1 q
 have := h p hp
 omega
end
end Go.Proofs.YtpikbndepapbhaaGreatDoor
