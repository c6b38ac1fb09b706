/- What a line is turned into, the reference's: words with their places. Conditions: none. -/
import Derived.Test.YtefmbmafdgedmaaGreatDoorNl
import Derived.Test.YtefmbmafdgedmaaGreatDoorNx
import Derived.Test.YtefmbmafdgedmaaGreatDoorNn
import Derived.Test.YtefmbmafdgedmaaGreatDoorNd
import Derived.Test.YtefmbmafdgedmaaGreatDoorNi
import Derived.Test.YtefmbmafdgedmaaGreatDoorNb
set_option linter.unusedVariables false
set_option linter.unusedSimpArgs false
namespace Go.Proofs.YtefmbmafdgedmaaGreatDoor
section
set_option maxRecDepth 100000
set_option maxHeartbeats 4000000
theorem zi_ {l : Wd} {k : Nat} (h : k < l.length) : ge_ (l.take (k + 1)) = ge_ (l.take k) + ((l.getD k ([], 0)).1.length + 1) := by
 have e : l.take (k + 1) = l.take k ++ [l.getD k ([], 0)] := by
  rw [List.take_add_one, List.getElem?_eq_getElem h, List.getD_eq_getElem?_getD, List.getElem?_eq_getElem h]; rfl
 rw [e, kn_, pt_, k3_]; omega
theorem zo_ (l : Wd) (k : Nat) : ge_ (l.take k) ≤ ge_ l := by
 conv => rhs; rw [← List.take_append_drop k l]
 have := ns_ (l.drop k)
 rw [kn_]; omega
theorem abf_ {l : Wd} {k : Nat} (h : k < l.length) : (ct_ 0 (l.map (·.1))).getD k 0 = ge_ (l.take k) := by
 rw [lv_ _ _ (by simpa using h), ge_, List.map_take]; omega
theorem zh_ (l : Wd) (hl : l.length ≤ 1000000) (hw : ge_ l < 1099511627776) : ACall En 91 [.sl false (wdR l)] [] [.sl false (inR (ct_ 0 (l.map (·.1))))] [] := by
 have hp : ∀ k, cf_ (dj_ (inR (ct_ 0 (l.map (·.1)))) [.i .i64 0] k) = true := fun k => hw_ (ac_ _) rfl
 have hll : (inR (ct_ 0 (l.map (·.1)))).length = l.length := by rw [af_, av_, List.length_map]
 have hd1 : ∀ k j, ((dj_ (inR (ct_ 0 (l.map (·.1)))) [.i .i64 0] k).getD j []).drop 1 = [] := un_ _ _ (fun r hr => wp_ hr) rfl
 refine ah_ (fn := Tryz.f91) [] Tryz.func91 rfl rfl (by simp) fun C => ?_
 rw [ar_]
 simp only [Tryz.ntmps91, List.length_cons, List.length_nil, Nat.reduceAdd, Nat.reduceSub, List.replicate_succ, List.replicate_zero, List.cons_append, List.nil_append, bd_]
 refine .seq (.rgn [] (by simp only [go_sem, seval, ae_, ad_, ac_, hp, hd1, ai_, hll]; rfl) ?_ ?_)
 ·(first | trivial)
 refine .seq (.rgn [] (by simp only [go_sem, seval, ae_, ad_, ac_, hp, hd1, ai_, hll]; rfl) ?_ ?_)
 ·simp; omega
 refine .seq (.rgn [] (by simp only [go_sem, seval, ae_, ad_, ac_, hp, hd1, ai_, hll]; rfl) ?_ ?_)
 ·(first | trivial)
 refine .seq (.seq (.rgn [] (by simp only [go_sem, seval, ae_, ad_, ac_, hp, hd1, ai_, hll]; rfl) ?_ ?_))
 ·(first | trivial)
 refine .block (.loopK (fun k : Nat => ⟨[.no, .no, .no, .ow 19 1 0 l.length, .i .i64 (ge_ (l.take k)), .no, .no, .no, .no, .no, .sl false (wdR l), .i .i64 l.length, .i .i64 k, .no, .no, .no, .no, .no, .no, .no, .no, .no, .no, .no, .no, .no, .no, .no, .no], aw_ [(19, ⟨3, 1, dj_ (inR (ct_ 0 (l.map (·.1)))) [.i .i64 0] k⟩)], us [19]⟩) (fun k : Nat => k ≤ l.length) (fun k : Nat => l.length - k) (0) ?_ ?_ (fun k hI => ?_))
 ·simp
 ·exact Can.weak (Weak.lit (by simp only [go_sem, seval, ae_, ad_, ac_, hp, hd1, ai_, hll, an_, leV, al_, am_, V.inn, us, true_or, or_true] <;> (simp [k3_])) (by simp only [go_sem, seval, ae_, ad_, ac_, hp, hd1, ai_, hll, an_, leV, al_, am_, V.inn, us, true_or, or_true]) (by simp only [go_sem, seval, ae_, ad_, ac_, hp, hd1, ai_, hll, an_, leV, al_, am_, V.inn, us, true_or, or_true] <;> (simp [go_, hll])))
 refine .seq (.rgn [] (by simp only [go_sem, seval, ae_, ad_, ac_, hp, hd1, ai_, hll]; rfl) ?_ ?_)
 ·(first | trivial)
 refine .seq (.condB (by simp only [go_sem, seval, ae_, ad_, ac_, hp, hd1, ai_, hll]; rfl) (by simp only [go_sem, seval, ae_, ad_, ac_, hp, hd1, ai_, hll]) (fun h13 => ?_) (fun h13 => ?_))
 ·refine .skip (.seq (.block (.seq (.rgn [] (by simp only [go_sem, seval, ae_, ad_, ac_, hp, hd1, ai_, hll, he_ (show k < l.length by simpa using h13)]; rfl) ?_ ?_))))
  ·simp only [decide_eq_true_eq] at h13; simp; omega
  refine .seq (.rgn [] (by simp only [go_sem, seval, ae_, ad_, ac_, hp, hd1, ai_, hll]; rfl) ?_ ?_)
  ·simp only [decide_eq_true_eq] at h13; simp; omega
  refine .rgn [] (by simp only [go_sem, seval, ae_, ad_, ac_, hp, hd1, ai_, hll]; rfl) ?_ ?_
  ·(first | trivial)
  refine .rgn [] (by simp only [go_sem, seval, ae_, ad_, ac_, hp, hd1, ai_, hll]; rfl) ?_ ?_
  ·(first | trivial)
  refine Exists.intro (k + 1) ⟨?_, ?_, ?_⟩
  ·simp at h13; omega
  ·simp at h13; omega
  exact Can.weak (Weak.lit (by simp only [go_sem, seval, ae_, ad_, ac_, hp, hd1, ai_, hll, an_, leV, al_, am_, V.inn, us, true_or, or_true] <;> ((have q := zi_ (show k < l.length by simpa using h13)); (have q2 := zo_ l (k + 1)); (have q3 := ns_ (l.take k)); (refine ⟨?_, ?_⟩; (rw [bc_ (show -9223372036854775808 ≤ (((l.getD k ([], 0)).1.length : Int) + 1) by omega) (by omega), bc_ (by omega) (by omega), q]); (rw [bc_ (by simp at h13; omega) (by simp at h13; omega)]; simp)))) (by simp only [go_sem, seval, ae_, ad_, ac_, hp, hd1, ai_, hll, an_, leV, al_, am_, V.inn, us, true_or, or_true]) (by simp only [go_sem, seval, ae_, ad_, ac_, hp, hd1, ai_, hll, an_, leV, al_, am_, V.inn, us, true_or, or_true] <;> ((rw [← gw_ (by rw [hll]; simpa using h13), hc_ (by rw [av_, List.length_map]; simpa using h13), abf_ (by simpa using h13)]))))
 ·refine .exit (.seq (.rgn [] (by simp only [go_sem, seval, ae_, ad_, ac_, hp, hd1, ai_, hll]; rfl) ?_ ?_))
  ·(first | trivial)
  refine .frz 19 (by simp only [go_sem, seval, ae_, ad_, ac_, hp, hd1, ai_, hll]; rfl) (by simp only [go_sem, seval, ae_, ad_, ac_, hp, hd1, ai_, hll]) (by simp only [go_sem, seval, ae_, ad_, ac_, hp, hd1, ai_, hll]; rfl) (by simp only [go_sem, seval, ae_, ad_, ac_, hp, hd1, ai_, hll]; rfl) ?_
  refine .ret ⟨.inr rfl, ?_⟩
  exact Out.plain (by simp only [Tryz.results91]; rfl) (by simp only [aq_, a8_, go_sem, seval, ae_, ad_, ac_, hp, hd1, ai_, hll] <;> (split <;> rfl)) (by simp only [a7_, go_sem, seval, ae_, ad_, ac_, hp, hd1, ai_, hll] <;> (simp at h13; rw [gu_ (by omega)]; simp [← hll, List.take_of_length_le, peel])) (by simp only [go_sem, seval, ae_, ad_, ac_, hp, hd1, ai_, hll])
theorem acz_ {l : Wd} {k : Nat} (h : k < l.length) (n : Int) : shf n (l.take (k + 1)) = shf n (l.take k) ++ [((l.getD k ([], 0)).1, if 0 ≤ (l.getD k ([], 0)).2 then (l.getD k ([], 0)).2 + n else (l.getD k ([], 0)).2)] := by
 have e : l.take (k + 1) = l.take k ++ [l.getD k ([], 0)] := by
  rw [List.take_add_one, List.getElem?_eq_getElem h, List.getD_eq_getElem?_getD, List.getElem?_eq_getElem h]; rfl
 rw [e, aea_]; congr 1
 simp only [shf, List.map_cons, List.map_nil]
 split <;> rfl
theorem h7_ (l : Wd) (n : Int) (hl : l.length ≤ 1000000) (hb : ∀ p ∈ l, p.2 ≤ 1000000) (h0 : 0 ≤ n) (h1 : n ≤ 1000000) : ACall En 193 [.sl false (wdR l), .i .i64 n] [] [.sl false (wdR (shf n l))] [] := by
 refine ah_ (fn := Tryz.f193) [] Tryz.func193 rfl rfl (by simp) fun C => ?_
 rw [ar_]
 simp only [Tryz.ntmps193, List.length_cons, List.length_nil, Nat.reduceAdd, Nat.reduceSub, List.replicate_succ, List.replicate_zero, List.cons_append, List.nil_append, bd_]
 refine .seq (.rgn [] (by simp only [go_sem, seval, ae_, ad_, ap_]; rfl) ?_ ?_)
 ·(first | trivial | (simp; done) | (simp at h12; simp; omega))
 refine .seq (.rgn [] (by simp only [go_sem, seval, ae_, ad_, ap_]; rfl) ?_ ?_)
 ·(first | trivial | (simp; done) | (simp at h12; simp; omega))
 refine .seq (.seq (.rgn [] (by simp only [go_sem, seval, ae_, ad_, ap_]; rfl) ?_ ?_))
 ·(first | trivial | (simp; done) | (simp at h12; simp; omega))
 refine .block (.loopK (fun k : Nat => ⟨[.sl false (wdR l), .i .i64 n, .no, .no, .no, .ow 60 2 0 k, .i .i64 k, .no, .no, .no, .no, .no, .no, .no, .no, .no, .no, .no, .no, .no, .no, .no, .no, .no, .no, .no, .no, .no, .no, .no, .no, .no], aw_ [(60, ⟨161, 2, wdR (shf n (l.take k))⟩)], us [60]⟩) (fun k : Nat => k ≤ l.length) (fun k : Nat => l.length - k) (0) ?_ ?_ (fun k hI => ?_))
 ·simp
 ·refine Can.trans (Can.ownSlot 5 60 161 2 (by simp only [go_sem, seval, ae_, ad_, ap_] <;> rfl) (by simp only [go_sem, seval, ae_, ad_, ap_]) (by simp only [go_sem, seval, ae_, ad_, ap_] <;> rfl)) ?_
  exact Can.weak (Weak.lit (by simp only [go_sem, seval, ae_, ad_, ap_, an_, leV, al_, am_, V.inn, us, true_or, or_true] <;> (simp)) (by simp only [go_sem, seval, ae_, ad_, ap_, an_, leV, al_, am_, V.inn, us, true_or, or_true]) (by simp only [go_sem, seval, ae_, ad_, ap_, an_, leV, al_, am_, V.inn, us, true_or, or_true] <;> (simp [shf, wdR])))
 refine .seq (.seq (.rgn [] (by simp only [go_sem, seval, ae_, ad_, ap_]; rfl) ?_ ?_))
 ·(first | trivial | (simp; done) | (simp at h12; simp; omega))
 refine .condB (by simp only [go_sem, seval, ae_, ad_, ap_]; rfl) (by simp only [go_sem, seval, ae_, ad_, ap_]) (fun h12 => ?_) (fun h12 => ?_)
 ·refine .skip (.seq (.block (.seq (.rgn [] (by simp only [go_sem, seval, ae_, ad_, ap_, he_ (show k < l.length by simpa using h12)]; rfl) ?_ ?_))))
  ·(first | trivial | (simp; done) | (simp at h12; simp; omega))
  refine .seqJ (fun v : Int => ⟨[.sl false (wdR l), .i .i64 n, .no, .no, .no, .ow 60 2 0 k, .i .i64 k, .pt 17 2 0 0, .no, .no, .no, .no, .no, .no, .no, .no, .no, .no, .no, .no, .no, .no, .no, .no, .no, .no, .no, .no, .no, .no, .no, .no], aw_ [(60, ⟨161, 2, wdR (shf n (l.take k))⟩), (17, ⟨161, 2, [[.s (l.getD k ([], 0)).1, .i .i64 v]]⟩)], us [17, 60]⟩) (fun v : Int => v = if 0 ≤ (l.getD k ([], 0)).2 then (l.getD k ([], 0)).2 + n else (l.getD k ([], 0)).2) ?_ (fun v hJ => ?_)
  ·refine .seq (.rgn [] (by simp only [go_sem, seval, ae_, ad_, ap_]; rfl) ?_ ?_)
   ·(first | trivial | (simp; done) | (simp at h12; simp; omega))
   refine .condB (by simp only [go_sem, seval, ae_, ad_, ap_]; rfl) (by simp only [go_sem, seval, ae_, ad_, ap_]) (fun h21 => ?_) (fun h21 => ?_)
   ·refine .rgn [] (by simp only [go_sem, seval, ae_, ad_, ap_]; rfl) ?_ ?_
    ·(first | trivial | (simp; done) | (simp at h12; simp; omega))
    refine Exists.intro ((l.getD k ([], 0)).2 + n) ⟨?_, ?_⟩
    ·(simp only [decide_eq_true_eq, decide_eq_false_iff_not] at h21; first | rw [if_pos (by omega)] | rw [if_neg (by omega)])
    exact Can.weak (Weak.lit (by simp only [go_sem, seval, ae_, ad_, ap_, an_, leV, al_, am_, V.inn, us, true_or, or_true]) (by simp only [go_sem, seval, ae_, ad_, ap_, an_, leV, al_, am_, V.inn, us, true_or, or_true]) (by simp only [go_sem, seval, ae_, ad_, ap_, an_, leV, al_, am_, V.inn, us, true_or, or_true] <;> ((simp only [decide_eq_true_eq, decide_eq_false_iff_not] at h21; have := hb _ (bo_ (d := ([], 0)) (show k < l.length by simpa using h12)); first | rfl | (rw [bc_ (by omega) (by omega)]; done) | (simp; done) | trace_state))))
   ·refine .skip ?_
    refine Exists.intro ((l.getD k ([], 0)).2) ⟨?_, ?_⟩
    ·(simp only [decide_eq_true_eq, decide_eq_false_iff_not] at h21; first | rw [if_pos (by omega)] | rw [if_neg (by omega)])
    exact Can.weak (Weak.lit (by simp only [go_sem, seval, ae_, ad_, ap_, an_, leV, al_, am_, V.inn, us, true_or, or_true]) (by simp only [go_sem, seval, ae_, ad_, ap_, an_, leV, al_, am_, V.inn, us, true_or, or_true]) (by simp only [go_sem, seval, ae_, ad_, ap_, an_, leV, al_, am_, V.inn, us, true_or, or_true] <;> ((simp only [decide_eq_true_eq, decide_eq_false_iff_not] at h21; have := hb _ (bo_ (d := ([], 0)) (show k < l.length by simpa using h12)); first | rfl | (rw [bc_ (by omega) (by omega)]; done) | (simp; done) | trace_state))))
  refine .rgn [] (by simp only [go_sem, seval, ae_, ad_, ap_]; rfl) ?_ ?_
  ·simp at h12; simp [a9_, cc_]; omega
  refine .rgn [] (by simp only [go_sem, seval, ae_, ad_, ap_]; rfl) ?_ ?_
  ·(first | trivial | (simp; done) | (simp at h12; simp; omega))
  refine Exists.intro (k + 1) ⟨?_, ?_, ?_⟩
  ·simp at h12; omega
  ·simp at h12; omega
  refine Can.trans (Can.swap 40 60 (by decide) (by decide) (by decide) (by decide) (by simp only [go_sem, seval, ae_, ad_, ap_, V.cl]) (by simp only [go_sem, seval, ae_, ad_, ap_, V.cl]) (by simp only [go_sem, seval, ae_, ad_, ap_, bn_, sw, swM, rnB] <;> rfl) (by simp only [go_sem, seval, ae_, ad_, ap_, bn_, sw, swM, rnB] <;> rfl) (by simp only [go_sem, seval, ae_, ad_, ap_, bn_, sw, swM, rnB] <;> rfl)) ?_
  exact Can.weak (Weak.lit (by simp only [go_sem, seval, ae_, ad_, ap_, an_, leV, al_, am_, V.inn, us, true_or, or_true] <;> (rw [bc_ (by simp at h12; omega) (by simp at h12; omega)]; simp)) (by simp only [go_sem, seval, ae_, ad_, ap_, an_, leV, al_, am_, V.inn, us, true_or, or_true]) (by simp only [go_sem, seval, ae_, ad_, ap_, an_, leV, al_, am_, V.inn, us, true_or, or_true] <;> (rw [acz_ (by simpa using h12), km_, ← hJ]; rfl)))
 ·refine .exit (.seq (.rgn [] (by simp only [go_sem, seval, ae_, ad_, ap_]; rfl) ?_ ?_))
  ·(first | trivial | (simp; done) | (simp at h12; simp; omega))
  refine .frz 60 (by simp only [go_sem, seval, ae_, ad_, ap_]; rfl) (by simp only [go_sem, seval, ae_, ad_, ap_]) (by simp only [go_sem, seval, ae_, ad_, ap_]; rfl) (by simp only [go_sem, seval, ae_, ad_, ap_]; rfl) ?_
  refine .ret ⟨.inr rfl, ?_⟩
  exact Out.plain (by simp only [Tryz.results193]; rfl) (by simp only [aq_, a8_, go_sem, seval, ae_, ad_, ap_] <;> (split <;> rfl)) (by simp only [a7_, go_sem, seval, ae_, ad_, ap_] <;> (simp at h12; (obtain rfl : k = l.length := (by omega)); rw [List.take_of_length_le (Nat.le_refl _)]; simp [List.take_of_length_le, ap_, ae_, peel])) (by simp only [go_sem, seval, ae_, ad_, ap_])
theorem ab9_ (l : List Str) (hl : l.length ≤ 1000000) (hw : wid l < 1099511627776) : ACall En 149 [.sl false (bm_ l)] [] [.sl false (inR (ct_ 0 l))] [] := by
 refine ah_ (fn := Tryz.f149) [] Tryz.func149 rfl rfl (by simp) fun C => ?_
 rw [ar_]
 simp only [Tryz.ntmps149, List.length_cons, List.length_nil, Nat.reduceAdd, Nat.reduceSub, List.replicate_succ, List.replicate_zero, List.cons_append, List.nil_append, bd_]
 refine .seq (.rgn [] (by simp only [go_sem, seval, ab_, aa_, ac_]; rfl) ?_ ?_)
 ·(first | trivial | (simp; done) | (simp at h10; simp; omega))
 refine .seq (.rgn [] (by simp only [go_sem, seval, ab_, aa_, ac_]; rfl) ?_ ?_)
 ·(first | trivial | (simp; done) | (simp at h10; simp; omega))
 refine .seq (.rgn [] (by simp only [go_sem, seval, ab_, aa_, ac_]; rfl) ?_ ?_)
 ·(first | trivial | (simp; done) | (simp at h10; simp; omega))
 refine .seq (.seq (.rgn [] (by simp only [go_sem, seval, ab_, aa_, ac_]; rfl) ?_ ?_))
 ·(first | trivial | (simp; done) | (simp at h10; simp; omega))
 refine .block (.loopK (fun k : Nat => ⟨[.sl false (bm_ l), .no, .no, .ow 60 1 0 k, .i .i64 (wid (l.take k)), .i .i64 k, .no, .no, .no, .no, .no, .no, .no, .no, .no, .no, .no, .no, .no, .no, .no, .no, .no, .no, .no, .no], aw_ [(60, ⟨3, 1, inR ((ct_ 0 l).take k)⟩)], us [60]⟩) (fun k : Nat => k ≤ l.length) (fun k : Nat => l.length - k) (0) ?_ ?_ (fun k hI => ?_))
 ·simp
 ·refine Can.trans (Can.ownSlot 3 60 3 1 (by simp only [go_sem, seval, ab_, aa_, ac_] <;> rfl) (by simp only [go_sem, seval, ab_, aa_, ac_]) (by simp only [go_sem, seval, ab_, aa_, ac_] <;> rfl)) ?_
  exact Can.weak (Weak.lit (by simp only [go_sem, seval, ab_, aa_, ac_, an_, leV, al_, am_, V.inn, us, true_or, or_true] <;> (simp [rb_])) (by simp only [go_sem, seval, ab_, aa_, ac_, an_, leV, al_, am_, V.inn, us, true_or, or_true]) (by simp only [go_sem, seval, ab_, aa_, ac_, an_, leV, al_, am_, V.inn, us, true_or, or_true] <;> (simp [inR])))
 refine .seq (.seq (.rgn [] (by simp only [go_sem, seval, ab_, aa_, ac_]; rfl) ?_ ?_))
 ·(first | trivial | (simp; done) | (simp at h10; simp; omega))
 refine .condB (by simp only [go_sem, seval, ab_, aa_, ac_]; rfl) (by simp only [go_sem, seval, ab_, aa_, ac_]) (fun h10 => ?_) (fun h10 => ?_)
 ·refine .skip (.seq (.block (.seq (.rgn [] (by simp only [go_sem, seval, ab_, aa_, ac_]; rfl) ?_ ?_))))
  ·simp at h10; simp [us_, cc_, af_, av_]; omega
  refine .rgn [] (by simp only [go_sem, seval, ab_, aa_, ac_, co_ (show k < l.length by simpa using h10)]; rfl) ?_ ?_
  ·(first | trivial | (simp; done) | (simp at h10; simp; omega))
  refine .rgn [] (by simp only [go_sem, seval, ab_, aa_, ac_]; rfl) ?_ ?_
  ·(first | trivial | (simp; done) | (simp at h10; simp; omega))
  refine Exists.intro (k + 1) ⟨?_, ?_, ?_⟩
  ·simp at h10; omega
  ·simp at h10; omega
  refine Can.trans (Can.swap 26 60 (by decide) (by decide) (by decide) (by decide) (by simp only [go_sem, seval, ab_, aa_, ac_, V.cl]) (by simp only [go_sem, seval, ab_, aa_, ac_, V.cl]) (by simp only [go_sem, seval, ab_, aa_, ac_, bn_, sw, swM, rnB] <;> rfl) (by simp only [go_sem, seval, ab_, aa_, ac_, bn_, sw, swM, rnB] <;> rfl) (by simp only [go_sem, seval, ab_, aa_, ac_, bn_, sw, swM, rnB] <;> rfl)) ?_
  exact Can.weak (Weak.lit (by simp only [go_sem, seval, ab_, aa_, ac_, an_, leV, al_, am_, V.inn, us, true_or, or_true] <;> ((have q := zz_ (show k < l.length by simpa using h10)); (have q2 := ad6_ l (k + 1)); (repeat' apply And.intro) <;> first | (simp; done) | (rw [bc_ (by simp at h10; omega) (by simp at h10; omega)]; simp; done) | (rw [bc_ (show -9223372036854775808 ≤ ((wid (l.take k) : Int) + ((l.getD k []).length : Int)) by omega) (by omega), bc_ (by omega) (by omega)]; omega) | trace_state)) (by simp only [go_sem, seval, ab_, aa_, ac_, an_, leV, al_, am_, V.inn, us, true_or, or_true]) (by simp only [go_sem, seval, ab_, aa_, ac_, an_, leV, al_, am_, V.inn, us, true_or, or_true] <;> ((rw [List.take_add_one, List.getElem?_eq_getElem (show k < (ct_ 0 l).length by rw [av_]; simpa using h10), xd_]; (have := lv_ l 0 (show k < l.length by simpa using h10)); rw [List.getD_eq_getElem?_getD, List.getElem?_eq_getElem (show k < (ct_ 0 l).length by rw [av_]; simpa using h10), Option.getD_some] at this; rw [this]; simp [inR]))))
 ·refine .exit (.seq (.rgn [] (by simp only [go_sem, seval, ab_, aa_, ac_]; rfl) ?_ ?_))
  ·(first | trivial | (simp; done) | (simp at h10; simp; omega))
  refine .frz 60 (by simp only [go_sem, seval, ab_, aa_, ac_]; rfl) (by simp only [go_sem, seval, ab_, aa_, ac_]) (by simp only [go_sem, seval, ab_, aa_, ac_]; rfl) (by simp only [go_sem, seval, ab_, aa_, ac_]; rfl) ?_
  refine .ret ⟨.inr rfl, ?_⟩
  exact Out.plain (by simp only [Tryz.results149]; rfl) (by simp only [aq_, a8_, go_sem, seval, ab_, aa_, ac_] <;> (split <;> rfl)) (by simp only [a7_, go_sem, seval, ab_, aa_, ac_] <;> (simp at h10; (obtain rfl : k = l.length := (by omega)); rw [List.take_of_length_le (by rw [av_]; exact Nat.le_refl _)]; simp [List.take_of_length_le, af_, av_, peel])) (by simp only [go_sem, seval, ab_, aa_, ac_])
end
section
set_option maxRecDepth 100000
set_option maxHeartbeats 4000000
theorem afn_ (x y : Int) : ACall En 219 [.i .i64 x, .i .i64 y] [] [.i .i64 (max x y)] [] := by
 refine ah_ (fn := Tryz.f219) [] Tryz.func219 rfl rfl (by simp) fun C => ?_
 rw [ar_]
 simp only [Tryz.ntmps219, List.length_cons, List.length_nil, Nat.reduceAdd, Nat.reduceSub, List.replicate_succ, List.replicate_zero, List.cons_append, List.nil_append, bd_]
 refine .seq (.rgn [] (by simp only [go_sem, seval]; rfl) ?_ ?_)
 ·first | trivial | simp
 refine .seq (.seq (.rgn [] (by simp only [go_sem, seval]; rfl) ?_ ?_))
 ·first | trivial | simp
 refine .condB (by simp only [go_sem, seval]; rfl) (by simp only [go_sem, seval]) (fun h7 => ?_) (fun h7 => ?_)
 ·refine .seq (.rgn [] (by simp only [go_sem, seval]; rfl) ?_ ?_)
  ·first | trivial | simp
  refine .ret ⟨.inr rfl, ?_⟩
  exact Out.plain (by simp only [Tryz.results219]; rfl) (by simp only [aq_, a8_, go_sem, seval] <;> (split <;> rfl)) (by simp only [a7_, go_sem, seval] <;> (simp only [decide_eq_true_eq] at h7; rw [show max x y = x by omega])) (by simp only [go_sem, seval])
 ·refine .skip (.seq (.rgn [] (by simp only [go_sem, seval]; rfl) ?_ ?_))
  ·first | trivial | simp
  refine .ret ⟨.inr rfl, ?_⟩
  exact Out.plain (by simp only [Tryz.results219]; rfl) (by simp only [aq_, a8_, go_sem, seval] <;> (split <;> rfl)) (by simp only [a7_, go_sem, seval] <;> (simp only [decide_eq_false_iff_not] at h7; rw [show max x y = y by omega])) (by simp only [go_sem, seval])
theorem uq_ (d : Nat) : ∀ (e : E) (t b : Int), form e d = true → sm e = true → many e d ≤ 1000 → t ≤ 4 → b ≤ 4 → -1000 ≤ t → -1000 ≤ b → ACall En 194 [.ag (eC e), .i .i64 t, .i .i64 b] [] [.sl false (wdR (l8 e t b))] [] := by
 induction d with
 | zero => intro e t b h; have := (bb_ h).1; omega
 | succ d ih =>
 intro e t b h hs hm ht hb ht2 hb2
 obtain ⟨a1, a2, a3⟩ := fn_ hs
 have e1 : ((d + 1 : Nat) : Int) - 1 = (d : Int) := by omega
 have hd1 : (1 : Int) ≤ ((d + 1 : Nat) : Int) := by omega
 have g1 : e.kind = 1 → 0 ≤ e.n ∧ e.n ≤ 1000000 := fun hk => by
  rcases (bb_ h).2 with ⟨k1, h1, h2, h3, h4⟩ | ⟨k1, h1, h2, h3⟩ | ⟨k1, _⟩ | ⟨k1, _⟩ <;> omega
 have g3 : e.kind = 3 → e.kids.length = 2 ∧ 1 ≤ a4_ e.s ∧ a4_ e.s ≤ 3 ∧ form (e.kids.getD 0 E0) d = true ∧ form (e.kids.getD 1 E0) d = true ∧ many (e.kids.getD 0 E0) d ≤ 1000 ∧ many (e.kids.getD 1 E0) d ≤ 1000 ∧ lvl e = a4_ e.s := fun hk => by
  rcases (bb_ h).2 with ⟨k1, _⟩ | ⟨k1, _⟩ | ⟨k1, h1, h2, h3, h4, h5⟩ | ⟨k1, _⟩ <;> try omega
  rw [e1] at h4 h5
  have := cp_ h2
  have hm2 := hy_ hd1 h3
  rw [e1] at hm2
  have q1 := db_ d _ 0 h4
  have q2 := db_ d _ 0 h5
  exact ⟨h3, this.1, this.2, h4, h5, by omega, by omega, pf_ k1 h2⟩
 have g4 : e.kind = 4 → e.kids.length = 1 ∧ form (e.kids.getD 0 E0) d = true ∧ many (e.kids.getD 0 E0) d ≤ 1000 := fun hk => by
  rcases (bb_ h).2 with ⟨k1, _⟩ | ⟨k1, _⟩ | ⟨k1, _⟩ | ⟨k1, h1, h2, h3, h4⟩ <;> try omega
  rw [e1] at h4
  have hm2 := ir_ hd1 h3
  rw [e1] at hm2
  have q1 := db_ d _ 0 h4
  exact ⟨h3, h4, by omega⟩
 have g0 : e.kind = 1 ∨ e.kind = 2 ∨ e.kind = 3 ∨ e.kind = 4 := by
  rcases (bb_ h).2 with ⟨k1, _⟩ | ⟨k1, _⟩ | ⟨k1, _⟩ | ⟨k1, _⟩ <;> omega
 have hlv : lvl e = if e.kind = 3 then a4_ e.s else 4 := by
  by_cases hk : e.kind = 3
  ·rw [if_pos hk, (g3 hk).2.2.2.2.2.2.2]
  ·rw [if_neg hk, lvl, if_neg hk]
 have hC : e.kind ≠ 4 → (l8c e).length ≤ 7000 ∧ ∀ p ∈ l8c e, p.2 ≤ 7000 := fun hk => by
  rcases g0 with hk4 | hk4 | hk4 | hk4
  ·simp [l8c, hk4]
  ·simp [l8c, hk4]
  ·have q := g3 hk4
   have q1 := kf_ q.2.2.2.1 q.2.2.2.2.2.1 (t := max 2 (a4_ e.s)) (b := max 2 (a4_ e.s)) (by omega) (by omega)
   have q2 := kf_ q.2.2.2.2.1 q.2.2.2.2.2.2.1 (t := a4_ e.s + 1) (b := a4_ e.s + 1) (by omega) (by omega)
   have q3 := hr_ d _ q.2.2.2.1 q.2.2.2.2.2.1 (max 2 (a4_ e.s))
   simp only [l8c, hk4, show ¬ (3 : Int) = 1 by omega, show ¬ (3 : Int) = 2 by omega, if_false]
   refine ⟨by simp only [List.length_append, List.length_cons, ap_]; omega, fun p hp => ?_⟩
   rcases List.mem_append.1 hp with hp | hp
   ·have := q1.2 p hp; omega
   ·rcases List.mem_cons.1 hp with rfl | hp
    ·dsimp only; omega
    ·simp only [shf, List.mem_map] at hp
     obtain ⟨u, hu, rfl⟩ := hp
     have := q2.2 u hu
     split
     ·dsimp only; omega
     ·omega
  ·exact absurd hk4 hk
 have hN : e.kind ≠ 4 → l8c e ≠ [] := fun hk => by
  rcases g0 with k | k | k | k
  ·simp [l8c, k]
  ·simp [l8c, k]
  ·simp [l8c, k]
  ·exact absurd k hk
 have hT : e.kind ≠ 4 → l8 e t b = brk (decide (lvl e < b)) (shf (if lvl e < t then 1 else 0) (l8c e)) := fun hk => by
  rw [aej_ (by rcases g0 with k | k | k | k; exact .inl k; exact .inr (.inl k); exact .inr (.inr ⟨k, (g3 k).1⟩); exact absurd k hk)]
  rw [hlv]
  by_cases k3 : e.kind = 3
  ·simp [k3]
  ·simp [k3, show ¬ (4 : Int) < b by omega, show ¬ (4 : Int) < t by omega]
 refine ah_ (fn := Tryz.f194) [] Tryz.func194 rfl rfl (by simp) fun C => ?_
 rw [ar_]
 simp only [Tryz.ntmps194, List.length_cons, List.length_nil, Nat.reduceAdd, Nat.reduceSub, List.replicate_succ, List.replicate_zero, List.cons_append, List.nil_append, bd_]
 refine .seq (.rgn [] (by simp only [go_sem, seval, ae_, ad_, ab_, aa_, List.length_append, List.take_of_length_le, ap_]; rfl) ?_ ?_)
 ·(first | trivial | (simp; done) | (simp [cc_, a9_]; done))
 refine .seq (.rgn [] (by simp only [go_sem, seval, ae_, ad_, ab_, aa_, List.length_append, List.take_of_length_le, ap_]; rfl) ?_ ?_)
 ·(first | trivial | (simp; done) | (simp [cc_, a9_]; done))
 refine .seq (.rgn [a2_ (lr_ e)] (by simp only [go_sem, seval, ae_, ad_, ab_, aa_, List.length_append, List.take_of_length_le, ap_]; rfl) ?_ ?_)
 ·(first | trivial | (simp; done) | (simp [cc_, a9_]; done))
 refine .seqJ (fun op : Int => ⟨[.no, .i .i64 t, .i .i64 b, .pt 13 4 0 0, .no, .no, .no, .i .i64 op, .i .i64 (lvl e), .no, .no, .no, .no, .no, .no, .no, .no, .no, .no, .no, .no, .no, .no, .no, .no, .no, .no, .no, .no, .no, .no, .no, .no, .no, .no, .no, .no, .no, .no, .no, .no, .no, .no, .no, .no, .no, .no, .no, .no, .no, .no, .no, .no, .no, .no, .no, .no, .no, .no, .no, .no, .no, .no, .no, .no, .no, .no, .no, .no, .no, .no, .no, .no, .no, .no, .no, .no, .no, .no, .no, .no, .no, .no, .no, .no, .no, .no, .no, .no, .no, .no, .no, .no, .no, .no, .no, .no, .no, .no, .no, .no, .no], aw_ [(13, ⟨48, 4, [eC e]⟩)], us [13]⟩) (fun op : Int => op = if lvl e < t then 1 else 0) ?_ (fun op hJ => ?_)
 ·refine .seq (.rgn [] (by simp only [go_sem, seval, ae_, ad_, ab_, aa_, List.length_append, List.take_of_length_le, ap_]; rfl) ?_ ?_)
  ·(first | trivial | (simp; done) | (simp [cc_, a9_]; done))
  refine .condB (by simp only [go_sem, seval, ae_, ad_, ab_, aa_, List.length_append, List.take_of_length_le, ap_]; rfl) (by simp only [go_sem, seval, ae_, ad_, ab_, aa_, List.length_append, List.take_of_length_le, ap_]) (fun h18 => ?_) (fun h18 => ?_)
  ·refine .rgn [] (by simp only [go_sem, seval, ae_, ad_, ab_, aa_, List.length_append, List.take_of_length_le, ap_]; rfl) ?_ ?_
   ·(first | trivial | (simp; done) | (simp [cc_, a9_]; done))
   refine Exists.intro (1) ⟨?_, ?_⟩
   ·simp_all
   exact Can.weak (Weak.lit (by simp only [go_sem, seval, ae_, ad_, ab_, aa_, List.length_append, List.take_of_length_le, ap_, an_, leV, al_, am_, V.inn, us, true_or, or_true]) (by simp only [go_sem, seval, ae_, ad_, ab_, aa_, List.length_append, List.take_of_length_le, ap_, an_, leV, al_, am_, V.inn, us, true_or, or_true]) (by simp only [go_sem, seval, ae_, ad_, ab_, aa_, List.length_append, List.take_of_length_le, ap_, an_, leV, al_, am_, V.inn, us, true_or, or_true]))
  ·refine .skip ?_
   refine Exists.intro (0) ⟨?_, ?_⟩
   ·simp_all
   exact Can.weak (Weak.lit (by simp only [go_sem, seval, ae_, ad_, ab_, aa_, List.length_append, List.take_of_length_le, ap_, an_, leV, al_, am_, V.inn, us, true_or, or_true]) (by simp only [go_sem, seval, ae_, ad_, ab_, aa_, List.length_append, List.take_of_length_le, ap_, an_, leV, al_, am_, V.inn, us, true_or, or_true]) (by simp only [go_sem, seval, ae_, ad_, ab_, aa_, List.length_append, List.take_of_length_le, ap_, an_, leV, al_, am_, V.inn, us, true_or, or_true]))
 refine .seq (.rgn [] (by simp only [go_sem, seval, ae_, ad_, ab_, aa_, List.length_append, List.take_of_length_le, ap_]; rfl) ?_ ?_)
 ·(first | trivial | (simp; done) | (simp [cc_, a9_]; done))
 refine .seqJ (fun u : Unit => ⟨[.no, .no, .i .i64 b, .no, .no, .no, .no, .i .i64 op, .i .i64 (lvl e), .sl false (wdR (l8c e)), .no, .no, .no, .no, .no, .no, .no, .no, .no, .no, .no, .no, .no, .no, .no, .no, .no, .no, .no, .no, .no, .no, .no, .no, .no, .no, .no, .no, .no, .no, .no, .no, .no, .no, .no, .no, .no, .no, .no, .no, .no, .no, .no, .no, .no, .no, .no, .no, .no, .no, .no, .no, .no, .no, .no, .no, .no, .no, .no, .no, .no, .no, .no, .no, .no, .no, .no, .no, .no, .no, .no, .no, .no, .no, .no, .no, .no, .no, .no, .no, .no, .no, .no, .no, .no, .no, .no, .no, .no, .no, .no, .no], aw_ [], us []⟩) (fun u : Unit => e.kind ≠ 4 ∧ op = if lvl e < t then 1 else 0) ?_ (fun u hJ => ?_)
 ·refine .seq (.rgn [] (by simp only [go_sem, seval, ae_, ad_, ab_, aa_, List.length_append, List.take_of_length_le, ap_]; rfl) ?_ ?_)
  ·(first | trivial | (simp; done) | (simp [cc_, a9_]; done))
  refine .block (.seq (.rgn [] (by simp only [go_sem, seval, ae_, ad_, ab_, aa_, List.length_append, List.take_of_length_le, ap_]; rfl) ?_ ?_))
  ·(first | trivial | (simp; done) | (simp [cc_, a9_]; done))
  refine .condB (by simp only [go_sem, seval, ae_, ad_, ab_, aa_, List.length_append, List.take_of_length_le, ap_]; rfl) (by simp only [go_sem, seval, ae_, ad_, ab_, aa_, List.length_append, List.take_of_length_le, ap_]) (fun h30 => ?_) (fun h30 => ?_)
  ·refine .rgn [a2_ (t3_ e.n (by have := g1 (by simpa using h30); omega) (by have := g1 (by simpa using h30); omega))] (by simp only [go_sem, seval, ae_, ad_, ab_, aa_, List.length_append, List.take_of_length_le, ap_]; rfl) ?_ ?_
   ·(first | trivial | (simp; done) | (simp [cc_, a9_]; done))
   refine Exists.intro (()) ⟨?_, ?_⟩
   ·exact ⟨by simp_all, hJ⟩
   refine Can.trans (Can.frz 48 (by simp only [go_sem, seval, ae_, ad_, ab_, aa_, List.length_append, List.take_of_length_le, ap_] <;> rfl) (by simp only [go_sem, seval, ae_, ad_, ab_, aa_, List.length_append, List.take_of_length_le, ap_]) (by simp only [go_sem, seval, ae_, ad_, ab_, aa_, List.length_append, List.take_of_length_le, ap_] <;> rfl) (by simp only [go_sem, seval, ae_, ad_, ab_, aa_, List.length_append, List.take_of_length_le, ap_] <;> rfl)) ?_
   exact Can.weak (Weak.lit (by simp only [go_sem, seval, ae_, ad_, ab_, aa_, List.length_append, List.take_of_length_le, ap_, an_, leV, al_, am_, V.inn, us, true_or, or_true] <;> (first | (have k1 : e.kind = 1 := (by simpa using h30); rw [e6_ (g1 k1).1]; simp [l8c, k1, wdR, ba_]; done) | (have k1 : e.kind = 2 := (by simpa using h39); simp [l8c, k1, wdR, ba_]; done) | (have k1 : e.kind = 3 := (by simpa using h47); have q := (g3 k1).2.2.2.2.2.2.2; rw [q, show max (a4_ e.s) 2 = max 2 (a4_ e.s) by omega]; simp [l8c, k1, wdR, ba_]; done) | trace_state)) (by simp only [go_sem, seval, ae_, ad_, ab_, aa_, List.length_append, List.take_of_length_le, ap_, an_, leV, al_, am_, V.inn, us, true_or, or_true]) (by simp only [go_sem, seval, ae_, ad_, ab_, aa_, List.length_append, List.take_of_length_le, ap_, an_, leV, al_, am_, V.inn, us, true_or, or_true]))
  ·refine .seq (.rgn [] (by simp only [go_sem, seval, ae_, ad_, ab_, aa_, List.length_append, List.take_of_length_le, ap_]; rfl) ?_ ?_)
   ·(first | trivial | (simp; done) | (simp [cc_, a9_]; done))
   refine .condB (by simp only [go_sem, seval, ae_, ad_, ab_, aa_, List.length_append, List.take_of_length_le, ap_]; rfl) (by simp only [go_sem, seval, ae_, ad_, ab_, aa_, List.length_append, List.take_of_length_le, ap_]) (fun h39 => ?_) (fun h39 => ?_)
   ·refine .rgn [] (by simp only [go_sem, seval, ae_, ad_, ab_, aa_, List.length_append, List.take_of_length_le, ap_]; rfl) ?_ ?_
    ·(first | trivial | (simp; done) | (simp [cc_, a9_]; done))
    refine Exists.intro (()) ⟨?_, ?_⟩
    ·exact ⟨by simp_all, hJ⟩
    refine Can.trans (Can.frz 56 (by simp only [go_sem, seval, ae_, ad_, ab_, aa_, List.length_append, List.take_of_length_le, ap_] <;> rfl) (by simp only [go_sem, seval, ae_, ad_, ab_, aa_, List.length_append, List.take_of_length_le, ap_]) (by simp only [go_sem, seval, ae_, ad_, ab_, aa_, List.length_append, List.take_of_length_le, ap_] <;> rfl) (by simp only [go_sem, seval, ae_, ad_, ab_, aa_, List.length_append, List.take_of_length_le, ap_] <;> rfl)) ?_
    exact Can.weak (Weak.lit (by simp only [go_sem, seval, ae_, ad_, ab_, aa_, List.length_append, List.take_of_length_le, ap_, an_, leV, al_, am_, V.inn, us, true_or, or_true] <;> (first | (have k1 : e.kind = 1 := (by simpa using h30); rw [e6_ (g1 k1).1]; simp [l8c, k1, wdR, ba_]; done) | (have k1 : e.kind = 2 := (by simpa using h39); simp [l8c, k1, wdR, ba_]; done) | (have k1 : e.kind = 3 := (by simpa using h47); have q := (g3 k1).2.2.2.2.2.2.2; rw [q, show max (a4_ e.s) 2 = max 2 (a4_ e.s) by omega]; simp [l8c, k1, wdR, ba_]; done) | trace_state)) (by simp only [go_sem, seval, ae_, ad_, ab_, aa_, List.length_append, List.take_of_length_le, ap_, an_, leV, al_, am_, V.inn, us, true_or, or_true]) (by simp only [go_sem, seval, ae_, ad_, ab_, aa_, List.length_append, List.take_of_length_le, ap_, an_, leV, al_, am_, V.inn, us, true_or, or_true]))
   ·refine .seq (.rgn [] (by simp only [go_sem, seval, ae_, ad_, ab_, aa_, List.length_append, List.take_of_length_le, ap_]; rfl) ?_ ?_)
    ·(first | trivial | (simp; done) | (simp [cc_, a9_]; done))
    refine .condB (by simp only [go_sem, seval, ae_, ad_, ab_, aa_, List.length_append, List.take_of_length_le, ap_]; rfl) (by simp only [go_sem, seval, ae_, ad_, ab_, aa_, List.length_append, List.take_of_length_le, ap_]) (fun h47 => ?_) (fun h47 => ?_)
    ·refine .seq (.rgn [a2_ (afn_ (lvl e) 2)] (by simp only [go_sem, seval, ae_, ad_, ab_, aa_, List.length_append, List.take_of_length_le, ap_]; rfl) ?_ ?_)
     ·(first | trivial | (simp; done) | (simp [cc_, a9_]; done))
     refine .seq (.rgn [a2_ (ih (e.kids.getD 0 E0) (max (lvl e) 2) (max (lvl e) 2) (g3 (by simpa using h47)).2.2.2.1 (c5_ a3 _ (bo_ (by have := g3 (by simpa using h47); omega))) (g3 (by simpa using h47)).2.2.2.2.2.1 (by have := g3 (by simpa using h47); omega) (by have := g3 (by simpa using h47); omega) (by omega) (by omega))] (by simp only [go_sem, seval, ae_, ad_, ab_, aa_, List.length_append, List.take_of_length_le, ap_, d7_ (show 0 < e.kids.length by have := g3 (by simpa using h47); omega)]; rfl) ?_ ?_)
     ·have q := g3 (by simpa using h47); simp; omega
     refine .seq (.rgn [a2_ (ht_ d (e.kids.getD 0 E0) (max (lvl e) 2) (g3 (by simpa using h47)).2.2.2.1 (c5_ a3 _ (bo_ (by have := g3 (by simpa using h47); omega))) (g3 (by simpa using h47)).2.2.2.2.2.1 (by have := g3 (by simpa using h47); omega) (by omega))] (by simp only [go_sem, seval, ae_, ad_, ab_, aa_, List.length_append, List.take_of_length_le, ap_, d7_ (show 0 < e.kids.length by have := g3 (by simpa using h47); omega)]; rfl) ?_ ?_)
     ·have q := g3 (by simpa using h47); simp; omega
     refine .seq (.rgn [a2_ (ih (e.kids.getD 1 E0) (lvl e + 1) (lvl e + 1) (g3 (by simpa using h47)).2.2.2.2.1 (c5_ a3 _ (bo_ (by have := g3 (by simpa using h47); omega))) (g3 (by simpa using h47)).2.2.2.2.2.2.1 (by have := g3 (by simpa using h47); omega) (by have := g3 (by simpa using h47); omega) (by have := g3 (by simpa using h47); omega) (by have := g3 (by simpa using h47); omega))] (by simp only [go_sem, seval, ae_, ad_, ab_, aa_, List.length_append, List.take_of_length_le, ap_, d7_ (show 1 < e.kids.length by have := g3 (by simpa using h47); omega), bc_ (show -9223372036854775808 ≤ lvl e + 1 by have := g3 (by simpa using h47); omega) (by have := g3 (by simpa using h47); omega)]; rfl) ?_ ?_)
     ·have q := g3 (by simpa using h47); simp; omega
     refine .rgnD [a2_ (h7_ (l8 (e.kids.getD 1 E0) (lvl e + 1) (lvl e + 1)) ((wds (e.kids.getD 0 E0) (max (lvl e) 2)).length + 1) (by have q := g3 (by simpa using h47); have := (kf_ q.2.2.2.2.1 q.2.2.2.2.2.2.1 (t := lvl e + 1) (b := lvl e + 1) (by omega) (by omega)).1; omega) (fun p hp => by have q := g3 (by simpa using h47); have := (kf_ q.2.2.2.2.1 q.2.2.2.2.2.2.1 (t := lvl e + 1) (b := lvl e + 1) (by omega) (by omega)).2 p hp; omega) (by omega) (by have q := g3 (by simpa using h47); have := hr_ d _ q.2.2.2.1 q.2.2.2.2.2.1 (max (lvl e) 2); omega))] enM (by simp only [go_sem, seval, ae_, ad_, ab_, aa_, List.length_append, List.take_of_length_le, ap_, bc_ (show -9223372036854775808 ≤ ((wds (e.kids.getD 0 E0) (max (lvl e) 2)).length : Int) + 1 by omega) (by have q := g3 (by simpa using h47); have := hr_ d _ q.2.2.2.1 q.2.2.2.2.2.1 (max (lvl e) 2); omega)]; rfl) (by rfl) ?_ ?_
     ·have q := g3 (by simpa using h47); have q1 := (kf_ q.2.2.2.1 q.2.2.2.2.2.1 (t := max (lvl e) 2) (b := max (lvl e) 2) (by omega) (by omega)).1; have q2 := (kf_ q.2.2.2.2.1 q.2.2.2.2.2.2.1 (t := lvl e + 1) (b := lvl e + 1) (by omega) (by omega)).1; simp [-List.getD_eq_getElem?_getD, cc_, a9_]; omega
     refine Exists.intro (()) ⟨?_, ?_⟩
     ·exact ⟨by simp_all, hJ⟩
     refine Can.trans (Can.frz 97 (by simp only [go_sem, seval, ae_, ad_, ab_, aa_, List.length_append, List.take_of_length_le, ap_] <;> rfl) (by simp only [go_sem, seval, ae_, ad_, ab_, aa_, List.length_append, List.take_of_length_le, ap_]) (by simp only [go_sem, seval, ae_, ad_, ab_, aa_, List.length_append, List.take_of_length_le, ap_] <;> rfl) (by simp only [go_sem, seval, ae_, ad_, ab_, aa_, List.length_append, List.take_of_length_le, ap_] <;> rfl)) ?_
     exact Can.weak (Weak.lit (by simp only [go_sem, seval, ae_, ad_, ab_, aa_, List.length_append, List.take_of_length_le, ap_, an_, leV, al_, am_, V.inn, us, true_or, or_true] <;> (first | (have k1 : e.kind = 1 := (by simpa using h30); rw [e6_ (g1 k1).1]; simp [l8c, k1, wdR, ba_]; done) | (have k1 : e.kind = 2 := (by simpa using h39); simp [l8c, k1, wdR, ba_]; done) | (have k1 : e.kind = 3 := (by simpa using h47); have q := (g3 k1).2.2.2.2.2.2.2; rw [q, show max (a4_ e.s) 2 = max 2 (a4_ e.s) by omega]; simp [l8c, k1, wdR, ba_]; done) | trace_state)) (by simp only [go_sem, seval, ae_, ad_, ab_, aa_, List.length_append, List.take_of_length_le, ap_, an_, leV, al_, am_, V.inn, us, true_or, or_true]) (by simp only [go_sem, seval, ae_, ad_, ab_, aa_, List.length_append, List.take_of_length_le, ap_, an_, leV, al_, am_, V.inn, us, true_or, or_true]))
    ·refine .seq (.rgn [a2_ (ih (e.kids.getD 0 E0) 4 b (g4 (by simp_all)).2.1 (c5_ a3 _ (bo_ (by have := g4 (by simp_all); omega))) (g4 (by simp_all)).2.2 (by decide) hb (by decide) hb2), a2_ (h7_ (l8 (e.kids.getD 0 E0) 4 b) op (by have q := g4 (by simp_all); have := (kf_ q.2.1 q.2.2 (t := 4) (b := b) (by omega) hb).1; omega) (fun p hp => by have q := g4 (by simp_all); have := (kf_ q.2.1 q.2.2 (t := 4) (b := b) (by omega) hb).2 p hp; omega) (by rw [hJ]; split <;> decide) (by rw [hJ]; split <;> decide))] (by simp only [go_sem, seval, ae_, ad_, ab_, aa_, List.length_append, List.take_of_length_le, ap_, d7_ (show 0 < e.kids.length by have := g4 (by simp_all); omega)]; rfl) ?_ ?_)
     ·have q := g4 (by simp_all); simp; omega
     refine .ret ⟨.inr rfl, ?_⟩
     exact Out.plain (by simp only [Tryz.results194]; rfl) (by simp only [aq_, a8_, go_sem, seval, ae_, ad_, ab_, aa_, List.length_append, List.take_of_length_le, ap_] <;> (split <;> rfl)) (by simp only [a7_, go_sem, seval, ae_, ad_, ab_, aa_, List.length_append, List.take_of_length_le, ap_] <;> (have k4 : e.kind = 4 := (by simp_all); rw [age_ k4 (g4 k4).1, show op = 0 by rw [hJ, if_neg (by rw [hlv, if_neg (by omega)]; omega)], kw_])) (by simp only [go_sem, seval, ae_, ad_, ab_, aa_, List.length_append, List.take_of_length_le, ap_])
 refine .seq (.rgn [a2_ (h7_ (l8c e) op (by have := hC hJ.1; omega) (fun p hp => by have := (hC hJ.1).2 p hp; omega) (by rw [hJ.2]; split <;> decide) (by rw [hJ.2]; split <;> decide))] (by simp only [go_sem, seval, ae_, ad_, ab_, aa_, List.length_append, List.take_of_length_le, ap_]; rfl) ?_ ?_)
 ·(first | trivial | (simp; done) | (simp [cc_, a9_]; done))
 refine .seq (.seq (.rgn [] (by simp only [go_sem, seval, ae_, ad_, ab_, aa_, List.length_append, List.take_of_length_le, ap_]; rfl) ?_ ?_))
 ·(first | trivial | (simp; done) | (simp [cc_, a9_]; done))
 refine .condB (by simp only [go_sem, seval, ae_, ad_, ab_, aa_, List.length_append, List.take_of_length_le, ap_]; rfl) (by simp only [go_sem, seval, ae_, ad_, ab_, aa_, List.length_append, List.take_of_length_le, ap_]) (fun h93 => ?_) (fun h93 => ?_)
 ·refine .seq (.rgn [] (by simp only [go_sem, seval, ae_, ad_, ab_, aa_, List.length_append, List.take_of_length_le, ap_]; rfl) ?_ ?_)
  ·have q := hC hJ.1; have q2 := hN hJ.1; simp [cc_, a9_, e1_, shf, q2]; omega
  refine .frz 110 (by simp only [go_sem, seval, ae_, ad_, ab_, aa_, List.length_append, List.take_of_length_le, ap_]; rfl) (by simp only [go_sem, seval, ae_, ad_, ab_, aa_, List.length_append, List.take_of_length_le, ap_]) (by simp only [go_sem, seval, ae_, ad_, ab_, aa_, List.length_append, List.take_of_length_le, ap_]; rfl) (by simp only [go_sem, seval, ae_, ad_, ab_, aa_, List.length_append, List.take_of_length_le, ap_]; rfl) ?_
  refine .ret ⟨.inr rfl, ?_⟩
  exact Out.plain (by simp only [Tryz.results194]; rfl) (by simp only [aq_, a8_, go_sem, seval, ae_, ad_, ab_, aa_, List.length_append, List.take_of_length_le, ap_] <;> (split <;> rfl)) (by simp only [a7_, go_sem, seval, ae_, ad_, ab_, aa_, List.length_append, List.take_of_length_le, ap_] <;> (rw [hT hJ.1, h93, hJ.2, if_pos (by omega), List.take_of_length_le (by simp [ae_, ap_]; omega)]; simp [brk, wdR, peel])) (by simp only [go_sem, seval, ae_, ad_, ab_, aa_, List.length_append, List.take_of_length_le, ap_])
 ·refine .skip (.seq (.rgn [] (by simp only [go_sem, seval, ae_, ad_, ab_, aa_, List.length_append, List.take_of_length_le, ap_]; rfl) ?_ ?_))
  ·(first | trivial | (simp; done) | (simp [cc_, a9_]; done))
  refine .ret ⟨.inr rfl, ?_⟩
  exact Out.plain (by simp only [Tryz.results194]; rfl) (by simp only [aq_, a8_, go_sem, seval, ae_, ad_, ab_, aa_, List.length_append, List.take_of_length_le, ap_] <;> (split <;> rfl)) (by simp only [a7_, go_sem, seval, ae_, ad_, ab_, aa_, List.length_append, List.take_of_length_le, ap_] <;> (rw [hT hJ.1, h93, hJ.2]; rfl)) (by simp only [go_sem, seval, ae_, ad_, ab_, aa_, List.length_append, List.take_of_length_le, ap_])
theorem pr_ {e : E} (h : eok e = true) : (l8 e 1 1).length ≤ 3000 ∧ ∀ p ∈ l8 e 1 1, -1 ≤ p.2 ∧ p.2 ≤ 3000 := kf_ (d := 5) (bk_ h) (hj_ h) (by decide) (by decide)
theorem abt_ {e : E} (h : eok e = true) : l8 e 1 1 ≠ [] := fun e0 => by
 have T := ii_ 5 e 1 1 0 (bk_ h) (by decide) (by decide) (by decide)
 have h1 := fh_ 5 e (bk_ h)
 have h2 := (db_ 5 (bare e) 1 h1.1).1
 have h3 := T.len
 rw [e0, l2_] at h3
 simp only [List.length_nil] at h3; omega
theorem z5_ (s : Sl) (h : cw_ s = true) (hs : gi_ s = true) : ACall En 148 [.ag (sC s)] [] [.sl false (wdR (l8L s))] [] := by
 obtain ⟨h0, h1, h2⟩ := fw_ h
 obtain ⟨s1, s1', s2, s3⟩ := gv_ hs
 have X : s.kind = 1 ∨ s.kind = 2 ∨ s.kind = 3 → _ := fun hk => uq_ 5 s.expr 1 1 (bk_ (h1 hk)) s2 (hj_ (h1 hk)) (by decide) (by decide) (by decide) (by decide)
 have X3 : s.kind = 3 → _ := fun hk => uq_ 5 s.thn 1 1 (bk_ (h2 hk)) s3 (hj_ (h2 hk)) (by decide) (by decide) (by decide) (by decide)
 have W : s.kind = 3 → _ := fun hk => ht_ 5 s.expr 1 (bk_ (h1 (.inr (.inr hk)))) s2 (hj_ (h1 (.inr (.inr hk)))) (by decide) (by decide)
 have Sh : s.kind = 1 ∨ s.kind = 2 ∨ s.kind = 3 → ∀ n : Int, 0 ≤ n → n ≤ 1000000 → _ := fun hk n hn hn2 => h7_ (l8 s.expr 1 1) n (by have := (pr_ (h1 hk)).1; omega) (fun p hp => by have := (pr_ (h1 hk)).2 p hp; omega) hn hn2
 have Sh3 : s.kind = 3 → ∀ n : Int, 0 ≤ n → n ≤ 1000000 → _ := fun hk n hn hn2 => h7_ (l8 s.thn 1 1) n (by have := (pr_ (h2 hk)).1; omega) (fun p hp => by have := (pr_ (h2 hk)).2 p hp; omega) hn hn2
 have hW : s.kind = 3 → (wds s.expr 1).length ≤ 36 := fun hk => (cn_ (h1 (.inr (.inr hk))) 1).2.1
 refine ah_ (fn := Tryz.f148) [] Tryz.func148 rfl rfl (by simp) fun C => ?_
 rw [ar_]
 simp only [Tryz.ntmps148, List.length_cons, List.length_nil, Nat.reduceAdd, Nat.reduceSub, List.replicate_succ, List.replicate_zero, List.cons_append, List.nil_append, bd_]
 refine .seq (.rgn [] (by simp only [go_sem, seval, ae_, ad_, ab_, aa_, List.length_append, List.take_of_length_le, ap_, ag_]; rfl) ?_ ?_)
 ·(first | trivial | (simp; done) | (simp [cc_, a9_]; done))
 refine .seq (.seq (.rgn [] (by simp only [go_sem, seval, ae_, ad_, ab_, aa_, List.length_append, List.take_of_length_le, ap_, ag_]; rfl) ?_ ?_))
 ·(first | trivial | (simp; done) | (simp [cc_, a9_]; done))
 refine .block (.seq (.rgn [] (by simp only [go_sem, seval, ae_, ad_, ab_, aa_, List.length_append, List.take_of_length_le, ap_, ag_]; rfl) ?_ ?_))
 ·(first | trivial | (simp; done) | (simp [cc_, a9_]; done))
 refine .condB (by simp only [go_sem, seval, ae_, ad_, ab_, aa_, List.length_append, List.take_of_length_le, ap_, ag_]; rfl) (by simp only [go_sem, seval, ae_, ad_, ab_, aa_, List.length_append, List.take_of_length_le, ap_, ag_]) (fun h7 => ?_) (fun h7 => ?_)
 ·refine .seq (.rgnD [a2_ (X (.inl (by simpa using h7))), a2_ (Sh (.inl (by simpa using h7)) 5 (by decide) (by decide))] enM (by simp only [go_sem, seval, ae_, ad_, ab_, aa_, List.length_append, List.take_of_length_le, ap_, ag_]; rfl) (by rfl) ?_ ?_)
  ·have k := h1 (.inl (by simpa using h7)); have q := (pr_ k).1; have q2 := abt_ k; simp [cc_, a9_, e1_, shf, q2]; omega
  refine .frz 28 (by simp only [go_sem, seval, ae_, ad_, ab_, aa_, List.length_append, List.take_of_length_le, ap_, ag_]; rfl) (by simp only [go_sem, seval, ae_, ad_, ab_, aa_, List.length_append, List.take_of_length_le, ap_, ag_]) (by simp only [go_sem, seval, ae_, ad_, ab_, aa_, List.length_append, List.take_of_length_le, ap_, ag_]; rfl) (by simp only [go_sem, seval, ae_, ad_, ab_, aa_, List.length_append, List.take_of_length_le, ap_, ag_]; rfl) ?_
  refine .ret ⟨.inr rfl, ?_⟩
  exact Out.plain (by simp only [Tryz.results148]; rfl) (by simp only [aq_, a8_, go_sem, seval, ae_, ad_, ab_, aa_, List.length_append, List.take_of_length_le, ap_, ag_] <;> (split <;> rfl)) (by simp only [a7_, go_sem, seval, ae_, ad_, ab_, aa_, List.length_append, List.take_of_length_le, ap_, ag_] <;> (have k : s.kind = 1 := (by simpa using h7); rw [if_pos (by omega), List.take_of_length_le (by simp [ae_, ap_]; omega)]; simp [l8L, k, wdR, peel, wEq])) (by simp only [go_sem, seval, ae_, ad_, ab_, aa_, List.length_append, List.take_of_length_le, ap_, ag_])
 ·refine .seq (.rgn [] (by simp only [go_sem, seval, ae_, ad_, ab_, aa_, List.length_append, List.take_of_length_le, ap_, ag_]; rfl) ?_ ?_)
  ·(first | trivial | (simp; done) | (simp [cc_, a9_]; done))
  refine .condB (by simp only [go_sem, seval, ae_, ad_, ab_, aa_, List.length_append, List.take_of_length_le, ap_, ag_]; rfl) (by simp only [go_sem, seval, ae_, ad_, ab_, aa_, List.length_append, List.take_of_length_le, ap_, ag_]) (fun h19 => ?_) (fun h19 => ?_)
  ·refine .seq (.rgn [a2_ (X (.inr (.inl (by simpa using h19)))), a2_ (Sh (.inr (.inl (by simpa using h19))) 1 (by decide) (by decide))] (by simp only [go_sem, seval, ae_, ad_, ab_, aa_, List.length_append, List.take_of_length_le, ap_, ag_]; rfl) ?_ ?_)
   ·have k := h1 (.inr (.inl (by simpa using h19))); have q := (pr_ k).1; have q2 := abt_ k; simp [cc_, a9_, e1_, shf, q2]; omega
   refine .frz 37 (by simp only [go_sem, seval, ae_, ad_, ab_, aa_, List.length_append, List.take_of_length_le, ap_, ag_]; rfl) (by simp only [go_sem, seval, ae_, ad_, ab_, aa_, List.length_append, List.take_of_length_le, ap_, ag_]) (by simp only [go_sem, seval, ae_, ad_, ab_, aa_, List.length_append, List.take_of_length_le, ap_, ag_]; rfl) (by simp only [go_sem, seval, ae_, ad_, ab_, aa_, List.length_append, List.take_of_length_le, ap_, ag_]; rfl) ?_
   refine .ret ⟨.inr rfl, ?_⟩
   exact Out.plain (by simp only [Tryz.results148]; rfl) (by simp only [aq_, a8_, go_sem, seval, ae_, ad_, ab_, aa_, List.length_append, List.take_of_length_le, ap_, ag_] <;> (split <;> rfl)) (by simp only [a7_, go_sem, seval, ae_, ad_, ab_, aa_, List.length_append, List.take_of_length_le, ap_, ag_] <;> (have k : s.kind = 2 := (by simpa using h19); rw [if_pos (by omega), List.take_of_length_le (by simp [ae_, ap_]; omega)]; simp [l8L, k, wdR, peel, ey_])) (by simp only [go_sem, seval, ae_, ad_, ab_, aa_, List.length_append, List.take_of_length_le, ap_, ag_])
  ·refine .seq (.rgn [] (by simp only [go_sem, seval, ae_, ad_, ab_, aa_, List.length_append, List.take_of_length_le, ap_, ag_]; rfl) ?_ ?_)
   ·(first | trivial | (simp; done) | (simp [cc_, a9_]; done))
   refine .condB (by simp only [go_sem, seval, ae_, ad_, ab_, aa_, List.length_append, List.take_of_length_le, ap_, ag_]; rfl) (by simp only [go_sem, seval, ae_, ad_, ab_, aa_, List.length_append, List.take_of_length_le, ap_, ag_]) (fun h28 => ?_) (fun h28 => ?_)
   ·refine .seq (.rgn [a2_ (W (by simpa using h28))] (by simp only [go_sem, seval, ae_, ad_, ab_, aa_, List.length_append, List.take_of_length_le, ap_, ag_]; rfl) ?_ ?_)
    ·(first | trivial | (simp; done) | (simp [cc_, a9_]; done))
    refine .seq (.rgn [a2_ (X (.inr (.inr (by simpa using h28)))), a2_ (Sh (.inr (.inr (by simpa using h28))) 1 (by decide) (by decide))] (by simp only [go_sem, seval, ae_, ad_, ab_, aa_, List.length_append, List.take_of_length_le, ap_, ag_]; rfl) ?_ ?_)
    ·have k := h1 (.inr (.inr (by simpa using h28))); have q := (pr_ k).1; have q2 := abt_ k; simp [cc_, a9_, e1_, shf, q2]; omega
    refine .seq (.rgn [] (by simp only [go_sem, seval, ae_, ad_, ab_, aa_, List.length_append, List.take_of_length_le, ap_, ag_, bc_ (show -9223372036854775808 ≤ ((wds s.expr 1).length : Int) + 1 by omega) (by have := hW (by simpa using h28); omega)]; rfl) ?_ ?_)
    ·have k := h1 (.inr (.inr (by simpa using h28))); have q := (pr_ k).1; simp [cc_, a9_]; omega
    refine .seq (.rgn [a2_ (X3 (by simpa using h28)), a2_ (Sh3 (by simpa using h28) ((wds s.expr 1).length + 2) (by omega) (by have := hW (by simpa using h28); omega))] (by simp only [go_sem, seval, ae_, ad_, ab_, aa_, List.length_append, List.take_of_length_le, ap_, ag_, bc_ (show -9223372036854775808 ≤ ((wds s.expr 1).length : Int) + 2 by omega) (by have := hW (by simpa using h28); omega)]; rfl) ?_ ?_)
    ·have k := h1 (.inr (.inr (by simpa using h28))); have q := (pr_ k).1; have k2 := h2 (by simpa using h28); have q2 := (pr_ k2).1; simp [cc_, a9_]; omega
    refine .frz 65 (by simp only [go_sem, seval, ae_, ad_, ab_, aa_, List.length_append, List.take_of_length_le, ap_, ag_]; rfl) (by simp only [go_sem, seval, ae_, ad_, ab_, aa_, List.length_append, List.take_of_length_le, ap_, ag_]) (by simp only [go_sem, seval, ae_, ad_, ab_, aa_, List.length_append, List.take_of_length_le, ap_, ag_]; rfl) (by simp only [go_sem, seval, ae_, ad_, ab_, aa_, List.length_append, List.take_of_length_le, ap_, ag_]; rfl) ?_
    refine .ret ⟨.inr rfl, ?_⟩
    exact Out.plain (by simp only [Tryz.results148]; rfl) (by simp only [aq_, a8_, go_sem, seval, ae_, ad_, ab_, aa_, List.length_append, List.take_of_length_le, ap_, ag_] <;> (split <;> rfl)) (by simp only [a7_, go_sem, seval, ae_, ad_, ab_, aa_, List.length_append, List.take_of_length_le, ap_, ag_] <;> (have k : s.kind = 3 := (by simpa using h28); rw [if_pos (by omega), List.take_of_length_le (by simp [ae_, ap_]; omega)]; simp [l8L, k, wdR, peel, ey_, wIf, g7_])) (by simp only [go_sem, seval, ae_, ad_, ab_, aa_, List.length_append, List.take_of_length_le, ap_, ag_])
   ·refine .skip (.seq (.rgn [] (by simp only [go_sem, seval, ae_, ad_, ab_, aa_, List.length_append, List.take_of_length_le, ap_, ag_]; rfl) ?_ ?_))
    ·(first | trivial | (simp; done) | (simp [cc_, a9_]; done))
    refine .can (Can.slotLe 2 (.sl false []) (by simp only [go_sem, seval, ae_, ad_, ab_, aa_, List.length_append, List.take_of_length_le, ap_, ag_] <;> trivial) (by simp only [go_sem, seval, ae_, ad_, ab_, aa_, List.length_append, List.take_of_length_le, ap_, ag_] <;> rfl)) ?_
    refine .ret ⟨.inr rfl, ?_⟩
    exact Out.plain (by simp only [Tryz.results148]; rfl) (by simp only [aq_, a8_, go_sem, seval, ae_, ad_, ab_, aa_, List.length_append, List.take_of_length_le, ap_, ag_] <;> (split <;> rfl)) (by simp only [a7_, go_sem, seval, ae_, ad_, ab_, aa_, List.length_append, List.take_of_length_le, ap_, ag_] <;> (have k : s.kind = 0 := (by simp_all); simp [l8L, k, wdR])) (by simp only [go_sem, seval, ae_, ad_, ab_, aa_, List.length_append, List.take_of_length_le, ap_, ag_])
theorem gh_ {s : Sl} (h : cw_ s = true) : (l8L s).length = (bw (bof s)).length ∧ (l8L s).map (·.1) = bw (bof s) := by
 obtain ⟨h0, h1, h2⟩ := fw_ h
 have T : ∀ e : E, eok e = true → (l8 e 1 1).map (·.1) = wds (bare e) 1 := fun e he => by
  rw [(ii_ 5 e 1 1 0 (bk_ he) (by decide) (by decide) (by decide)).fst, ej_]
 have hm : (l8L s).map (·.1) = bw (bof s) := by
  unfold l8L bw bof
  rcases h0 with k | k | k | k
  ·simp [k]
  ·simp [k, rm_, T _ (h1 (.inl k))]
  ·simp [k, rm_, T _ (h1 (.inr (.inl k)))]
  ·simp [k, rm_, T _ (h1 (.inr (.inr k))), T _ (h2 k)]
 exact ⟨by rw [← hm, List.length_map], hm⟩
end
section
set_option maxRecDepth 100000
set_option maxHeartbeats 4000000
theorem aci_ {e : E} {d : Int} (h : form e d = true) (nx : Int) : src e 1 nx = src e 0 nx := by
 rw [wx_ h 1 nx]
 obtain ⟨_, h1 | h1 | h1 | h1⟩ := bb_ h
 ·simp [h1.1, brk]
 ·simp [h1.1, brk]
 ·have := cp_ h1.2.2.1
  rw [decide_eq_false (show ¬ a4_ e.s < 1 by omega), Bool.and_false]; rfl
 ·simp [h1.1, brk]
def Ltr (L : Wd) : Wd → Wd → Prop
 | [], [] => True
 | w :: B, c :: C => c.1 = w.1 ∧ ((w.2 = -1 ∧ c.2 = -1 ∧ (w.1 = [40] ∨ w.1 = [41] ∨ w.1 = g7_)) ∨ (0 ≤ w.2 ∧ 0 ≤ c.2 ∧ ∃ u, L[c.2.toNat]? = some u ∧ u.2 = w.2 ∧ (u.1 = w.1 ∨ (u.1 = bj_ ∧ w.1 = ey_) ∨ (u.1 = dr_ ∧ w.1 = wIf)))) ∧ Ltr L B C
 | _, _ => False
theorem Ltr.app {L : Wd} : ∀ {B C B' C' : Wd}, Ltr L B C → Ltr L B' C' → Ltr L (B ++ B') (C ++ C')
 | [], [], _, _, _, h => h
 | [], _ :: _, _, _, h, _ => by simp [Ltr] at h
 | _ :: _, [], _, _, h, _ => by simp [Ltr] at h
 | w :: B, c :: C, B', C', h, k => by
  simp only [Ltr] at h
  simp only [List.cons_append, Ltr]
  exact ⟨h.1, h.2.1, h.2.2.app k⟩
theorem Ltr.right {L Q : Wd} : ∀ {B C : Wd}, Ltr L B C → Ltr (L ++ Q) B C
 | [], [], _ => by simp [Ltr]
 | [], _ :: _, h => by simp [Ltr] at h
 | _ :: _, [], h => by simp [Ltr] at h
 | w :: B, c :: C, h => by
  simp only [Ltr] at h ⊢
  refine ⟨h.1, ?_, h.2.2.right⟩
  rcases h.2.1 with h1 | ⟨h1, h2, u, h3, h4⟩
  ·exact .inl h1
  ·exact .inr ⟨h1, h2, u, by rw [List.getElem?_append_left (List.getElem?_eq_some_iff.1 h3).1]; exact h3, h4⟩
def rn_ (l : Wd) : Prop := ∀ p ∈ l, p.2 = -1 → p.1 = [40] ∨ p.1 = [41]
theorem rh_ : ∀ (d : Nat) (e : E) (must nx : Int), form e d = true → pla e = true → 0 ≤ nx → rn_ (src e must nx)
 | 0, e, must, nx, h, _, _ => by have := (bb_ h).1; omega
 | d + 1, e, must, nx, h, hp, hn0 => by
  have e1 : ((d + 1 : Nat) : Int) - 1 = (d : Int) := by omega
  obtain ⟨h0, h1 | h1 | h1 | h1⟩ := bb_ h
  ·rw [m6_ h1.1]; intro p hp h; simp at hp; subst hp; dsimp only at h; omega
  ·rw [lb_ h1.1]; intro p hp h; simp at hp; subst hp; dsimp only at h; omega
  ·obtain ⟨k, hn, ho, hl, ha, hb⟩ := h1
   rw [e1] at ha hb
   have hpk : s5_ e.kids = true := by rw [z3_] at hp; simp only [Bool.and_eq_true] at hp; exact hp.2
   rw [ho_ hl] at hpk
   simp only [s5_, Bool.and_true, Bool.and_eq_true] at hpk
   have hc := db_ d _ 0 ha
   have A := rh_ d _ (max 2 (a4_ e.s)) (nx + 1) ha hpk.1 (by omega)
   have B := rh_ d _ (a4_ e.s + 1) (nx + 1 + cnt (e.kids.getD 0 E0)) hb hpk.2 (by omega)
   rw [ha_ k hl]
   have core : rn_ (src (e.kids.getD 0 E0) (max 2 (a4_ e.s)) (nx + 1) ++ (e.s, nx) :: src (e.kids.getD 1 E0) (a4_ e.s + 1) (nx + 1 + cnt (e.kids.getD 0 E0))) := by
    intro p hp h
    rcases List.mem_append.1 hp with hp | hp
    ·exact A p hp h
    ·rcases List.mem_cons.1 hp with rfl | hp
     ·dsimp only at h; omega
     ·exact B p hp h
   cases decide (a4_ e.s < must) with
   | false => exact core
   | true =>
    intro p hp h
    simp only [brk, if_true, List.mem_cons, List.mem_append, List.not_mem_nil, or_false] at hp
    rcases hp with rfl | hp | rfl
    ·exact .inl rfl
    ·exact core p (by simpa using hp) h
    ·exact .inr rfl
  ·rw [z3_] at hp; simp [h1.1] at hp
theorem Ltr.of {L P : Wd} : ∀ {B C : Wd}, rn_ B → Trc L B C → Ltr (P ++ L) B (shf P.length C)
 | [], [], _, _ => by simp [shf, Ltr]
 | [], _ :: _, _, h => by simp [Trc] at h
 | _ :: _, [], _, h => by simp [Trc] at h
 | w :: B, c :: C, hb, h => by
  simp only [Trc] at h
  have ih := Ltr.of (P := P) (fun p hp => hb p (List.mem_cons_of_mem _ hp)) h.2.2
  simp only [shf, List.map_cons, Ltr] at ih ⊢
  rcases h.2.1 with ⟨h1, h2⟩ | ⟨h1, h2, h3⟩
  ·rw [if_neg (by omega)]
   refine ⟨h.1, .inl ⟨h1, h2, ?_⟩, ih⟩
   rcases hb w List.mem_cons_self h1 with q | q
   ·exact .inl q
   ·exact .inr (.inl q)
  ·rw [if_pos h2]
   refine ⟨h.1, .inr ⟨h1, by dsimp only; omega, w, ?_, rfl, .inl rfl⟩, ih⟩
   dsimp only
   rw [show (c.2 + (P.length : Int)).toNat = P.length + c.2.toNat by omega, List.getElem?_append_right (by omega), Nat.add_sub_cancel_left]
   exact h3
theorem kv_ {e : E} (h : eok e = true) (P : Wd) (nx : Int) (hn : 0 ≤ nx) : Ltr (P ++ src e 0 nx) (src (bare e) 0 nx) (shf P.length (l8 e 1 1)) := by
 have hb := fh_ 5 e (bk_ h)
 have T := ii_ 5 e 1 1 nx (bk_ h) (by decide) (by decide) hn
 rw [aci_ (bk_ h), aci_ hb.1] at T
 exact Ltr.of (rh_ 5 _ 0 nx hb.1 (k1_ e (lw_ h)) hn) T
theorem pa_ {s : Sl} (h : cw_ s = true) : Ltr (ds_ s) (ei_ (bof s)) (l8L s) := by
 obtain ⟨h0, h1, h2⟩ := fw_ h
 unfold ds_ ei_ bof l8L
 rcases h0 with k | k | k | k
 ·simp [k, Ltr]
 ·have q := kv_ (h1 (.inl k)) [(hn_, 100), (s.name, 101), (g7_, -1), (s.type, -1), (wEq, 102)] 0 (by decide)
  simp only [k, if_true, show ¬ (1 : Int) = 0 by omega, if_false]
  simp only [List.cons_append, List.nil_append, List.length_cons, List.length_nil] at q
  simp only [Ltr]
  exact ⟨trivial, .inr ⟨by decide, by decide, (s.name, 101), rfl, rfl, .inl rfl⟩, trivial, .inr ⟨by decide, by decide, (wEq, 102), rfl, rfl, .inl rfl⟩, q⟩
 ·have q := kv_ (h1 (.inr (.inl k))) [(bj_, 103)] 0 (by decide)
  simp only [k, if_true, show ¬ (2 : Int) = 0 by omega, show ¬ (2 : Int) = 1 by omega, if_false]
  simp only [List.cons_append, List.nil_append, List.length_cons, List.length_nil] at q
  simp only [Ltr]
  exact ⟨trivial, .inr ⟨by decide, by decide, (bj_, 103), rfl, rfl, .inr (.inl ⟨rfl, trivial⟩)⟩, q⟩
 ·have he := h1 (.inr (.inr k))
  have q := kv_ he [(dr_, 100)] 0 (by decide)
  have hc := (db_ 5 _ 0 (bk_ he)).2.2.2
  have q2 := kv_ (h2 k) ((dr_, 100) :: src s.expr 0 0 ++ [(bj_, 103)]) (cnt s.expr) (by omega)
  have hl : (src s.expr 0 0).length = (wds s.expr 1).length := by rw [l2_, ev_ (bk_ he)]
  simp only [k, if_true, show ¬ (3 : Int) = 0 by omega, show ¬ (3 : Int) = 1 by omega, show ¬ (3 : Int) = 2 by omega, if_false]
  rw [i4_ 5 _ (bk_ he)]
  refine Ltr.app (Ltr.app (B := (wIf, 100) :: _) (C := (wIf, 0) :: _) ?_ ?_) ?_
  ·simp only [List.cons_append, List.nil_append, List.length_cons, List.length_nil] at q
   simp only [Ltr]
   refine ⟨trivial, .inr ⟨by decide, by decide, (dr_, 100), rfl, rfl, .inr (.inr ⟨rfl, trivial⟩)⟩, ?_⟩
   have := (q.right (Q := [(bj_, 103)])).right (Q := src s.thn 0 (cnt s.expr))
   simpa using this
  ·simp only [Ltr]
   refine ⟨trivial, .inl ⟨trivial, trivial, .inr (.inr trivial)⟩, trivial, .inr ⟨by decide, by omega, (bj_, 103), ?_, rfl, .inr (.inl ⟨rfl, trivial⟩)⟩, trivial⟩
   rw [← hl, show (((src s.expr 0 0).length : Int) + 1).toNat = (src s.expr 0 0).length + 1 by omega]
   simp
  ·have e2 : ((((dr_, 100) :: src s.expr 0 0 ++ [(bj_, 103)] : Wd).length : Nat) : Int) = ((wds s.expr 1).length : Int) + 2 := by rw [← hl]; simp; omega
   rw [e2] at q2
   simpa using q2
theorem s6_ {s : Sl} (h : cw_ s = true) : (ids (ds_ s)).Nodup := by
 obtain ⟨h0, h1, h2⟩ := fw_ h
 have I : ∀ e : E, eok e = true → ∀ nx : Int, 0 ≤ nx → nx ≤ 12 → (ids (src e 0 nx)).Nodup ∧ ∀ i ∈ ids (src e 0 nx), nx ≤ i ∧ i < nx + cnt e ∧ i < 100 := fun e he nx hn hn2 => by
  have := m4_ 5 e 0 nx (bk_ he) hn
  have hc := ju_ he
  exact ⟨this.1, fun i hi => by have := this.2 i hi; omega⟩
 unfold ds_
 rcases h0 with k | k | k | k
 ·simp [k, ids]
 ·obtain ⟨i1, i2⟩ := I _ (h1 (.inl k)) 0 (by decide) (by decide)
  simp only [k, if_true, hx_, show (0 : Int) ≤ 100 by omega, show (0 : Int) ≤ 101 by omega, show (0 : Int) ≤ 102 by omega, show ¬ (0 : Int) ≤ -1 by omega, if_false]
  simp only [List.nodup_cons, List.mem_cons]
  exact ⟨fun h => by rcases h with h | h | h; omega; omega; have := i2 _ h; omega, fun h => by rcases h with h | h; omega; have := i2 _ h; omega, fun h => by have := i2 _ h; omega, i1⟩
 ·obtain ⟨i1, i2⟩ := I _ (h1 (.inr (.inl k))) 0 (by decide) (by decide)
  simp only [k, if_true, show ¬ (2 : Int) = 1 by omega, if_false, hx_, show (0 : Int) ≤ 103 by omega, List.nodup_cons]
  exact ⟨fun h => by have := i2 _ h; omega, i1⟩
 ·have he := h1 (.inr (.inr k))
  have hc := ju_ he
  obtain ⟨i1, i2⟩ := I _ he 0 (by decide) (by decide)
  obtain ⟨j1, j2⟩ := I _ (h2 k) (cnt s.expr) (by omega) (by omega)
  rw [if_neg (by omega), if_neg (by omega), if_pos k]
  have e1 : ids ((dr_, 100) :: src s.expr 0 0 ++ [(bj_, 103)] ++ src s.thn 0 (cnt s.expr)) = 100 :: (ids (src s.expr 0 0) ++ 103 :: ids (src s.thn 0 (cnt s.expr))) := by
   simp [nq_, hx_, ww_]
  rw [e1]
  refine List.nodup_cons.2 ⟨fun h => ?_, List.nodup_append.2 ⟨i1, List.nodup_cons.2 ⟨fun h => by have := j2 _ h; omega, j1⟩, fun a ha b hb => ?_⟩⟩
  ·rcases List.mem_append.1 h with h | h
   ·have := i2 _ h; omega
   ·rcases List.mem_cons.1 h with h | h
    ·omega
    ·have := j2 _ h; omega
  ·have q := i2 a ha
   rcases List.mem_cons.1 hb with rfl | hb
   ·omega
   ·have := j2 b hb; omega
def fr_ (s : Sl) : List Int := (ei_ (bof s)).map fun w => if w.2 < 0 then -1 else fl_ 0 (ds_ s) w.2
theorem Ltr.len {L : Wd} : ∀ {B C : Wd}, Ltr L B C → C.length = B.length
 | [], [], _ => rfl
 | [], _ :: _, h => by simp [Ltr] at h
 | _ :: _, [], h => by simp [Ltr] at h
 | w :: B, c :: C, h => by
  simp only [Ltr] at h
  simp only [List.length_cons, h.2.2.len]
theorem Ltr.get {L : Wd} : ∀ {B C : Wd}, Ltr L B C → ∀ {j : Nat} {w : Str × Int}, B[j]? = some w → ∃ c, C[j]? = some c ∧ c.1 = w.1 ∧ ((w.2 = -1 ∧ c.2 = -1 ∧ (w.1 = [40] ∨ w.1 = [41] ∨ w.1 = g7_)) ∨ (0 ≤ w.2 ∧ 0 ≤ c.2 ∧ ∃ u, L[c.2.toNat]? = some u ∧ u.2 = w.2 ∧ (u.1 = w.1 ∨ (u.1 = bj_ ∧ w.1 = ey_) ∨ (u.1 = dr_ ∧ w.1 = wIf))))
 | [], [], _, j, w, hw => by simp at hw
 | [], _ :: _, h, _, _, _ => by simp [Ltr] at h
 | _ :: _, [], h, _, _, _ => by simp [Ltr] at h
 | v :: B, c :: C, h, j, w, hw => by
  simp only [Ltr] at h
  cases j with
  | zero =>
   simp only [List.getElem?_cons_zero, Option.some.injEq] at hw; subst hw
   exact ⟨c, rfl, h.1, h.2.1⟩
  | succ j =>
   simp only [List.getElem?_cons_succ] at hw ⊢
   exact h.2.2.get hw
theorem r4_ {s : Sl} (h : cw_ s = true) : iy_ s = fr_ s := by
 have T := pa_ h
 have hn := s6_ h
 have hm := nn_ h
 unfold iy_ fr_
 apply List.ext_getElem?
 intro j
 rw [List.getElem?_map, List.getElem?_map]
 cases hj : (ei_ (bof s))[j]? with
 | none =>
  have : (l8L s)[j]? = none := List.getElem?_eq_none (by rw [T.len]; exact List.getElem?_eq_none_iff.1 hj)
  rw [this]; rfl
 | some w =>
  obtain ⟨c, c1, c2, c3⟩ := T.get hj
  rw [c1]
  simp only [Option.map_some, Option.some.injEq]
  rcases c3 with ⟨q1, q2, _⟩ | ⟨q1, q2, u, q3, q4, _⟩
  ·rw [if_pos (by omega), if_pos (by omega)]
  ·rw [if_neg (by omega), if_neg (by omega)]
   have := ld_ 0 hn q3 (by omega)
   rw [hm, q4] at this
   rw [List.getD_eq_getElem?_getD, this]; rfl
theorem aet_ {s : Sl} (h : cw_ s = true) {w : Str × Int} (hw : w ∈ ei_ (bof s)) (h0 : 0 ≤ w.2) : w.2 ∈ ids (ds_ s) := by
 obtain ⟨j, hj⟩ := List.mem_iff_getElem?.1 hw
 obtain ⟨c, _, _, c3⟩ := (pa_ h).get hj
 rcases c3 with ⟨q1, _⟩ | ⟨_, _, u, q3, q4, _⟩
 ·omega
 ·exact re_.2 ⟨List.mem_map.2 ⟨u, List.mem_of_getElem? q3, q4⟩, h0⟩
theorem aga_ {s : Sl} (h : cw_ s = true) : ∀ p ∈ l8L s, p.2 < ((sw' s).length : Int) := fun p hp => by
 have T := pa_ h
 obtain ⟨j, hj⟩ := List.mem_iff_getElem?.1 hp
 have hl := (List.getElem?_eq_some_iff.1 hj).1
 rw [T.len] at hl
 obtain ⟨c, c1, _, c3⟩ := T.get (List.getElem?_eq_getElem hl)
 rw [hj] at c1; cases c1
 rcases c3 with ⟨_, q2, _⟩ | ⟨_, q2, u, q3, _⟩
 ·omega
 ·have := (List.getElem?_eq_some_iff.1 q3).1
  have e : (ds_ s).length = (sw' s).length := by rw [← nn_ h, List.length_map]
  omega
end
section
set_option maxRecDepth 100000
set_option maxHeartbeats 4000000
def emT (s : Sl) : Str := if sok s then bv_ (bw (bof s)) else []
def emF (s : Sl) : List Int := if sok s then fr_ s else []
theorem abb_ {s : Sl} (h : cw_ s = true) : wid (sw' s) ≤ 1000 := by
 have := mk_ h
 have h2 := aad_ (fun s hs => (this.2 s hs).2)
 rw [xn_]; omega
theorem fs_ (s : Sl) : (iy_ s).length = (l8L s).length := by simp [iy_]
theorem qi_ {s : Sl} {k : Nat} (h : k < (l8L s).length) : (iy_ s).getD k 0 = if ((l8L s).getD k ([], 0)).2 < 0 then -1 else (ct_ 0 (sw' s)).getD ((l8L s).getD k ([], 0)).2.toNat 0 := by
 simp [iy_, List.getD_eq_getElem?_getD, List.getElem?_eq_getElem h]
theorem uw_ {l : List Int} {k : Nat} (h : k < l.length) : inR (l.take (k + 1)) = inR (l.take k) ++ [[.i .i64 (l.getD k 0)]] := by
 rw [List.take_add_one, List.getElem?_eq_getElem h, xd_, List.getD_eq_getElem?_getD, List.getElem?_eq_getElem h]; rfl
theorem qd_ {l : List Str} {k : Nat} (h : k < l.length) : bm_ (l.take (k + 1)) = bm_ (l.take k) ++ [[.s (l.getD k [])]] := by
 rw [List.take_add_one, List.getElem?_eq_getElem h, nv_, List.getD_eq_getElem?_getD, List.getElem?_eq_getElem h]; rfl
theorem aaa_ {l : Wd} {k : Nat} (h : k < l.length) : (l.map (·.1)).getD k [] = (l.getD k ([], 0)).1 := by
 simp [List.getD_eq_getElem?_getD, List.getElem?_eq_getElem h]
theorem uy_ (s : Sl) (hs : gi_ s = true) : ACall En 95 [.ag (sC s)] [] [.s (emT s), .sl false (inR (emF s))] [] := by
 have L : sok s = true → (l8L s).length ≤ 76 := fun h => by have := (oh_ (g0_ (dz_ h))).1; have := (gh_ (dz_ h)).1; omega
 have hm : sok s = true → (l8L s).map (·.1) = bw (bof s) := fun h => (gh_ (dz_ h)).2
 refine ah_ (fn := Tryz.f95) [] Tryz.func95 rfl rfl (by simp) fun C => ?_
 rw [ar_]
 simp only [Tryz.ntmps95, List.length_cons, List.length_nil, Nat.reduceAdd, Nat.reduceSub, List.replicate_succ, List.replicate_zero, List.cons_append, List.nil_append, bd_]
 refine .seq (.rgn [] (by simp only [go_sem, seval, ag_, ae_, ad_, ab_, aa_, af_, ac_, av_]; rfl) ?_ ?_)
 ·(first | trivial | (simp; done) | (simp at h23; simp; omega))
 refine .seq (.seq (.rgn [a2_ (qh_ s hs)] (by simp only [go_sem, seval, ag_, ae_, ad_, ab_, aa_, af_, ac_, av_]; rfl) ?_ ?_))
 ·(first | trivial | (simp; done) | (simp at h23; simp; omega))
 refine .condB (by simp only [go_sem, seval, ag_, ae_, ad_, ab_, aa_, af_, ac_, av_]; rfl) (by simp only [go_sem, seval, ag_, ae_, ad_, ab_, aa_, af_, ac_, av_]) (fun h11 => ?_) (fun h11 => ?_)
 ·refine .seq (.rgn [] (by simp only [go_sem, seval, ag_, ae_, ad_, ab_, aa_, af_, ac_, av_]; rfl) ?_ ?_)
  ·(first | trivial | (simp; done) | (simp at h23; simp; omega))
  refine .ret ⟨.inr rfl, ?_⟩
  exact Out.plainL (by simp only [Tryz.results95]; rfl) (by simp only [aq_, a8_, go_sem, seval, ag_, ae_, ad_, ab_, aa_, af_, ac_, av_] <;> (split <;> rfl)) (by simp only [a7_, go_sem, seval, ag_, ae_, ad_, ab_, aa_, af_, ac_, av_] <;> (simp at h11; simp [emT, emF, h11, inR, ler])) (by simp only [go_sem, seval, ag_, ae_, ad_, ab_, aa_, af_, ac_, av_])
 ·refine .skip (.seq (.rgn [c1_ (sok s = true) (fun h => z5_ s (dz_ h) hs)] (by simp only [go_sem, seval, ag_, ae_, ad_, ab_, aa_, af_, ac_, av_]; rfl) ?_ ?_))
  ·simpa using h11
  refine .seq (.rgn [c1_ (sok s = true) (fun h => jj_ s (dz_ h) hs), c1_ (sok s = true) (fun h => ab9_ (sw' s) (by have := (mk_ (dz_ h)).1; omega) (by have := abb_ (dz_ h); omega))] (by simp only [go_sem, seval, ag_, ae_, ad_, ab_, aa_, af_, ac_, av_]; rfl) ?_ ?_)
  ·simpa using h11
  refine .seq (.rgn [] (by simp only [go_sem, seval, ag_, ae_, ad_, ab_, aa_, af_, ac_, av_]; rfl) ?_ ?_)
  ·(first | trivial | (simp; done) | (simp at h23; simp; omega))
  refine .seq (.rgn [] (by simp only [go_sem, seval, ag_, ae_, ad_, ab_, aa_, af_, ac_, av_]; rfl) ?_ ?_)
  ·(first | trivial | (simp; done) | (simp at h23; simp; omega))
  refine .seq (.seq (.rgn [] (by simp only [go_sem, seval, ag_, ae_, ad_, ab_, aa_, af_, ac_, av_]; rfl) ?_ ?_))
  ·(first | trivial | (simp; done) | (simp at h23; simp; omega))
  refine .block (.loopK (fun k : Nat => ⟨[.no, .no, .no, .no, .sl false (wdR (l8L s)), .sl false (inR (ct_ 0 (sw' s))), .ow 60 1 0 k, .ow 61 1 0 k, .i .i64 k, .no, .no, .no, .no, .no, .no, .no, .no, .no, .no, .no, .no, .no, .no, .no, .no, .no, .no, .no, .no, .no, .no, .no, .no, .no, .no, .no, .no, .no, .no, .no, .no, .no, .no, .no, .no, .no, .no, .no, .no, .no, .no, .no, .no, .no, .no, .no, .no], aw_ [(60, ⟨9, 1, bm_ ((bw (bof s)).take k)⟩), (61, ⟨3, 1, inR ((iy_ s).take k)⟩)], us [60, 61]⟩) (fun k : Nat => k ≤ (l8L s).length ∧ sok s = true) (fun k : Nat => (l8L s).length - k) (0) ?_ ?_ (fun k hI => ?_))
  ·exact ⟨by simp, by simpa using h11⟩
  ·refine Can.trans (Can.ownSlot 6 60 9 1 (by simp only [go_sem, seval, ag_, ae_, ad_, ab_, aa_, af_, ac_, av_] <;> rfl) (by simp only [go_sem, seval, ag_, ae_, ad_, ab_, aa_, af_, ac_, av_]) (by simp only [go_sem, seval, ag_, ae_, ad_, ab_, aa_, af_, ac_, av_] <;> rfl)) ?_
   refine Can.trans (Can.ownSlot 7 61 3 1 (by simp only [go_sem, seval, ag_, ae_, ad_, ab_, aa_, af_, ac_, av_] <;> rfl) (by simp only [go_sem, seval, ag_, ae_, ad_, ab_, aa_, af_, ac_, av_]) (by simp only [go_sem, seval, ag_, ae_, ad_, ab_, aa_, af_, ac_, av_] <;> rfl)) ?_
   exact Can.weak (Weak.lit (by simp only [go_sem, seval, ag_, ae_, ad_, ab_, aa_, af_, ac_, av_, an_, leV, al_, am_, V.inn, us, true_or, or_true] <;> (simp)) (by simp only [go_sem, seval, ag_, ae_, ad_, ab_, aa_, af_, ac_, av_, an_, leV, al_, am_, V.inn, us, true_or, or_true]) (by simp only [go_sem, seval, ag_, ae_, ad_, ab_, aa_, af_, ac_, av_, an_, leV, al_, am_, V.inn, us, true_or, or_true] <;> (simp [bm_, inR])))
  refine .seq (.seq (.rgn [] (by simp only [go_sem, seval, ag_, ae_, ad_, ab_, aa_, af_, ac_, av_]; rfl) ?_ ?_))
  ·(first | trivial | (simp; done) | (simp at h23; simp; omega))
  refine .condB (by simp only [go_sem, seval, ag_, ae_, ad_, ab_, aa_, af_, ac_, av_]; rfl) (by simp only [go_sem, seval, ag_, ae_, ad_, ab_, aa_, af_, ac_, av_]) (fun h23 => ?_) (fun h23 => ?_)
  ·refine .skip (.seqJ (fun u : Unit => ⟨[.no, .no, .no, .no, .sl false (wdR (l8L s)), .sl false (inR (ct_ 0 (sw' s))), .ow 43 1 0 (k + 1), .ow 61 1 0 (k + 1), .i .i64 k, .no, .no, .no, .no, .no, .no, .no, .no, .no, .no, .no, .no, .no, .no, .no, .no, .no, .no, .no, .no, .no, .no, .no, .no, .no, .no, .no, .no, .no, .no, .no, .no, .no, .no, .no, .no, .no, .no, .no, .no, .no, .no, .no, .no, .no, .no, .no, .no], aw_ [(43, ⟨9, 1, bm_ ((bw (bof s)).take (k + 1))⟩), (61, ⟨3, 1, inR ((iy_ s).take (k + 1))⟩)], us [43, 61]⟩) (fun u : Unit => True) ?_ (fun u hJ => ?_))
   ·refine .block (.seq (.rgn [] (by simp only [go_sem, seval, ag_, ae_, ad_, ab_, aa_, af_, ac_, av_, he_ (show k < (l8L s).length by simpa using h23)]; rfl) ?_ ?_))
    ·simp only [decide_eq_true_eq] at h23; have q := L hI.2; have q2 := (gh_ (dz_ hI.2)).1; simp; omega
    refine .seq (.rgn [] (by simp only [go_sem, seval, ag_, ae_, ad_, ab_, aa_, af_, ac_, av_, he_ (show k < (l8L s).length by simpa using h23)]; rfl) ?_ ?_)
    ·(first | trivial | (simp; done) | (simp at h23; simp; omega))
    refine .condB (by simp only [go_sem, seval, ag_, ae_, ad_, ab_, aa_, af_, ac_, av_]; rfl) (by simp only [go_sem, seval, ag_, ae_, ad_, ab_, aa_, af_, ac_, av_]) (fun h39 => ?_) (fun h39 => ?_)
    ·refine .rgn [] (by simp only [go_sem, seval, ag_, ae_, ad_, ab_, aa_, af_, ac_, av_]; rfl) ?_ ?_
     ·simp only [decide_eq_true_eq] at h23; have q := L hI.2; have q2 := fs_ s; simp; omega
     refine Exists.intro (()) ⟨?_, ?_⟩
     ·trivial
     refine Can.trans (Can.swap 52 61 (by decide) (by decide) (by decide) (by decide) (by simp only [go_sem, seval, ag_, ae_, ad_, ab_, aa_, af_, ac_, av_, V.cl]) (by simp only [go_sem, seval, ag_, ae_, ad_, ab_, aa_, af_, ac_, av_, V.cl]) (by simp only [go_sem, seval, ag_, ae_, ad_, ab_, aa_, af_, ac_, av_, bn_, sw, swM, rnB] <;> rfl) (by simp only [go_sem, seval, ag_, ae_, ad_, ab_, aa_, af_, ac_, av_, bn_, sw, swM, rnB] <;> rfl) (by simp only [go_sem, seval, ag_, ae_, ad_, ab_, aa_, af_, ac_, av_, bn_, sw, swM, rnB] <;> rfl)) ?_
     exact Can.weak (Weak.lit (by simp only [go_sem, seval, ag_, ae_, ad_, ab_, aa_, af_, ac_, av_, an_, leV, al_, am_, V.inn, us, true_or, or_true] <;> (simp)) (by simp only [go_sem, seval, ag_, ae_, ad_, ab_, aa_, af_, ac_, av_, an_, leV, al_, am_, V.inn, us, true_or, or_true]) (by simp only [go_sem, seval, ag_, ae_, ad_, ab_, aa_, af_, ac_, av_, an_, leV, al_, am_, V.inn, us, true_or, or_true] <;> ((simp only [decide_eq_true_eq] at h23); (have q2 := (gh_ (dz_ hI.2)).1); rw [qd_ (show k < (bw (bof s)).length by omega), uw_ (show k < (iy_ s).length by rw [fs_]; omega), qi_ (show k < (l8L s).length by omega), ← hm hI.2, aaa_ (show k < (l8L s).length by omega)]; (first | (simp only [decide_eq_true_eq] at h39; rw [if_pos h39]; simp; done) | (simp only [decide_eq_false_iff_not] at h39; rw [if_neg h39]; simp; done) | trace_state))))
    ·refine .rgn [] (by simp only [go_sem, seval, ag_, ae_, ad_, ab_, aa_, af_, ac_, av_, he_ (show k < (l8L s).length by simpa using h23), hc_ (show ((l8L s).getD k ([], 0)).2.toNat < (ct_ 0 (sw' s)).length by have := aga_ (dz_ hI.2) _ (bo_ (d := ([], 0)) (show k < (l8L s).length by simpa using h23)); simp only [decide_eq_false_iff_not] at h39; rw [av_]; omega)]; rfl) ?_ ?_
     ·simp only [decide_eq_true_eq] at h23; simp only [decide_eq_false_iff_not] at h39; have q := L hI.2; have q2 := fs_ s; have q3 := aga_ (dz_ hI.2) _ (bo_ (d := ([], 0)) (show k < (l8L s).length by omega)); simp [-List.getD_eq_getElem?_getD]; omega
     refine Exists.intro (()) ⟨?_, ?_⟩
     ·trivial
     refine Can.trans (Can.swap 63 61 (by decide) (by decide) (by decide) (by decide) (by simp only [go_sem, seval, ag_, ae_, ad_, ab_, aa_, af_, ac_, av_, V.cl]) (by simp only [go_sem, seval, ag_, ae_, ad_, ab_, aa_, af_, ac_, av_, V.cl]) (by simp only [go_sem, seval, ag_, ae_, ad_, ab_, aa_, af_, ac_, av_, bn_, sw, swM, rnB] <;> rfl) (by simp only [go_sem, seval, ag_, ae_, ad_, ab_, aa_, af_, ac_, av_, bn_, sw, swM, rnB] <;> rfl) (by simp only [go_sem, seval, ag_, ae_, ad_, ab_, aa_, af_, ac_, av_, bn_, sw, swM, rnB] <;> rfl)) ?_
     exact Can.weak (Weak.lit (by simp only [go_sem, seval, ag_, ae_, ad_, ab_, aa_, af_, ac_, av_, an_, leV, al_, am_, V.inn, us, true_or, or_true] <;> (simp)) (by simp only [go_sem, seval, ag_, ae_, ad_, ab_, aa_, af_, ac_, av_, an_, leV, al_, am_, V.inn, us, true_or, or_true]) (by simp only [go_sem, seval, ag_, ae_, ad_, ab_, aa_, af_, ac_, av_, an_, leV, al_, am_, V.inn, us, true_or, or_true] <;> ((simp only [decide_eq_true_eq] at h23); (have q2 := (gh_ (dz_ hI.2)).1); rw [qd_ (show k < (bw (bof s)).length by omega), uw_ (show k < (iy_ s).length by rw [fs_]; omega), qi_ (show k < (l8L s).length by omega), ← hm hI.2, aaa_ (show k < (l8L s).length by omega)]; (first | (simp only [decide_eq_true_eq] at h39; rw [if_pos h39]; simp; done) | (simp only [decide_eq_false_iff_not] at h39; rw [if_neg h39]; simp; done) | trace_state))))
   refine .rgn [] (by simp only [go_sem, seval, ag_, ae_, ad_, ab_, aa_, af_, ac_, av_]; rfl) ?_ ?_
   ·(first | trivial | (simp; done) | (simp at h23; simp; omega))
   refine Exists.intro (k + 1) ⟨?_, ?_, ?_⟩
   ·simp at h23; exact ⟨by omega, hI.2⟩
   ·simp at h23; omega
   refine Can.trans (Can.swap 43 60 (by decide) (by decide) (by decide) (by decide) (by simp only [go_sem, seval, ag_, ae_, ad_, ab_, aa_, af_, ac_, av_, V.cl]) (by simp only [go_sem, seval, ag_, ae_, ad_, ab_, aa_, af_, ac_, av_, V.cl]) (by simp only [go_sem, seval, ag_, ae_, ad_, ab_, aa_, af_, ac_, av_, bn_, sw, swM, rnB] <;> rfl) (by simp only [go_sem, seval, ag_, ae_, ad_, ab_, aa_, af_, ac_, av_, bn_, sw, swM, rnB] <;> rfl) (by simp only [go_sem, seval, ag_, ae_, ad_, ab_, aa_, af_, ac_, av_, bn_, sw, swM, rnB] <;> rfl)) ?_
   exact Can.weak (Weak.lit (by simp only [go_sem, seval, ag_, ae_, ad_, ab_, aa_, af_, ac_, av_, an_, leV, al_, am_, V.inn, us, true_or, or_true] <;> ((have q := L hI.2); rw [bc_ (by simp at h23; omega) (by simp at h23; omega)]; simp)) (by simp only [go_sem, seval, ag_, ae_, ad_, ab_, aa_, af_, ac_, av_, an_, leV, al_, am_, V.inn, us, true_or, or_true]) (by simp only [go_sem, seval, ag_, ae_, ad_, ab_, aa_, af_, ac_, av_, an_, leV, al_, am_, V.inn, us, true_or, or_true]))
  ·refine .exit (.seq (.rgn [abo_ (sok s = true) (fun h => ig_ (bw (bof s)) (by have := (oh_ (g0_ (dz_ h))).1; omega) (by have := xo_ (g0_ (dz_ h)); omega))] (by simp only [go_sem, seval, ag_, ae_, ad_, ab_, aa_, af_, ac_, av_]; rfl) ?_ ?_))
   ·simp only [decide_eq_false_iff_not] at h23; have q2 := (gh_ (dz_ hI.2)).1; obtain rfl : k = (bw (bof s)).length := (by omega); refine ⟨?_, hI.2⟩; rw [List.take_of_length_le (Nat.le_refl _), if_pos (Nat.le_refl _), List.take_of_length_le (by rw [ab_]; exact Nat.le_refl _)]; exact fk_ _
   refine .frz 61 (by simp only [go_sem, seval, ag_, ae_, ad_, ab_, aa_, af_, ac_, av_]; rfl) (by simp only [go_sem, seval, ag_, ae_, ad_, ab_, aa_, af_, ac_, av_]) (by simp only [go_sem, seval, ag_, ae_, ad_, ab_, aa_, af_, ac_, av_]; rfl) (by simp only [go_sem, seval, ag_, ae_, ad_, ab_, aa_, af_, ac_, av_]; rfl) ?_
   refine .ret ⟨.inr rfl, ?_⟩
   exact Out.plainL (by simp only [Tryz.results95]; rfl) (by simp only [aq_, a8_, go_sem, seval, ag_, ae_, ad_, ab_, aa_, af_, ac_, av_] <;> (split <;> rfl)) (by simp only [a7_, go_sem, seval, ag_, ae_, ad_, ab_, aa_, af_, ac_, av_] <;> (simp at h11; simp only [decide_eq_false_iff_not] at h23; have q2 := (gh_ (dz_ hI.2)).1; have q3 := fs_ s; obtain rfl : k = (iy_ s).length := (by omega); rw [List.take_of_length_le (Nat.le_refl _), if_pos (Nat.le_refl _), List.take_of_length_le (by rw [af_]; exact Nat.le_refl _), r4_ (dz_ hI.2)]; simp [emT, emF, h11, peel, ba_, fk_])) (by simp only [go_sem, seval, ag_, ae_, ad_, ab_, aa_, af_, ac_, av_])
theorem aa7_ : En.P.underlying 116 = some (.map 3 3) := Tryz.underlying116
theorem ac8_ : En.P.underlying 3 = some (.int .i64) := Tryz.underlying3
theorem ac2_ {s : Sl} (h : cw_ s = true) : (ds_ s).length ≤ 76 ∧ ge_ (ds_ s) ≤ 1000 := by
 have h1 := (mk_ h).1
 have h2 := abb_ h
 rw [← nn_ h] at h1 h2
 exact ⟨by simpa using h1, by unfold ge_; omega⟩
theorem act_ {b : Bl} (h : jn_ b = true) : (ei_ b).length ≤ 76 := by
 have h1 := (oh_ h).1
 rw [← xg_ h] at h1
 simpa using h1
theorem yk_ (s : Sl) : (fr_ s).length = (ei_ (bof s)).length := by simp [fr_]
theorem qs_ {s : Sl} {k : Nat} (h : k < (ei_ (bof s)).length) : (fr_ s).getD k 0 = if ((ei_ (bof s)).getD k ([], 0)).2 < 0 then -1 else fl_ 0 (ds_ s) ((ei_ (bof s)).getD k ([], 0)).2 := by
 simp [fr_, List.getD_eq_getElem?_getD, List.getElem?_eq_getElem h]
theorem m7_ {l : List Int} {k : Nat} (h : k < l.length) (z : List V) {r : List V} (hr : r = [.i .i64 (l.getD k 0)]) : (dj_ (inR l) z k).set k r = dj_ (inR l) z (k + 1) := by
 rw [hr, ← hc_ h]; exact gw_ (by rw [af_]; exact h)
theorem adm_ {s : Sl} (h : cw_ s = true) {k : Nat} (hk : k < (ei_ (bof s)).length) (h0 : 0 ≤ ((ei_ (bof s)).getD k ([], 0)).2) : it_ (m2_ (ds_ s) (ds_ s).length) ((ei_ (bof s)).getD k ([], 0)).2 = some (fl_ 0 (ds_ s) ((ei_ (bof s)).getD k ([], 0)).2) :=
 zx_ (s6_ h) (aet_ h (bo_ hk) h0)
theorem ahv_ (s : Sl) (h : cw_ s = true) (hs : gi_ s = true) : ACall En 40 [.ag (sC s)] [] [.s (bv_ (bw (bof s))), .ow 0 1 0 (fr_ s).length] [⟨3, 1, inR (fr_ s)⟩] := by
 obtain ⟨l1, l2⟩ := ac2_ h
 have hb := g0_ h
 have hsb := adp_ hs
 have l3 := act_ hb
 have W := sy_ s h hs
 have Cl := zh_ (ds_ s) (by omega) (by omega)
 have Bo := ach_ s hs (xv_ h).1 (xv_ h).2
 have Bw := sq_ (bof s) hb hsb
 have Bt := aey_ (bof s) hb hsb
 have hfl := yk_ s
 have hll : (inR (fr_ s)).length = (ei_ (bof s)).length := by rw [af_, hfl]
 have hp : ∀ k, cf_ (dj_ (inR (fr_ s)) [.i .i64 0] k) = true := fun k => hw_ (ac_ _) rfl
 have hd1 : ∀ k j, ((dj_ (inR (fr_ s)) [.i .i64 0] k).getD j []).drop 1 = [] := un_ _ _ (fun r hr => wp_ hr) rfl
 have hcl : (ct_ 0 ((ds_ s).map (·.1))).length = (ds_ s).length := by rw [av_, List.length_map]
 refine ah_ (fn := Tryz.f40) [46] Tryz.func40 rfl rfl (by simp) fun C => ?_
 rw [ar_]
 simp only [Tryz.ntmps40, List.length_cons, List.length_nil, Nat.reduceAdd, Nat.reduceSub, List.replicate_succ, List.replicate_zero, List.cons_append, List.nil_append, bd_]
 refine .seq (.rgn [] (by simp only [go_sem, seval, ag_, bf_, ae_, ad_, af_, ac_, hcl, hll, hp, hd1, ai_, ay_]; rfl) ?_ ?_)
 ·first | trivial | simp
 refine .seq (.rgnS [12] [agt_ En 70] (by simp only [go_sem, seval, ag_, bf_, ae_, ad_, af_, ac_, hcl, hll, hp, hd1, ai_, ay_]; rfl) ?_ ?_)
 ·first | trivial | simp
 refine .seq (.rgn [a2_ W] (by simp only [go_sem, seval, ag_, bf_, ae_, ad_, af_, ac_, hcl, hll, hp, hd1, ai_, ay_]; rfl) ?_ ?_)
 ·first | trivial | simp
 refine .seq (.seq (.rgn [a2_ Cl] (by simp only [go_sem, seval, ag_, bf_, ae_, ad_, af_, ac_, hcl, hll, hp, hd1, ai_, ay_]; rfl) ?_ ?_))
 ·first | trivial | simp
 refine .block (.loopK (fun k : Nat => ⟨[.no, .pt 11 11 0 0, .no, .no, .pt 70 0 0 0, .sl false (wdR (ds_ s)), .no, .no, .no, .no, .no, .no, .no, .no, .no, .no, .sl false (inR (ct_ 0 ((ds_ s).map (·.1)))), .i .i64 (ds_ s).length, .i .i64 k, .no, .no, .no, .no, .no, .no, .no, .no, .no, .no, .no, .no, .no, .no, .no, .no, .no, .no, .no, .no, .no, .no, .no, .no, .no, .no, .no, .no, .no, .no, .no, .no, .no, .no, .no, .no, .no, .no, .no, .no, .no, .no, .no], aw_ [(11, ⟨72, 11, [sC s]⟩), (70, ⟨0, 0, mR (m2_ (ds_ s) k)⟩)], us [11, 70]⟩) (fun k : Nat => k ≤ (ds_ s).length) (fun k : Nat => (ds_ s).length - k) (0) ?_ ?_ (fun k hI => ?_))
 ·simp
 ·exact Can.weak (Weak.lit (by simp only [go_sem, seval, ag_, bf_, ae_, ad_, af_, ac_, hcl, hll, hp, hd1, ai_, ay_, an_, leV, al_, am_, V.inn, us, true_or, or_true] <;> (simp)) (by simp only [go_sem, seval, ag_, bf_, ae_, ad_, af_, ac_, hcl, hll, hp, hd1, ai_, ay_, an_, leV, al_, am_, V.inn, us, true_or, or_true]) (by simp only [go_sem, seval, ag_, bf_, ae_, ad_, af_, ac_, hcl, hll, hp, hd1, ai_, ay_, an_, leV, al_, am_, V.inn, us, true_or, or_true] <;> (simp [x5_, mR, ag_])))
 refine .seq (.rgn [] (by simp only [go_sem, seval, ag_, bf_, ae_, ad_, af_, ac_, hcl, hll, hp, hd1, ai_, ay_]; rfl) ?_ ?_)
 ·first | trivial | simp
 refine .seq (.condB (by simp only [go_sem, seval, ag_, bf_, ae_, ad_, af_, ac_, hcl, hll, hp, hd1, ai_, ay_]; rfl) (by simp only [go_sem, seval, ag_, bf_, ae_, ad_, af_, ac_, hcl, hll, hp, hd1, ai_, ay_]) (fun h19 => ?_) (fun h19 => ?_))
 ·refine .skip (.seq (.block (.seq (.rgn [] (by simp only [go_sem, seval, ag_, bf_, ae_, ad_, af_, ac_, hcl, hll, hp, hd1, ai_, ay_, hc_ (show k < (ct_ 0 ((ds_ s).map (·.1))).length by rw [hcl]; simpa using h19)]; rfl) ?_ ?_))))
  ·simp only [decide_eq_true_eq] at h19; omega
  refine .rgnS [0] [agd_ En 70 (m2_ (ds_ s) k) 116 3 3 ((ds_ s).getD k ([], 0)).2 ((ct_ 0 ((ds_ s).map (·.1))).getD k 0) aa7_ ac8_] (by simp only [go_sem, seval, ag_, bf_, ae_, ad_, af_, ac_, hcl, hll, hp, hd1, ai_, ay_, he_ (show k < (ds_ s).length by simpa using h19)]; rfl) ?_ ?_
  ·simp only [decide_eq_true_eq] at h19; omega
  refine .rgn [] (by simp only [go_sem, seval, ag_, bf_, ae_, ad_, af_, ac_, hcl, hll, hp, hd1, ai_, ay_]; rfl) ?_ ?_
  ·first | trivial | simp
  refine Exists.intro (k + 1) ⟨?_, ?_, ?_⟩
  ·simp at h19; omega
  ·simp at h19; omega
  exact Can.weak (Weak.lit (by simp only [go_sem, seval, ag_, bf_, ae_, ad_, af_, ac_, hcl, hll, hp, hd1, ai_, ay_, an_, leV, al_, am_, V.inn, us, true_or, or_true] <;> (rw [bc_ (by simp at h19; omega) (by simp at h19; omega)]; simp)) (by simp only [go_sem, seval, ag_, bf_, ae_, ad_, af_, ac_, hcl, hll, hp, hd1, ai_, ay_, an_, leV, al_, am_, V.inn, us, true_or, or_true]) (by simp only [go_sem, seval, ag_, bf_, ae_, ad_, af_, ac_, hcl, hll, hp, hd1, ai_, ay_, an_, leV, al_, am_, V.inn, us, true_or, or_true] <;> (rw [zd_ (show k < (ds_ s).length by simpa using h19)])))
 ·refine .exit (.seq (.rgn [a2_ Bo, a2_ Bw] (by simp only [go_sem, seval, ag_, bf_, ae_, ad_, af_, ac_, hcl, hll, hp, hd1, ai_, ay_]; rfl) ?_ ?_))
  ·first | trivial | simp
  refine .seq (.rgn [] (by simp only [go_sem, seval, ag_, bf_, ae_, ad_, af_, ac_, hcl, hll, hp, hd1, ai_, ay_]; rfl) ?_ ?_)
  ·omega
  refine .seq (.seq (.rgn [] (by simp only [go_sem, seval, ag_, bf_, ae_, ad_, af_, ac_, hcl, hll, hp, hd1, ai_, ay_]; rfl) ?_ ?_))
  ·first | trivial | simp
  refine .block (.loopK (fun k : Nat => ⟨[.no, .pt 11 11 0 0, .no, .no, .pt 70 0 0 0, .no, .no, .no, .no, .ow 46 1 0 (ei_ (bof s)).length, .no, .no, .no, .no, .no, .no, .no, .no, .no, .no, .no, .no, .no, .no, .no, .no, .no, .no, .no, .no, .no, .no, .no, .no, .no, .no, .no, .sl false (wdR (ei_ (bof s))), .i .i64 (ei_ (bof s)).length, .i .i64 k, .no, .no, .no, .no, .no, .no, .no, .no, .no, .no, .no, .no, .no, .no, .no, .no, .no, .no, .no, .no, .no, .no], aw_ [(11, ⟨72, 11, [sC s]⟩), (70, ⟨0, 0, mR (m2_ (ds_ s) (ds_ s).length)⟩), (46, ⟨3, 1, dj_ (inR (fr_ s)) [.i .i64 0] k⟩)], us [11, 46, 70]⟩) (fun k : Nat => k ≤ (ei_ (bof s)).length) (fun k : Nat => (ei_ (bof s)).length - k) (0) ?_ ?_ (fun k hI => ?_))
  ·simp
  ·exact Can.weak (Weak.lit (by simp only [go_sem, seval, ag_, bf_, ae_, ad_, af_, ac_, hcl, hll, hp, hd1, ai_, ay_, an_, leV, al_, am_, V.inn, us, true_or, or_true] <;> (simp)) (by simp only [go_sem, seval, ag_, bf_, ae_, ad_, af_, ac_, hcl, hll, hp, hd1, ai_, ay_, an_, leV, al_, am_, V.inn, us, true_or, or_true]) (by simp only [go_sem, seval, ag_, bf_, ae_, ad_, af_, ac_, hcl, hll, hp, hd1, ai_, ay_, an_, leV, al_, am_, V.inn, us, true_or, or_true] <;> ((simp only [decide_eq_false_iff_not] at h19); (obtain rfl : k = (ds_ s).length := (by omega)); simp [go_, hll])))
  refine .seq (.rgn [] (by simp only [go_sem, seval, ag_, bf_, ae_, ad_, af_, ac_, hcl, hll, hp, hd1, ai_, ay_]; rfl) ?_ ?_)
  ·first | trivial | simp
  refine .seq (.condB (by simp only [go_sem, seval, ag_, bf_, ae_, ad_, af_, ac_, hcl, hll, hp, hd1, ai_, ay_]; rfl) (by simp only [go_sem, seval, ag_, bf_, ae_, ad_, af_, ac_, hcl, hll, hp, hd1, ai_, ay_]) (fun h40 => ?_) (fun h40 => ?_))
  ·refine .skip (.seqJ (fun u : Unit => ⟨[.no, .pt 11 11 0 0, .no, .no, .pt 70 0 0 0, .no, .no, .no, .no, .ow 46 1 0 (ei_ (bof s)).length, .no, .no, .no, .no, .no, .no, .no, .no, .no, .no, .no, .no, .no, .no, .no, .no, .no, .no, .no, .no, .no, .no, .no, .no, .no, .no, .no, .sl false (wdR (ei_ (bof s))), .i .i64 (ei_ (bof s)).length, .i .i64 k, .no, .no, .no, .no, .no, .no, .no, .no, .no, .no, .no, .no, .no, .no, .no, .no, .no, .no, .no, .no, .no, .no], aw_ [(11, ⟨72, 11, [sC s]⟩), (70, ⟨0, 0, mR (m2_ (ds_ s) (ds_ s).length)⟩), (46, ⟨3, 1, dj_ (inR (fr_ s)) [.i .i64 0] (k + 1)⟩)], us [11, 46, 70]⟩) (fun u : Unit => True) ?_ (fun u hJ => ?_))
   ·refine .block (.seq (.rgn [] (by simp only [go_sem, seval, ag_, bf_, ae_, ad_, af_, ac_, hcl, hll, hp, hd1, ai_, ay_, he_ (show k < (ei_ (bof s)).length by simpa using h40)]; rfl) ?_ ?_))
    ·simp only [decide_eq_true_eq] at h40; omega
    refine .seq (.rgn [] (by simp only [go_sem, seval, ag_, bf_, ae_, ad_, af_, ac_, hcl, hll, hp, hd1, ai_, ay_]; rfl) ?_ ?_)
    ·simp only [decide_eq_true_eq] at h40; omega
    refine .seq (.rgn [] (by simp only [go_sem, seval, ag_, bf_, ae_, ad_, af_, ac_, hcl, hll, hp, hd1, ai_, ay_]; rfl) ?_ ?_)
    ·first | trivial | simp
    refine .condB (by simp only [go_sem, seval, ag_, bf_, ae_, ad_, af_, ac_, hcl, hll, hp, hd1, ai_, ay_]; rfl) (by simp only [go_sem, seval, ag_, bf_, ae_, ad_, af_, ac_, hcl, hll, hp, hd1, ai_, ay_]) (fun h49 => ?_) (fun h49 => ?_)
    ·refine .rgnS [55] [agi_ En 70 (m2_ (ds_ s) (ds_ s).length) 116 3 3 ((ei_ (bof s)).getD k ([], 0)).2 (fl_ 0 (ds_ s) ((ei_ (bof s)).getD k ([], 0)).2) aa7_ ac8_] (by simp only [go_sem, seval, ag_, bf_, ae_, ad_, af_, ac_, hcl, hll, hp, hd1, ai_, ay_]; rfl) ?_ ?_
     ·simp only [decide_eq_true_eq] at h40 h49; refine ⟨⟨adm_ h (by omega) (by omega), by omega⟩, ?_⟩; rw [List.length_set, ai_, hll]; omega
     refine Exists.intro (()) ⟨?_, ?_⟩
     ·trivial
     exact Can.weak (Weak.lit (by simp only [go_sem, seval, ag_, bf_, ae_, ad_, af_, ac_, hcl, hll, hp, hd1, ai_, ay_, an_, leV, al_, am_, V.inn, us, true_or, or_true]) (by simp only [go_sem, seval, ag_, bf_, ae_, ad_, af_, ac_, hcl, hll, hp, hd1, ai_, ay_, an_, leV, al_, am_, V.inn, us, true_or, or_true]) (by simp only [go_sem, seval, ag_, bf_, ae_, ad_, af_, ac_, hcl, hll, hp, hd1, ai_, ay_, an_, leV, al_, am_, V.inn, us, true_or, or_true] <;> ((simp only [decide_eq_true_eq] at h40); (have q := qs_ (show k < (ei_ (bof s)).length by omega)); (have q2 : k < (fr_ s).length := (by omega)); (first | (simp only [decide_eq_true_eq] at h49; rw [if_neg (by omega)] at q; rw [List.set_set, ← q, m7_ q2 [.i .i64 0]]; congr 1; (have q3 : k < (dj_ (inR (fr_ s)) [.i .i64 0] k).length := (by rw [ai_, hll]; omega)); simp [List.getD_eq_getElem?_getD, q3]; done) | (simp only [decide_eq_false_iff_not] at h49; rw [if_pos (by omega)] at q; rw [m7_ q2 [.i .i64 0] (by rw [q])]; done) | trace_state))))
    ·refine .skip ?_
     refine Exists.intro (()) ⟨?_, ?_⟩
     ·trivial
     exact Can.weak (Weak.lit (by simp only [go_sem, seval, ag_, bf_, ae_, ad_, af_, ac_, hcl, hll, hp, hd1, ai_, ay_, an_, leV, al_, am_, V.inn, us, true_or, or_true]) (by simp only [go_sem, seval, ag_, bf_, ae_, ad_, af_, ac_, hcl, hll, hp, hd1, ai_, ay_, an_, leV, al_, am_, V.inn, us, true_or, or_true]) (by simp only [go_sem, seval, ag_, bf_, ae_, ad_, af_, ac_, hcl, hll, hp, hd1, ai_, ay_, an_, leV, al_, am_, V.inn, us, true_or, or_true] <;> ((simp only [decide_eq_true_eq] at h40); (have q := qs_ (show k < (ei_ (bof s)).length by omega)); (have q2 : k < (fr_ s).length := (by omega)); (first | (simp only [decide_eq_true_eq] at h49; rw [if_neg (by omega)] at q; rw [List.set_set, ← q, m7_ q2 [.i .i64 0]]; congr 1; (have q3 : k < (dj_ (inR (fr_ s)) [.i .i64 0] k).length := (by rw [ai_, hll]; omega)); simp [List.getD_eq_getElem?_getD, q3]; done) | (simp only [decide_eq_false_iff_not] at h49; rw [if_pos (by omega)] at q; rw [m7_ q2 [.i .i64 0] (by rw [q])]; done) | trace_state))))
   refine .rgn [] (by simp only [go_sem, seval, ag_, bf_, ae_, ad_, af_, ac_, hcl, hll, hp, hd1, ai_, ay_]; rfl) ?_ ?_
   ·first | trivial | simp
   refine Exists.intro (k + 1) ⟨?_, ?_, ?_⟩
   ·simp at h40; omega
   ·simp at h40; omega
   exact Can.weak (Weak.lit (by simp only [go_sem, seval, ag_, bf_, ae_, ad_, af_, ac_, hcl, hll, hp, hd1, ai_, ay_, an_, leV, al_, am_, V.inn, us, true_or, or_true] <;> (rw [bc_ (by simp at h40; omega) (by simp at h40; omega)]; simp)) (by simp only [go_sem, seval, ag_, bf_, ae_, ad_, af_, ac_, hcl, hll, hp, hd1, ai_, ay_, an_, leV, al_, am_, V.inn, us, true_or, or_true]) (by simp only [go_sem, seval, ag_, bf_, ae_, ad_, af_, ac_, hcl, hll, hp, hd1, ai_, ay_, an_, leV, al_, am_, V.inn, us, true_or, or_true]))
  ·refine .exit (.seq (.rgn [a2_ Bo, a2_ Bt] (by simp only [go_sem, seval, ag_, bf_, ae_, ad_, af_, ac_, hcl, hll, hp, hd1, ai_, ay_]; rfl) ?_ ?_))
   ·first | trivial | simp
   refine .ret ⟨.inr rfl, ?_⟩
   exact Out.mem' (by simp only [Tryz.results40]; rfl) (by simp only [aq_, a8_, go_sem, seval, ag_, bf_, ae_, ad_, af_, ac_, hcl, hll, hp, hd1, ai_, ay_]) (by simp only [a7_, rns, rn, go_sem, seval, ag_, bf_, ae_, ad_, af_, ac_, hcl, hll, hp, hd1, ai_, ay_] <;> (rw [hfl])) (by simp) rfl (by decide) (by simp only [go_sem, seval, ag_, bf_, ae_, ad_, af_, ac_, hcl, hll, hp, hd1, ai_, ay_]) (by simp only [ay_, go_sem, seval, ag_, bf_, ae_, ad_, af_, ac_, hcl, hll, hp, hd1, ai_, ay_]) (by simp only [as_, go_sem, seval, ag_, bf_, ae_, ad_, af_, ac_, hcl, hll, hp, hd1, ai_, ay_] <;> (simp only [decide_eq_false_iff_not] at h40; rw [gu_ (by rw [hll]; omega)]))
end
section
set_option maxRecDepth 100000
set_option maxHeartbeats 4000000
def colLe (X Y : Wd) : Prop := ge_ X ≤ ge_ Y ∧ ∀ i, 0 ≤ i → ((i ∈ X.map (·.2) ↔ i ∈ Y.map (·.2)) ∧ (i ∈ X.map (·.2) → fl_ 0 X i ≤ fl_ 0 Y i))
theorem colLe.refl (X : Wd) : colLe X X := ⟨Int.le_refl _, fun _ _ => ⟨Iff.rfl, fun _ => Int.le_refl _⟩⟩
theorem colLe.app {X X' Y Y' : Wd} (h : colLe X X') (k : colLe Y Y') : colLe (X ++ Y) (X' ++ Y') := by
 refine ⟨by rw [kn_, kn_]; have := h.1; have := k.1; omega, fun i hi => ?_⟩
 obtain ⟨h1, h2⟩ := h.2 i hi
 obtain ⟨k1, k2⟩ := k.2 i hi
 refine ⟨by simp only [List.map_append, List.mem_append, h1, k1], fun hm => ?_⟩
 rw [mi_, mi_]
 by_cases hx : i ∈ X.map (·.2)
 ·rw [if_pos hx, if_pos (h1.1 hx)]; exact h2 hx
 ·rw [if_neg hx, if_neg (fun q => hx (h1.2 q))]
  have hy : i ∈ Y.map (·.2) := by
   rw [List.map_append] at hm
   exact (List.mem_append.1 hm).resolve_left hx
  rw [mb_ i (ge_ X) Y 0 hy, mb_ i (ge_ X') Y' 0 (k1.1 hy)]
  have := k2 hy
  have := h.1
  omega
theorem colLe.none {Q : Wd} (h : ∀ p ∈ Q, p.2 = -1) : colLe [] Q := by
 refine ⟨by rw [k3_]; exact ns_ Q, fun i hi => ⟨⟨fun q => by simp at q, fun q => ?_⟩, fun q => by simp at q⟩⟩
 obtain ⟨p, hp, e⟩ := List.mem_map.1 q
 have := h p hp
 omega
end
end Go.Proofs.YtefmbmafdgedmaaGreatDoor
