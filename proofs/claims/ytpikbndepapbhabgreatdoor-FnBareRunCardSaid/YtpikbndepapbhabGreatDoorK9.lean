/- Texts of lines without types, drawn. Conditions: none. -/
import Derived.Test.YtpikbndepapbhabGreatDoorK8
import Derived.Test.YtpikbndepapbhabGreatDoorKs
import Derived.Test.YtpikbndepapbhabGreatDoorKq
set_option linter.unusedVariables false
set_option linter.unusedSimpArgs false
namespace Go.Proofs.YtpikbndepapbhabGreatDoor
section
set_option maxRecDepth 100000
set_option maxHeartbeats 4000000
def ol_ : List Str := [[], [32], [49], [10], [40], [120]]
def dAl (b : Str) : List Str := (cv_ b 0).1.map fun s => dk_ (bof s)
def tc_ (b : Str) : Str :=
 if cc_ (dAl b) = [] ∨ 0 < b0_ b (cv_ b 0).2 3 then cc_ (dAl b) else pq_ b ((cv_ b 0).2 + 1) ol_ (cc_ (dAl b))
theorem q4_ (b : Str) : (cc_ (dAl b)).length ≤ 10000 := by
 obtain ⟨h1, h2, h3, h4, h5⟩ := is_ b (p := 0) (by decide) (by decide)
 have := ai3_ (l := dAl b) (k := 120) fun s hs => by
  obtain ⟨x, _, rfl⟩ := List.mem_map.1 hs
  exact kl_ _
 have h : (dAl b).length = (cv_ b 0).1.length := by simp [dAl]
 rw [h] at this
 have := Nat.mul_le_mul_right 121 (show (cv_ b 0).1.length ≤ 20 by omega)
 omega
theorem adl_ (b : Str) : (tc_ b).length ≤ 100000 := by
 obtain ⟨h1, h2, h3, h4, h5⟩ := is_ b (p := 0) (by decide) (by decide)
 have k1 := q4_ b
 unfold tc_
 split
 ·omega
 ·have := uf_ (b := b) (p := (cv_ b 0).2 + 1) (l := ol_) (s := cc_ (dAl b)) 6 (by decide) (by decide) (by omega) (by omega)
  omega
theorem ua_ {l : List Sl} {k : Nat} (hk : k < l.length) : bi_ ((l.take (k + 1)).map fun s => dk_ (bof s)) = bi_ ((l.take k).map fun s => dk_ (bof s)) ++ [[.s (dk_ (bof (l.getD k S0)))]] := by
 rw [List.take_add_one, T6_ hk, List.map_append, kt_, T8_, T6_ hk]; rfl
theorem pr_ (c : Str) (h0 : (((cc_ (dAl (c.take 2000))).length : Int) == 0) = false) : ACall En 15 [.sl false (byR c)] [] [.s (tc_ (c.take 2000))] [] := by
 have hb : (c.take 2000).length ≤ 2000 := by simp; omega
 have hO := eq_ c
 generalize hc : c.take 2000 = b at *
 obtain ⟨h1, h2, h3, h4, h5⟩ := is_ b (p := 0) (by decide) (by decide)
 have k1 := q4_ b
 have hd : tc_ b = if cc_ (dAl b) = [] ∨ 0 < b0_ b (cv_ b 0).2 3 then cc_ (dAl b) else pq_ b ((cv_ b 0).2 + 1) ol_ (cc_ (dAl b)) := rfl
 have L6 := pc_ b 0 hb (by decide) (by decide)
 have hA : dAl b = (cv_ b 0).1.map fun s => dk_ (bof s) := rfl
 have T := l4_ (dAl b) (by rw [hA, List.length_map]; omega) (by omega)
 generalize dAl b = ls at *
 generalize cv_ b 0 = P at *
 generalize cc_ ls = s at *
 refine al_ (fn := Tryz.f15) [] Tryz.func15 rfl rfl (by simp) fun C => ?_
 rw [aw_]
 simp only [Tryz.ntmps15, T7_, List.length_nil, Nat.reduceAdd, Nat.reduceSub, List.replicate_succ, List.replicate_zero, List.cons_append, List.nil_append, bo_]
 refine .seq (.rgn [] (by simp only [go_sem, seval, ah_, an_, az_, ak_, am_, ae_, ab_, aa_, h0]; rfl) ?_ ?_)
 ·first | trivial | simp
 refine .seq (.rgn [bm_ [] [90] hO] (by simp only [go_sem, seval, ah_, an_, az_, ak_, am_, ae_, ab_, aa_, h0]; rfl) ?_ ?_)
 ·first | trivial | simp
 refine .seq (.rgn [bm_ [90] [] L6] (by simp only [go_sem, seval, ah_, an_, az_, ak_, am_, ae_, ab_, aa_, h0]; rfl) ?_ ?_)
 ·first | trivial | simp
 refine .seq (.rgn [] (by simp only [go_sem, seval, ah_, an_, az_, ak_, am_, ae_, ab_, aa_, h0]; rfl) ?_ ?_)
 ·first | trivial | simp
 refine .seqJ (fun u : Unit => ⟨[.no, .no, .no, .pt 90 2 0 0, .no, .sl false (bi_ ls), .no, .no, .no, .no, .no, .no, .no, .no, .no, .no, .no, .no, .no, .no, .no, .no, .no, .no, .no, .no, .no, .no, .no, .no, .no, .no, .no, .no, .no, .no, .no, .no, .no, .no, .no, .no, .no, .no, .no, .no, .no, .no, .no, .no, .no, .no, .no, .no, .no, .no, .no, .no], bc_ [(90, rdB b P.2)], us [90]⟩) (fun u : Unit => True) ?_ (fun u hJ => ?_)
 ·refine .seq (.rgn [] (by simp only [go_sem, seval, ah_, an_, az_, ak_, am_, ae_, ab_, aa_, h0]; rfl) ?_ ?_)
  ·first | trivial | simp
  refine .block (.loopK (fun k : Nat => ⟨[.no, .no, .no, .pt 90 2 0 0, .sl false (sR P.1), .ow 60 1 0 k, .i .i64 k, .no, .no, .no, .no, .no, .no, .no, .no, .no, .no, .no, .no, .no, .no, .no, .no, .no, .no, .no, .no, .no, .no, .no, .no, .no, .no, .no, .no, .no, .no, .no, .no, .no, .no, .no, .no, .no, .no, .no, .no, .no, .no, .no, .no, .no, .no, .no, .no, .no, .no, .no], bc_ [(90, rdB b P.2), (60, ⟨9, 1, bi_ ((P.1.take k).map fun s => dk_ (bof s))⟩)], us [90, 60]⟩) (fun k : Nat => k ≤ P.1.length) (fun k : Nat => P.1.length - k) (0) ?_ ?_ (fun k hI => ?_))
  ·simp
  ·refine Can.trans (Can.ownSlot 5 60 9 1 (by simp only [go_sem, seval, ah_, an_, az_, ak_, am_, ae_, ab_, aa_, h0] <;> rfl) (by simp only [go_sem, seval, ah_, an_, az_, ak_, am_, ae_, ab_, aa_, h0]) (by simp only [go_sem, seval, ah_, an_, az_, ak_, am_, ae_, ab_, aa_, h0] <;> rfl)) ?_
   exact Can.weak (Weak.lit (by simp only [go_sem, seval, ah_, an_, az_, ak_, am_, ae_, ab_, aa_, h0, aq_, leV, ao_, ap_, V.inn, us, T9_, Ta_] <;> ((try simp))) (by simp only [go_sem, seval, ah_, an_, az_, ak_, am_, ae_, ab_, aa_, h0, aq_, leV, ao_, ap_, V.inn, us, T9_, Ta_]) (by simp only [go_sem, seval, ah_, an_, az_, ak_, am_, ae_, ab_, aa_, h0, aq_, leV, ao_, ap_, V.inn, us, T9_, Ta_] <;> ((try simp [bi_]))))
  refine .seq (.seq (.rgn [] (by simp only [go_sem, seval, ah_, an_, az_, ak_, am_, ae_, ab_, aa_, h0]; rfl) ?_ ?_))
  ·first | trivial | simp
  refine .condB (by simp only [go_sem, seval, ah_, an_, az_, ak_, am_, ae_, ab_, aa_, h0]; rfl) (by simp only [go_sem, seval, ah_, an_, az_, ak_, am_, ae_, ab_, aa_, h0]) (fun h17 => ?_) (fun h17 => ?_)
  ·refine .skip (.seq (.block (.rgn [a1_ (rt_ (P.1.getD k S0) (ex_ h5 (by simpa using h17)).1 (ex_ h5 (by simpa using h17)).2.1 (ex_ h5 (by simpa using h17)).2.2), ck_ (k < P.1.length) (fun h => gc_ (bof (P.1.getD k S0)) (mt_ (ex_ h5 h).1))] (by simp only [go_sem, seval, ah_, an_, az_, ak_, am_, ae_, ab_, aa_, h0, vf_ (show k < P.1.length by simpa using h17)]; rfl) ?_ ?_)))
   ·(first | (simpa using h17) | (simp at h17; simp [cm_, ab_]; omega))
   refine .rgn [] (by simp only [go_sem, seval, ah_, an_, az_, ak_, am_, ae_, ab_, aa_, h0]; rfl) ?_ ?_
   ·first | trivial | simp
   refine Exists.intro (k + 1) ⟨?_, ?_, ?_⟩
   ·simp at h17; omega
   ·simp at h17; omega
   refine Can.trans (Can.swap 38 60 (by decide) (by decide) (by decide) (by decide) (by simp only [go_sem, seval, ah_, an_, az_, ak_, am_, ae_, ab_, aa_, h0, V.cl]) (by simp only [go_sem, seval, ah_, an_, az_, ak_, am_, ae_, ab_, aa_, h0, V.cl]) (by simp only [go_sem, seval, ah_, an_, az_, ak_, am_, ae_, ab_, aa_, h0, bf_, sw, swM, rnB] <;> rfl) (by simp only [go_sem, seval, ah_, an_, az_, ak_, am_, ae_, ab_, aa_, h0, bf_, sw, swM, rnB] <;> rfl) (by simp only [go_sem, seval, ah_, an_, az_, ak_, am_, ae_, ab_, aa_, h0, bf_, sw, swM, rnB] <;> rfl)) ?_
   exact Can.weak (Weak.lit (by simp only [go_sem, seval, ah_, an_, az_, ak_, am_, ae_, ab_, aa_, h0, aq_, leV, ao_, ap_, V.inn, us, T9_, Ta_] <;> (rw [bd_ (by simp at h17; omega) (by simp at h17; omega)]; (try simp))) (by simp only [go_sem, seval, ah_, an_, az_, ak_, am_, ae_, ab_, aa_, h0, aq_, leV, ao_, ap_, V.inn, us, T9_, Ta_]) (by simp only [go_sem, seval, ah_, an_, az_, ak_, am_, ae_, ab_, aa_, h0, aq_, leV, ao_, ap_, V.inn, us, T9_, Ta_] <;> (rw [ua_ (by simpa using h17)])))
  ·refine .exit ?_
   refine Exists.intro (()) ⟨?_, ?_⟩
   ·trivial
   refine Can.trans (Can.frz 60 (by simp only [go_sem, seval, ah_, an_, az_, ak_, am_, ae_, ab_, aa_, h0] <;> rfl) (by simp only [go_sem, seval, ah_, an_, az_, ak_, am_, ae_, ab_, aa_, h0]) (by simp only [go_sem, seval, ah_, an_, az_, ak_, am_, ae_, ab_, aa_, h0] <;> rfl) (by simp only [go_sem, seval, ah_, an_, az_, ak_, am_, ae_, ab_, aa_, h0] <;> rfl)) ?_
   exact Can.weak (Weak.lit (by simp only [go_sem, seval, ah_, an_, az_, ak_, am_, ae_, ab_, aa_, h0, aq_, leV, ao_, ap_, V.inn, us, T9_, Ta_] <;> (simp only [T4_] at h17; (obtain rfl : k = P.1.length := (by omega)); rw [hA]; simp [T1_, leV, ba_, ab_])) (by simp only [go_sem, seval, ah_, an_, az_, ak_, am_, ae_, ab_, aa_, h0, aq_, leV, ao_, ap_, V.inn, us, T9_, Ta_]) (by simp only [go_sem, seval, ah_, an_, az_, ak_, am_, ae_, ab_, aa_, h0, aq_, leV, ao_, ap_, V.inn, us, T9_, Ta_]))
 refine .seq (.rgn [a1_ T] (by simp only [go_sem, seval, ah_, an_, az_, ak_, am_, ae_, ab_, aa_, h0]; rfl) ?_ ?_)
 ·first | trivial | simp
 refine .seq (.seq (.rgn [bm_ [90] [] (di_ b P.2 3 hb (by omega) (by omega))] (by simp only [go_sem, seval, ah_, an_, az_, ak_, am_, ae_, ab_, aa_, h0]; rfl) ?_ ?_))
 ·first | trivial | simp
 refine .condB (by simp only [go_sem, seval, ah_, an_, az_, ak_, am_, ae_, ab_, aa_, h0]; rfl) (by simp only [go_sem, seval, ah_, an_, az_, ak_, am_, ae_, ab_, aa_, h0]) (fun h38 => ?_) (fun h38 => ?_)
 ·refine .seq (.rgn [] (by simp only [go_sem, seval, ah_, an_, az_, ak_, am_, ae_, ab_, aa_, h0]; rfl) ?_ ?_)
  ·first | trivial | simp
  refine .ret ⟨.inr rfl, ?_⟩
  exact Out.plain (by simp only [Tryz.results15]; rfl) (by simp only [av_, a3_, go_sem, seval, ah_, an_, az_, ak_, am_, ae_, ab_, aa_, h0] <;> (split <;> rfl)) (by simp only [a2_, go_sem, seval, ah_, an_, az_, ak_, am_, ae_, ab_, aa_, h0] <;> (rw [hd, if_pos (.inr (by simpa using h38))])) (by simp only [go_sem, seval, ah_, an_, az_, ak_, am_, ae_, ab_, aa_, h0])
 ·refine .skip (.seq (.rgn [bm_ [90] [] (di_ b (P.2 + 1) s.length hb (by omega) (by omega))] (by simp only [go_sem, seval, ah_, an_, az_, ak_, am_, ae_, ab_, aa_, h0]; rfl) ?_ ?_))
  ·first | trivial | simp
  refine .seq (.rgnD [bm_ [90] [] (pi_ b (P.2 + 1 + 1) ol_ (by decide) hb (by omega) (by omega)), bm_ [90] [] (di_ b (P.2 + 1 + 1 + 1) 2 hb (by omega) (by omega))] enM (by simp only [go_sem, seval, ah_, an_, az_, ak_, am_, ae_, ab_, aa_, h0]; rfl) (by rfl) ?_ ?_)
  ·(obtain ⟨q1, q2, q3, q4, q5, q6, q7⟩ := fs_ (b := b) (p := P.2 + 1) h0 (by omega) (by omega) (by omega); have q8 := e1_ (b := b) (p := P.2 + 1 + 1) (l := ol_) (by decide) (by omega) (by omega) 6 (by decide); rw [q3]; refine ⟨⟨⟨⟨⟨⟨q1, q2, Int.le_refl _, by simp⟩, by simp [ol_, bi_, ler, les, leV], by simp⟩, by omega⟩, by simp⟩, q4, q5, Int.le_refl _⟩, ?_⟩; simp only [T2_, List.length_drop, List.length_take] at q7 ⊢; omega)
  refine .ret ⟨.inr rfl, ?_⟩
  exact Out.plain (by simp only [Tryz.results15]; rfl) (by simp only [av_, a3_, go_sem, seval, ah_, an_, az_, ak_, am_, ae_, ab_, aa_, h0] <;> (split <;> rfl)) (by simp only [a2_, go_sem, seval, ah_, an_, az_, ak_, am_, ae_, ab_, aa_, h0] <;> (rw [hd, if_neg (by rw [beq_eq_false_iff_ne] at h0; rintro (h | h); exact h0 (by rw [h]; rfl); simp at h38; omega), pq_, (fs_ (b := b) (p := P.2 + 1) h0 (by omega) (by omega) (by omega)).2.2.1, (fs_ (b := b) (p := P.2 + 1) h0 (by omega) (by omega) (by omega)).2.2.2.2.2.1, List.take_length])) (by simp only [go_sem, seval, ah_, an_, az_, ak_, am_, ae_, ab_, aa_, h0])
theorem pj_ (c : Str) (h0 : (((cc_ (dAl (c.take 2000))).length : Int) == 0) = true) : ACall En 15 [.sl false (byR c)] [] [.s (tc_ (c.take 2000))] [] := by
 have hb : (c.take 2000).length ≤ 2000 := by simp; omega
 have hO := eq_ c
 generalize hc : c.take 2000 = b at *
 obtain ⟨h1, h2, h3, h4, h5⟩ := is_ b (p := 0) (by decide) (by decide)
 have k1 := q4_ b
 have hd : tc_ b = if cc_ (dAl b) = [] ∨ 0 < b0_ b (cv_ b 0).2 3 then cc_ (dAl b) else pq_ b ((cv_ b 0).2 + 1) ol_ (cc_ (dAl b)) := rfl
 have L6 := pc_ b 0 hb (by decide) (by decide)
 have hA : dAl b = (cv_ b 0).1.map fun s => dk_ (bof s) := rfl
 have T := l4_ (dAl b) (by rw [hA, List.length_map]; omega) (by omega)
 generalize dAl b = ls at *
 generalize cv_ b 0 = P at *
 generalize cc_ ls = s at *
 refine al_ (fn := Tryz.f15) [] Tryz.func15 rfl rfl (by simp) fun C => ?_
 rw [aw_]
 simp only [Tryz.ntmps15, T7_, List.length_nil, Nat.reduceAdd, Nat.reduceSub, List.replicate_succ, List.replicate_zero, List.cons_append, List.nil_append, bo_]
 refine .seq (.rgn [] (by simp only [go_sem, seval, ah_, an_, az_, ak_, am_, ae_, ab_, aa_, h0]; rfl) ?_ ?_)
 ·first | trivial | simp
 refine .seq (.rgn [bm_ [] [90] hO] (by simp only [go_sem, seval, ah_, an_, az_, ak_, am_, ae_, ab_, aa_, h0]; rfl) ?_ ?_)
 ·first | trivial | simp
 refine .seq (.rgn [bm_ [90] [] L6] (by simp only [go_sem, seval, ah_, an_, az_, ak_, am_, ae_, ab_, aa_, h0]; rfl) ?_ ?_)
 ·first | trivial | simp
 refine .seq (.rgn [] (by simp only [go_sem, seval, ah_, an_, az_, ak_, am_, ae_, ab_, aa_, h0]; rfl) ?_ ?_)
 ·first | trivial | simp
 refine .seqJ (fun u : Unit => ⟨[.no, .no, .no, .pt 90 2 0 0, .no, .sl false (bi_ ls), .no, .no, .no, .no, .no, .no, .no, .no, .no, .no, .no, .no, .no, .no, .no, .no, .no, .no, .no, .no, .no, .no, .no, .no, .no, .no, .no, .no, .no, .no, .no, .no, .no, .no, .no, .no, .no, .no, .no, .no, .no, .no, .no, .no, .no, .no, .no, .no, .no, .no, .no, .no], bc_ [(90, rdB b P.2)], us [90]⟩) (fun u : Unit => True) ?_ (fun u hJ => ?_)
 ·refine .seq (.rgn [] (by simp only [go_sem, seval, ah_, an_, az_, ak_, am_, ae_, ab_, aa_, h0]; rfl) ?_ ?_)
  ·first | trivial | simp
  refine .block (.loopK (fun k : Nat => ⟨[.no, .no, .no, .pt 90 2 0 0, .sl false (sR P.1), .ow 60 1 0 k, .i .i64 k, .no, .no, .no, .no, .no, .no, .no, .no, .no, .no, .no, .no, .no, .no, .no, .no, .no, .no, .no, .no, .no, .no, .no, .no, .no, .no, .no, .no, .no, .no, .no, .no, .no, .no, .no, .no, .no, .no, .no, .no, .no, .no, .no, .no, .no, .no, .no, .no, .no, .no, .no], bc_ [(90, rdB b P.2), (60, ⟨9, 1, bi_ ((P.1.take k).map fun s => dk_ (bof s))⟩)], us [90, 60]⟩) (fun k : Nat => k ≤ P.1.length) (fun k : Nat => P.1.length - k) (0) ?_ ?_ (fun k hI => ?_))
  ·simp
  ·refine Can.trans (Can.ownSlot 5 60 9 1 (by simp only [go_sem, seval, ah_, an_, az_, ak_, am_, ae_, ab_, aa_, h0] <;> rfl) (by simp only [go_sem, seval, ah_, an_, az_, ak_, am_, ae_, ab_, aa_, h0]) (by simp only [go_sem, seval, ah_, an_, az_, ak_, am_, ae_, ab_, aa_, h0] <;> rfl)) ?_
   exact Can.weak (Weak.lit (by simp only [go_sem, seval, ah_, an_, az_, ak_, am_, ae_, ab_, aa_, h0, aq_, leV, ao_, ap_, V.inn, us, T9_, Ta_] <;> ((try simp))) (by simp only [go_sem, seval, ah_, an_, az_, ak_, am_, ae_, ab_, aa_, h0, aq_, leV, ao_, ap_, V.inn, us, T9_, Ta_]) (by simp only [go_sem, seval, ah_, an_, az_, ak_, am_, ae_, ab_, aa_, h0, aq_, leV, ao_, ap_, V.inn, us, T9_, Ta_] <;> ((try simp [bi_]))))
  refine .seq (.seq (.rgn [] (by simp only [go_sem, seval, ah_, an_, az_, ak_, am_, ae_, ab_, aa_, h0]; rfl) ?_ ?_))
  ·first | trivial | simp
  refine .condB (by simp only [go_sem, seval, ah_, an_, az_, ak_, am_, ae_, ab_, aa_, h0]; rfl) (by simp only [go_sem, seval, ah_, an_, az_, ak_, am_, ae_, ab_, aa_, h0]) (fun h17 => ?_) (fun h17 => ?_)
  ·refine .skip (.seq (.block (.rgn [a1_ (rt_ (P.1.getD k S0) (ex_ h5 (by simpa using h17)).1 (ex_ h5 (by simpa using h17)).2.1 (ex_ h5 (by simpa using h17)).2.2), ck_ (k < P.1.length) (fun h => gc_ (bof (P.1.getD k S0)) (mt_ (ex_ h5 h).1))] (by simp only [go_sem, seval, ah_, an_, az_, ak_, am_, ae_, ab_, aa_, h0, vf_ (show k < P.1.length by simpa using h17)]; rfl) ?_ ?_)))
   ·(first | (simpa using h17) | (simp at h17; simp [cm_, ab_]; omega))
   refine .rgn [] (by simp only [go_sem, seval, ah_, an_, az_, ak_, am_, ae_, ab_, aa_, h0]; rfl) ?_ ?_
   ·first | trivial | simp
   refine Exists.intro (k + 1) ⟨?_, ?_, ?_⟩
   ·simp at h17; omega
   ·simp at h17; omega
   refine Can.trans (Can.swap 38 60 (by decide) (by decide) (by decide) (by decide) (by simp only [go_sem, seval, ah_, an_, az_, ak_, am_, ae_, ab_, aa_, h0, V.cl]) (by simp only [go_sem, seval, ah_, an_, az_, ak_, am_, ae_, ab_, aa_, h0, V.cl]) (by simp only [go_sem, seval, ah_, an_, az_, ak_, am_, ae_, ab_, aa_, h0, bf_, sw, swM, rnB] <;> rfl) (by simp only [go_sem, seval, ah_, an_, az_, ak_, am_, ae_, ab_, aa_, h0, bf_, sw, swM, rnB] <;> rfl) (by simp only [go_sem, seval, ah_, an_, az_, ak_, am_, ae_, ab_, aa_, h0, bf_, sw, swM, rnB] <;> rfl)) ?_
   exact Can.weak (Weak.lit (by simp only [go_sem, seval, ah_, an_, az_, ak_, am_, ae_, ab_, aa_, h0, aq_, leV, ao_, ap_, V.inn, us, T9_, Ta_] <;> (rw [bd_ (by simp at h17; omega) (by simp at h17; omega)]; (try simp))) (by simp only [go_sem, seval, ah_, an_, az_, ak_, am_, ae_, ab_, aa_, h0, aq_, leV, ao_, ap_, V.inn, us, T9_, Ta_]) (by simp only [go_sem, seval, ah_, an_, az_, ak_, am_, ae_, ab_, aa_, h0, aq_, leV, ao_, ap_, V.inn, us, T9_, Ta_] <;> (rw [ua_ (by simpa using h17)])))
  ·refine .exit ?_
   refine Exists.intro (()) ⟨?_, ?_⟩
   ·trivial
   refine Can.trans (Can.frz 60 (by simp only [go_sem, seval, ah_, an_, az_, ak_, am_, ae_, ab_, aa_, h0] <;> rfl) (by simp only [go_sem, seval, ah_, an_, az_, ak_, am_, ae_, ab_, aa_, h0]) (by simp only [go_sem, seval, ah_, an_, az_, ak_, am_, ae_, ab_, aa_, h0] <;> rfl) (by simp only [go_sem, seval, ah_, an_, az_, ak_, am_, ae_, ab_, aa_, h0] <;> rfl)) ?_
   exact Can.weak (Weak.lit (by simp only [go_sem, seval, ah_, an_, az_, ak_, am_, ae_, ab_, aa_, h0, aq_, leV, ao_, ap_, V.inn, us, T9_, Ta_] <;> (simp only [T4_] at h17; (obtain rfl : k = P.1.length := (by omega)); rw [hA]; simp [T1_, leV, ba_, ab_])) (by simp only [go_sem, seval, ah_, an_, az_, ak_, am_, ae_, ab_, aa_, h0, aq_, leV, ao_, ap_, V.inn, us, T9_, Ta_]) (by simp only [go_sem, seval, ah_, an_, az_, ak_, am_, ae_, ab_, aa_, h0, aq_, leV, ao_, ap_, V.inn, us, T9_, Ta_]))
 refine .seq (.rgn [a1_ T] (by simp only [go_sem, seval, ah_, an_, az_, ak_, am_, ae_, ab_, aa_, h0]; rfl) ?_ ?_)
 ·first | trivial | simp
 refine .seq (.seq (.rgn [bm_ [90] [] (di_ b P.2 3 hb (by omega) (by omega))] (by simp only [go_sem, seval, ah_, an_, az_, ak_, am_, ae_, ab_, aa_, h0]; rfl) ?_ ?_))
 ·first | trivial | simp
 refine .condB (by simp only [go_sem, seval, ah_, an_, az_, ak_, am_, ae_, ab_, aa_, h0]; rfl) (by simp only [go_sem, seval, ah_, an_, az_, ak_, am_, ae_, ab_, aa_, h0]) (fun h38 => ?_) (fun h38 => ?_)
 ·refine .seq (.rgn [] (by simp only [go_sem, seval, ah_, an_, az_, ak_, am_, ae_, ab_, aa_, h0]; rfl) ?_ ?_)
  ·first | trivial | simp
  refine .ret ⟨.inr rfl, ?_⟩
  exact Out.plain (by simp only [Tryz.results15]; rfl) (by simp only [av_, a3_, go_sem, seval, ah_, an_, az_, ak_, am_, ae_, ab_, aa_, h0] <;> (split <;> rfl)) (by simp only [a2_, go_sem, seval, ah_, an_, az_, ak_, am_, ae_, ab_, aa_, h0] <;> (rw [hd, if_pos (.inl (by cases s with | nil => rfl | cons x r => rw [beq_iff_eq, T7_] at h0; omega))])) (by simp only [go_sem, seval, ah_, an_, az_, ak_, am_, ae_, ab_, aa_, h0])
 ·simp at h38
theorem pp_ (c : Str) : ACall En 15 [.sl false (byR c)] [] [.s (tc_ (c.take 2000))] [] := by
 cases h0 : (((cc_ (dAl (c.take 2000))).length : Int) == 0) with
 | true => exact pj_ c h0
 | false => exact pr_ c h0
end
end Go.Proofs.YtpikbndepapbhabGreatDoor
