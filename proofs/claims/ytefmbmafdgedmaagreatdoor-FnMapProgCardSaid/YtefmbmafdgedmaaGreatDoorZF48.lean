/- The law FnMapProg: what it answers. Conditions: none. -/
import Derived.Test.YtefmbmafdgedmaaGreatDoorM34
import Derived.Test.YtefmbmafdgedmaaGreatDoorMy
import Derived.Test.YtefmbmafdgedmaaGreatDoorMv
set_option linter.unusedVariables false
set_option linter.unusedSimpArgs false
namespace Go.Proofs.YtefmbmafdgedmaaGreatDoor
set_option maxRecDepth 100000
set_option maxHeartbeats 8000000
theorem xt_ {l : List Sl} {i : Nat} (h : i < l.length) : (l.map emT).getD i [] = emT (l.getD i S0) := by
 simp [List.getD_eq_getElem?_getD, List.getElem?_eq_getElem h]
theorem aam_ (a b c d : Int) : (some ([a, b] : List Int) == some [c, d]) = (decide (a = c) && decide (b = d)) := by
 rw [Bool.eq_iff_iff]; simp
theorem pr_ (b : Str) : ACall En 3 [.sl false (byR b)] [] [.b true] [] := by
 have DA := m2_ b
 obtain ⟨la, sa⟩ := d6_p (b.take 2000) (p := 0) (by decide) (by decide)
 generalize (d6 (b.take 2000) 0).1 = l at *
 have hl : (f2_ l).length ≤ 2000 := by
  unfold f2_; split
  ·rename_i h; exact (o6_ h).1
  ·simp
 have hg := zj_ l
 have hT : pok l = true → g3_ (f2_ l) = l.map emT := fun h => nc_ h
 have hm : ∀ i, i < (sgP l).length → pok l = true ∧ ∃ n : Nat, n < l.length ∧ ((sgP l).getD i G0).1 = n ∧ ((sgP l).getD i G0).2.2.1 = n := fun i h => by
  obtain ⟨hp0, i1, k1, l1, l2, l3, l4, e⟩ := iu_ (bh_ (d := G0) h)
  exact ⟨hp0, i1, l1, by rw [e], by rw [e]⟩
 obtain ⟨ln, hln⟩ : ∃ ln : Nat → Nat, ∀ i, i < (sgP l).length → ln i < l.length ∧ ((sgP l).getD i G0).1 = ln i := ⟨fun i => ((sgP l).getD i G0).1.toNat, fun i h => by
  obtain ⟨_, n, h1, h2, _⟩ := hm i h
  refine ⟨?_, ?_⟩
  ·show ((sgP l).getD i G0).1.toNat < l.length; omega
  ·show ((sgP l).getD i G0).1 = (((sgP l).getD i G0).1.toNat : Int); omega⟩
 have hrow : ∀ i, i < (sgP l).length → (sgR (sgP l)).getD i [] = [.i .i64 (ln i), .i .i64 ((sgP l).getD i G0).2.1, .i .i64 ((sgP l).getD i G0).2.2.1, .i .i64 ((sgP l).getD i G0).2.2.2] := fun i h => by rw [j1_ h, (hln i h).2]
 have hts : ∀ i, i < (sgP l).length → sok (l.getD (ln i) S0) = true := fun i h => (b0_ (hm i h).1).2.2 _ (hln i h).1
 have hTK : ∀ i, i < (sgP l).length → ACall En 16 [.s (emT (l.getD (ln i) S0))] [] [.sl false (tkR (tkE (l.getD (ln i) S0))), .b (ci_ (emT (l.getD (ln i) S0))).isSome] [] := fun i h => nu_ (emT (l.getD (ln i) S0)) (by have := pu_ (hts i h); omega)
 have hLk : ∀ i k, i < (sgP l).length → k < (tkE (l.getD (ln i) S0)).length → ((tkE (l.getD (ln i) S0)).getD k T0k).col = ((sgP l).getD i G0).2.1 → ACall En 17 [.sl false (sgR (sgP l)), .ag [.i .i64 (ln i), .i .i64 (((tkE (l.getD (ln i) S0)).getD k T0k).col + ((tkE (l.getD (ln i) S0)).getD k T0k).s.length - 1)]] [] [.ag [.i .i64 ((sgP l).getD i G0).2.2.1, .i .i64 ((sgP l).getD i G0).2.2.2], .b true] [] := fun i k h1 h2 h3 => by
  have := wg_ (sgP l) (ln i) (((tkE (l.getD (ln i) S0)).getD k T0k).col + ((tkE (l.getD (ln i) S0)).getD k T0k).s.length - 1) (by omega)
  rw [yl_ h1 (hln i h1).2 h2 h3] at this
  exact this
 have hBk : ∀ i, i < (sgP l).length → ACall En 18 [.sl false (sgR (sgP l)), .ag [.i .i64 ((sgP l).getD i G0).2.2.1, .i .i64 ((sgP l).getD i G0).2.2.2]] [] [.sl false [[.i .i64 (ln i), .i .i64 ((sgP l).getD i G0).2.1]]] [] := fun i h => by
  have := wh_ (sgP l) ((sgP l).getD i G0).2.2.1 ((sgP l).getD i G0).2.2.2 (by omega)
  rw [xf_ (bh_ (d := G0) h)] at this
  simp only [toR, List.map_cons, List.map_nil, (hln i h).2] at this
  exact this
 have hb := fun i (h : i < (sgP l).length) k (hk : k < (tkE (l.getD (ln i) S0)).length) => sr_ (hts i h) hk
 have hc := aam_
 have htl : ∀ i, i < (sgP l).length → (tkE (l.getD (ln i) S0)).length ≤ 76 := fun i h => by rw [os_ (hts i h)]; exact ov_ (hts i h)
 refine ap_ (fn := Tryz.f3) [] Tryz.func3 rfl rfl (by simp) fun C => ?_
 rw [a0_]
 simp only [Tryz.ntmps3, List.length_cons, List.length_nil, Nat.reduceAdd, Nat.reduceSub, List.replicate_succ, List.replicate_zero, List.cons_append, List.nil_append, bq_]
 refine .seq (.rgn [] (by simp only [go_sem, seval, am_, ai_, ac_, aa_, an_, af_, ao_, aj_, bl_, bm_, a9_, bk_, hc, List.length_map]; rfl) ?_ ?_)
 ·(first | trivial | (simp; done) | (simp only [Bool.and_eq_true, decide_eq_true_eq] at h36; and_intros <;> omega))
 refine .seq (.seq (.rgn [] (by simp only [go_sem, seval, am_, ai_, ac_, aa_, an_, af_, ao_, aj_, bl_, bm_, a9_, bk_, hc, List.length_map]; rfl) ?_ ?_))
 ·(first | trivial | (simp; done) | (simp only [Bool.and_eq_true, decide_eq_true_eq] at h36; and_intros <;> omega))
 refine .condB (by simp only [go_sem, seval, am_, ai_, ac_, aa_, an_, af_, ao_, aj_, bl_, bm_, a9_, bk_, hc, List.length_map]; rfl) (by simp only [go_sem, seval, am_, ai_, ac_, aa_, an_, af_, ao_, aj_, bl_, bm_, a9_, bk_, hc, List.length_map]) (fun h16 => ?_) (fun h16 => ?_)
 ·refine .seq (.rgn [] (by simp only [go_sem, seval, am_, ai_, ac_, aa_, an_, af_, ao_, aj_, bl_, bm_, a9_, bk_, hc, List.length_map]; rfl) ?_ ?_)
  ·(first | trivial | (simp; done) | (simp only [Bool.and_eq_true, decide_eq_true_eq] at h36; and_intros <;> omega))
  refine .ret ⟨.inr rfl, ?_⟩
  exact Out.plain (by simp only [Tryz.results3]; rfl) (by simp only [a1_, bc_, go_sem, seval, am_, ai_, ac_, aa_, an_, af_, ao_, aj_, bl_, bm_, a9_, bk_, hc, List.length_map] <;> (split <;> rfl)) (by simp only [ba_, go_sem, seval, am_, ai_, ac_, aa_, an_, af_, ao_, aj_, bl_, bm_, a9_, bk_, hc, List.length_map] <;> (simp)) (by simp only [go_sem, seval, am_, ai_, ac_, aa_, an_, af_, ao_, aj_, bl_, bm_, a9_, bk_, hc, List.length_map])
 ·refine .skip (.seq (.rgn [a5_ DA] (by simp only [go_sem, seval, am_, ai_, ac_, aa_, an_, af_, ao_, aj_, bl_, bm_, a9_, bk_, hc, List.length_map]; rfl) ?_ ?_))
  ·(first | trivial | (simp; done) | (simp only [Bool.and_eq_true, decide_eq_true_eq] at h36; and_intros <;> omega))
  refine .seq (.rgn [a5_ (se_ l sa (by omega))] (by simp only [go_sem, seval, am_, ai_, ac_, aa_, an_, af_, ao_, aj_, bl_, bm_, a9_, bk_, hc, List.length_map]; rfl) ?_ ?_)
  ·(first | trivial | (simp; done) | (simp only [Bool.and_eq_true, decide_eq_true_eq] at h36; and_intros <;> omega))
  refine .seq (.seq (.rgn [a5_ (qs_ l sa (by omega)), a5_ (sv_ (sgP l) (sgP l) (by omega) (by omega))] (by simp only [go_sem, seval, am_, ai_, ac_, aa_, an_, af_, ao_, aj_, bl_, bm_, a9_, bk_, hc, List.length_map]; rfl) ?_ ?_))
  ·(first | trivial | (simp; done) | (simp only [Bool.and_eq_true, decide_eq_true_eq] at h36; and_intros <;> omega))
  refine .condB (by simp only [go_sem, seval, am_, ai_, ac_, aa_, an_, af_, ao_, aj_, bl_, bm_, a9_, bk_, hc, List.length_map]; rfl) (by simp only [go_sem, seval, am_, ai_, ac_, aa_, an_, af_, ao_, aj_, bl_, bm_, a9_, bk_, hc, List.length_map]) (fun h25 => ?_) (fun h25 => ?_)
  ·cases h25
  ·refine .skip (.seq (.rgn [a5_ (p5_ l sa (by omega)), a5_ (pq_ (f2_ l) (by omega))] (by simp only [go_sem, seval, am_, ai_, ac_, aa_, an_, af_, ao_, aj_, bl_, bm_, a9_, bk_, hc, List.length_map]; rfl) ?_ ?_))
   ·(first | trivial | (simp; done) | (simp only [Bool.and_eq_true, decide_eq_true_eq] at h36; and_intros <;> omega))
   refine .seq (.seq (.rgn [] (by simp only [go_sem, seval, am_, ai_, ac_, aa_, an_, af_, ao_, aj_, bl_, bm_, a9_, bk_, hc, List.length_map]; rfl) ?_ ?_))
   ·(first | trivial | (simp; done) | (simp only [Bool.and_eq_true, decide_eq_true_eq] at h36; and_intros <;> omega))
   refine .block (.loopK (fun i : Nat => ⟨[.no, .no, .no, .sl false (sR l), .sl false (sgR (sgP l)), .sl false (b1_ (g3_ (f2_ l))), .i .i64 i, .no, .no, .no, .no, .no, .no, .no, .no, .no, .no, .no, .no, .no, .no, .no, .no, .no, .no, .no, .no, .no, .no, .no, .no, .no, .no, .no, .no, .no, .no, .no, .no, .no, .no, .no, .no, .no, .no, .no, .no, .no, .no, .no, .no, .no, .no, .no, .no, .no, .no, .no, .no, .no, .no, .no, .no, .no, .no, .no, .no, .no, .no, .no, .no, .no, .no, .no, .no, .no, .no, .no, .no, .no, .no, .no, .no, .no, .no, .no, .no, .no, .no, .no, .no, .no, .no, .no, .no, .no, .no, .no, .no, .no, .no, .no, .no, .no, .no, .no, .no, .no, .no, .no, .no, .no, .no, .no, .no, .no, .no, .no, .no, .no, .no, .no, .no, .no, .no, .no, .no, .no], a6_ [], us []⟩) (fun i : Nat => i ≤ (sgP l).length) (fun i : Nat => (sgP l).length - i) (0) ?_ ?_ (fun i hI => ?_))
   ·simp
   ·exact Can.weak (Weak.lit (by simp only [go_sem, seval, am_, ai_, ac_, aa_, an_, af_, ao_, aj_, bl_, bm_, a9_, bk_, hc, List.length_map, aw_, leV, at_, au_, V.inn, us, true_or, or_true] <;> ((try simp))) (by simp only [go_sem, seval, am_, ai_, ac_, aa_, an_, af_, ao_, aj_, bl_, bm_, a9_, bk_, hc, List.length_map, aw_, leV, at_, au_, V.inn, us, true_or, or_true]) (by simp only [go_sem, seval, am_, ai_, ac_, aa_, an_, af_, ao_, aj_, bl_, bm_, a9_, bk_, hc, List.length_map, aw_, leV, at_, au_, V.inn, us, true_or, or_true]))
   refine .seq (.seq (.rgn [a5_ (oj_ l sa (by omega))] (by simp only [go_sem, seval, am_, ai_, ac_, aa_, an_, af_, ao_, aj_, bl_, bm_, a9_, bk_, hc, List.length_map]; rfl) ?_ ?_))
   ·(first | trivial | (simp; done) | (simp only [Bool.and_eq_true, decide_eq_true_eq] at h36; and_intros <;> omega))
   refine .condB (by simp only [go_sem, seval, am_, ai_, ac_, aa_, an_, af_, ao_, aj_, bl_, bm_, a9_, bk_, hc, List.length_map]; rfl) (by simp only [go_sem, seval, am_, ai_, ac_, aa_, an_, af_, ao_, aj_, bl_, bm_, a9_, bk_, hc, List.length_map]) (fun h36 => ?_) (fun h36 => ?_)
   ·refine .skip (.seq (.block (.seq (.rgn [a5_ (hTK i (by simp at h36; omega))] (by simp only [go_sem, seval, am_, ai_, ac_, aa_, an_, af_, ao_, aj_, bl_, bm_, a9_, bk_, hc, List.length_map, hrow i (by simp at h36; omega), hT (by simp at h36; exact h36.2), gh_ (show ln i < (l.map emT).length by rw [List.length_map]; exact (hln i (by simp at h36; omega)).1), xt_ (hln i (by simp at h36; omega)).1]; rfl) ?_ ?_))))
    ·simp only [Bool.and_eq_true, decide_eq_true_eq] at h36; have q := (hln i (by omega)).1; and_intros <;> first | omega | rfl | trivial
    refine .seq (.seq (.rgn [] (by simp only [go_sem, seval, am_, ai_, ac_, aa_, an_, af_, ao_, aj_, bl_, bm_, a9_, bk_, hc, List.length_map]; rfl) ?_ ?_))
    ·(first | trivial | (simp; done) | (simp only [Bool.and_eq_true, decide_eq_true_eq] at h36; and_intros <;> omega))
    refine .block (.loopK (fun k : Nat => ⟨[.no, .no, .no, .sl false (sR l), .sl false (sgR (sgP l)), .sl false (b1_ (l.map emT)), .i .i64 i, .sl false (tkR (tkE (l.getD (ln i) S0))), .no, .i .i64 k, .no, .no, .no, .no, .no, .no, .no, .no, .no, .no, .no, .no, .no, .no, .no, .no, .no, .no, .no, .no, .no, .no, .no, .no, .no, .no, .no, .no, .no, .no, .no, .no, .no, .no, .no, .no, .no, .no, .no, .no, .no, .no, .no, .no, .no, .no, .no, .no, .no, .no, .no, .no, .no, .no, .no, .no, .no, .no, .no, .no, .no, .no, .no, .no, .no, .no, .no, .no, .no, .no, .no, .no, .no, .no, .no, .no, .no, .no, .no, .no, .no, .no, .no, .no, .no, .no, .no, .no, .no, .no, .no, .no, .no, .no, .no, .no, .no, .no, .no, .no, .no, .no, .no, .no, .no, .no, .no, .no, .no, .no, .no, .no, .no, .no, .no, .no, .no, .no], a6_ [], us []⟩) (fun k : Nat => k ≤ (tkE (l.getD (ln i) S0)).length) (fun k : Nat => (tkE (l.getD (ln i) S0)).length - k) (0) ?_ ?_ (fun k hI => ?_))
    ·simp
    ·exact Can.weak (Weak.lit (by simp only [go_sem, seval, am_, ai_, ac_, aa_, an_, af_, ao_, aj_, bl_, bm_, a9_, bk_, hc, List.length_map, aw_, leV, at_, au_, V.inn, us, true_or, or_true] <;> ((try simp))) (by simp only [go_sem, seval, am_, ai_, ac_, aa_, an_, af_, ao_, aj_, bl_, bm_, a9_, bk_, hc, List.length_map, aw_, leV, at_, au_, V.inn, us, true_or, or_true]) (by simp only [go_sem, seval, am_, ai_, ac_, aa_, an_, af_, ao_, aj_, bl_, bm_, a9_, bk_, hc, List.length_map, aw_, leV, at_, au_, V.inn, us, true_or, or_true]))
    refine .seq (.seq (.rgn [] (by simp only [go_sem, seval, am_, ai_, ac_, aa_, an_, af_, ao_, aj_, bl_, bm_, a9_, bk_, hc, List.length_map]; rfl) ?_ ?_))
    ·(first | trivial | (simp; done) | (simp only [Bool.and_eq_true, decide_eq_true_eq] at h36; and_intros <;> omega))
    refine .condB (by simp only [go_sem, seval, am_, ai_, ac_, aa_, an_, af_, ao_, aj_, bl_, bm_, a9_, bk_, hc, List.length_map]; rfl) (by simp only [go_sem, seval, am_, ai_, ac_, aa_, an_, af_, ao_, aj_, bl_, bm_, a9_, bk_, hc, List.length_map]) (fun h55 => ?_) (fun h55 => ?_)
    ·refine .skip (.seq (.block (.seq (.seq (.rgnD [] enM (by simp only [go_sem, seval, am_, ai_, ac_, aa_, an_, af_, ao_, aj_, bl_, bm_, a9_, bk_, hc, List.length_map, hrow i (by simp at h36; omega), k4_ (show k < (tkE (l.getD (ln i) S0)).length by simpa using h55)]; rfl) (by rfl) ?_ ?_)))))
     ·simp only [Bool.and_eq_true, decide_eq_true_eq] at h36 h55; and_intros <;> first | omega | rfl | trivial
     refine .condB (by simp only [go_sem, seval, am_, ai_, ac_, aa_, an_, af_, ao_, aj_, bl_, bm_, a9_, bk_, hc, List.length_map]; rfl) (by simp only [go_sem, seval, am_, ai_, ac_, aa_, an_, af_, ao_, aj_, bl_, bm_, a9_, bk_, hc, List.length_map]) (fun h69 => ?_) (fun h69 => ?_)
     ·refine .exit (.rgn [] (by simp only [go_sem, seval, am_, ai_, ac_, aa_, an_, af_, ao_, aj_, bl_, bm_, a9_, bk_, hc, List.length_map]; rfl) ?_ ?_)
      ·(first | trivial | (simp; done) | (simp only [Bool.and_eq_true, decide_eq_true_eq] at h36; and_intros <;> omega))
      refine Exists.intro (k + 1) ⟨?_, ?_, ?_⟩
      ·simp only [decide_eq_true_eq] at h55; omega
      ·simp only [decide_eq_true_eq] at h55; omega
      exact Can.weak (Weak.lit (by simp only [go_sem, seval, am_, ai_, ac_, aa_, an_, af_, ao_, aj_, bl_, bm_, a9_, bk_, hc, List.length_map, aw_, leV, at_, au_, V.inn, us, true_or, or_true] <;> (have := htl i (by simp at h36; omega); simp only [decide_eq_true_eq] at h55; rw [a7_ (by omega) (by omega)]; (try simp))) (by simp only [go_sem, seval, am_, ai_, ac_, aa_, an_, af_, ao_, aj_, bl_, bm_, a9_, bk_, hc, List.length_map, aw_, leV, at_, au_, V.inn, us, true_or, or_true]) (by simp only [go_sem, seval, am_, ai_, ac_, aa_, an_, af_, ao_, aj_, bl_, bm_, a9_, bk_, hc, List.length_map, aw_, leV, at_, au_, V.inn, us, true_or, or_true]))
     ·refine .skip (.seq (.rgnD [] enM (by simp only [go_sem, seval, am_, ai_, ac_, aa_, an_, af_, ao_, aj_, bl_, bm_, a9_, bk_, hc, List.length_map, hrow i (by simp at h36; omega), k4_ (show k < (tkE (l.getD (ln i) S0)).length by simpa using h55)]; rfl) (by rfl) ?_ ?_))
      ·simp only [Bool.and_eq_true, decide_eq_true_eq] at h36 h55; and_intros <;> first | omega | rfl | trivial
      refine .seq (.rgn [a5_ (hLk i k (by simp at h36; omega) (by simpa using h55) (by simp at h69; exact h69))] (by simp only [go_sem, seval, am_, ai_, ac_, aa_, an_, af_, ao_, aj_, bl_, bm_, a9_, bk_, hc, List.length_map]; rfl) ?_ ?_)
      ·simp only [Bool.and_eq_true, decide_eq_true_eq] at h36 h55; have q := hb i (by omega) k (by omega); have e0 : (⟨0, [], 0⟩ : Tk) = T0k := rfl; simp only [e0]; and_intros <;> first | trivial | rfl | omega | (rw [a7_ (by rw [a7_ (by omega) (by omega)]; omega) (by rw [a7_ (by omega) (by omega)]; omega), a7_ (by omega) (by omega)])
      refine .seq (.rgnDS [105] [bl_ En .neq 36 2 xx_] enM (by simp only [go_sem, seval, am_, ai_, ac_, aa_, an_, af_, ao_, aj_, bl_, bm_, a9_, bk_, hc, List.length_map, hrow i (by simp at h36; omega)]; rfl) (by rfl) ?_ ?_)
      ·(first | trivial | (simp; done) | (simp only [Bool.and_eq_true, decide_eq_true_eq] at h36; and_intros <;> omega))
      refine .condB (by simp only [go_sem, seval, am_, ai_, ac_, aa_, an_, af_, ao_, aj_, bl_, bm_, a9_, bk_, hc, List.length_map]; rfl) (by simp only [go_sem, seval, am_, ai_, ac_, aa_, an_, af_, ao_, aj_, bl_, bm_, a9_, bk_, hc, List.length_map]) (fun h106 => ?_) (fun h106 => ?_)
      ·cases h106
      ·refine .skip (.rgn [] (by simp only [go_sem, seval, am_, ai_, ac_, aa_, an_, af_, ao_, aj_, bl_, bm_, a9_, bk_, hc, List.length_map]; rfl) ?_ ?_)
       ·(first | trivial | (simp; done) | (simp only [Bool.and_eq_true, decide_eq_true_eq] at h36; and_intros <;> omega))
       refine Exists.intro (k + 1) ⟨?_, ?_, ?_⟩
       ·simp only [decide_eq_true_eq] at h55; omega
       ·simp only [decide_eq_true_eq] at h55; omega
       exact Can.weak (Weak.lit (by simp only [go_sem, seval, am_, ai_, ac_, aa_, an_, af_, ao_, aj_, bl_, bm_, a9_, bk_, hc, List.length_map, aw_, leV, at_, au_, V.inn, us, true_or, or_true] <;> (have := htl i (by simp at h36; omega); simp only [decide_eq_true_eq] at h55; rw [a7_ (by omega) (by omega)]; (try simp))) (by simp only [go_sem, seval, am_, ai_, ac_, aa_, an_, af_, ao_, aj_, bl_, bm_, a9_, bk_, hc, List.length_map, aw_, leV, at_, au_, V.inn, us, true_or, or_true]) (by simp only [go_sem, seval, am_, ai_, ac_, aa_, an_, af_, ao_, aj_, bl_, bm_, a9_, bk_, hc, List.length_map, aw_, leV, at_, au_, V.inn, us, true_or, or_true]))
    ·refine .exit (.seq (.rgn [a5_ (hBk i (by simp at h36; omega))] (by simp only [go_sem, seval, am_, ai_, ac_, aa_, an_, af_, ao_, aj_, bl_, bm_, a9_, bk_, hc, List.length_map, hrow i (by simp at h36; omega)]; rfl) ?_ ?_))
     ·(first | trivial | (simp; done) | (simp only [Bool.and_eq_true, decide_eq_true_eq] at h36; and_intros <;> omega))
     refine .seq (.rgnDS [126] [bl_ En .neq 36 2 xx_] enM (by simp only [go_sem, seval, am_, ai_, ac_, aa_, an_, af_, ao_, aj_, bl_, bm_, a9_, bk_, hc, List.length_map, hrow i (by simp at h36; omega)]; rfl) (by rfl) ?_ ?_)
     ·(first | trivial | (simp; done) | (simp only [Bool.and_eq_true, decide_eq_true_eq] at h36; and_intros <;> omega))
     refine .condB (by simp only [go_sem, seval, am_, ai_, ac_, aa_, an_, af_, ao_, aj_, bl_, bm_, a9_, bk_, hc, List.length_map]; rfl) (by simp only [go_sem, seval, am_, ai_, ac_, aa_, an_, af_, ao_, aj_, bl_, bm_, a9_, bk_, hc, List.length_map]) (fun h127 => ?_) (fun h127 => ?_)
     ·simp at h127
     ·refine .skip (.rgn [] (by simp only [go_sem, seval, am_, ai_, ac_, aa_, an_, af_, ao_, aj_, bl_, bm_, a9_, bk_, hc, List.length_map]; rfl) ?_ ?_)
      ·(first | trivial | (simp; done) | (simp only [Bool.and_eq_true, decide_eq_true_eq] at h36; and_intros <;> omega))
      refine Exists.intro (i + 1) ⟨?_, ?_, ?_⟩
      ·simp at h36; omega
      ·simp at h36; omega
      exact Can.weak (Weak.lit (by simp only [go_sem, seval, am_, ai_, ac_, aa_, an_, af_, ao_, aj_, bl_, bm_, a9_, bk_, hc, List.length_map, aw_, leV, at_, au_, V.inn, us, true_or, or_true] <;> (rw [hT (by simp at h36; exact h36.2), a7_ (by simp at h36; omega) (by simp at h36; omega)]; exact ⟨bo_ _, rfl⟩)) (by simp only [go_sem, seval, am_, ai_, ac_, aa_, an_, af_, ao_, aj_, bl_, bm_, a9_, bk_, hc, List.length_map, aw_, leV, at_, au_, V.inn, us, true_or, or_true]) (by simp only [go_sem, seval, am_, ai_, ac_, aa_, an_, af_, ao_, aj_, bl_, bm_, a9_, bk_, hc, List.length_map, aw_, leV, at_, au_, V.inn, us, true_or, or_true]))
   ·refine .exit (.seq (.rgn [] (by simp only [go_sem, seval, am_, ai_, ac_, aa_, an_, af_, ao_, aj_, bl_, bm_, a9_, bk_, hc, List.length_map]; rfl) ?_ ?_))
    ·(first | trivial | (simp; done) | (simp only [Bool.and_eq_true, decide_eq_true_eq] at h36; and_intros <;> omega))
    refine .ret ⟨.inr rfl, ?_⟩
    exact Out.plain (by simp only [Tryz.results3]; rfl) (by simp only [a1_, bc_, go_sem, seval, am_, ai_, ac_, aa_, an_, af_, ao_, aj_, bl_, bm_, a9_, bk_, hc, List.length_map] <;> (split <;> rfl)) (by simp only [ba_, go_sem, seval, am_, ai_, ac_, aa_, an_, af_, ao_, aj_, bl_, bm_, a9_, bk_, hc, List.length_map] <;> (simp)) (by simp only [go_sem, seval, am_, ai_, ac_, aa_, an_, af_, ao_, aj_, bl_, bm_, a9_, bk_, hc, List.length_map])
end Go.Proofs.YtefmbmafdgedmaaGreatDoor
