/- Books, drawn. Conditions: none. -/
import Derived.Test.YtilppnadkfgnfaaGreatDoorK13
import Derived.Test.YtilppnadkfgnfaaGreatDoorK12
set_option linter.unusedVariables false
set_option linter.unusedSimpArgs false
namespace Go.Proofs.YtilppnadkfgnfaaGreatDoor
section
set_option maxRecDepth 100000
set_option maxHeartbeats 4000000
theorem ae8_ {b : Str} {n : Nat} {p : Int} {l : List Str} (h : 0 < n) : eb_ b (n - 1) (dTo b p).2 (l ++ [(dTo b p).1]) = eb_ b n p l := by
 obtain ⟨m, rfl⟩ : ∃ m, n = m + 1 := ⟨n - 1, by omega⟩
 rfl
theorem aef_ {b : Str} {n : Nat} {p : Int} {l : List Str} (h : 0 < n) (h2 : (l.length : Int) < 16 + bo_ b p 2) : go_ b (n - 1) (p + 1) (l ++ [tv_]) = go_ b n p l := by
 obtain ⟨m, rfl⟩ : ∃ m, n = m + 1 := ⟨n - 1, by omega⟩
 show _ = go_ b (m + 1) p l
 rw [go_, if_pos h2]; rfl
theorem jq_ {b : Str} {n : Nat} {p : Int} {l : List Str} (h : 0 < n) (h2 : ¬ (l.length : Int) < 16 + bo_ b p 2) : go_ b n p l = (l, p + 1) := by
 obtain ⟨m, rfl⟩ : ∃ m, n = m + 1 := ⟨n - 1, by omega⟩
 rw [go_, if_neg h2]
theorem vv_ (l : List Str) (s : Str) : bn_ (l ++ [s]) = bn_ l ++ [[.s s]] := by simp [bn_]
theorem oj_ (l : List Str) : ler ((bn_ l).take l.length) (bn_ l) := by rw [T1_ (by rw [ab_]; exact Nat.le_refl _)]; exact bd_ _
theorem abj_ (b : Str) (p : Int) (hb : b.length ≤ 2000) (hp : 0 ≤ p) (hp2 : p < 100000) : ACall En 80 [.pt 0 2 0 0] [rdB b p] [.s (dTx b p).1] [rdB b (dTx b p).2] := by
 have h6 := d2_ b (p := p) (n := 6) hp (by omega) (by decide)
 obtain ⟨d1, d2, d3, d4⟩ := su_ b (1 + (bo_ b p 6).toNat) (p + 1) [] (by omega) (by omega) (fun w hw => by cases hw)
 obtain ⟨t1, t2, t3, t4⟩ := w4_ b hp hp2
 have hT : dTx b p = (cb_ (l5_ b p).1, (l5_ b p).2) := rfl
 have hL : l5_ b p = if bo_ b (eb_ b (1 + (bo_ b p 6).toNat) (p + 1) []).2 30 = 0 then go_ b 20 ((eb_ b (1 + (bo_ b p 6).toNat) (p + 1) []).2 + 1) (eb_ b (1 + (bo_ b p 6).toNat) (p + 1) []).1 else ((eb_ b (1 + (bo_ b p 6).toNat) (p + 1) []).1, (eb_ b (1 + (bo_ b p 6).toNat) (p + 1) []).2 + 1) := rfl
 have hJ0 := pj_ (l := (l5_ b p).1) (k := 300) t3
 have hJ1 := Nat.mul_le_mul_right 301 t4
 simp only [List.length_nil] at d4
 generalize hD : eb_ b (1 + (bo_ b p 6).toNat) (p + 1) [] = D at *
 generalize hR : l5_ b p = R at *
 have hz : ∀ q : Nat × Int × List Str, eb_ b q.1 q.2.1 q.2.2 = D → decide ((q.1 : Int) > 0) = false → (q.2.2, q.2.1) = D := fun q e h => by
  rw [show q.1 = 0 by simpa using h] at e; exact e
 have hw2 : ∀ p : Int, 0 ≤ p ∧ p < 1000000 → IntKind.i64.wrap (16 + bo_ b p 2) = 16 + bo_ b p 2 ∧ bo_ b p 2 < 2 := fun p h => by
  have := d2_ b (p := p) (n := 2) h.1 (by omega) (by decide)
  exact ⟨by rw [bf_ (by omega) (by omega)], this.2⟩
 refine al_ (fn := Tryz.f80) [0] Tryz.func80 rfl rfl (by simp) fun C => ?_
 rw [ay_]
 simp only [Tryz.ntmps80, T7_, List.length_nil, Nat.reduceAdd, Nat.reduceSub, List.replicate_succ, List.replicate_zero, List.cons_append, List.nil_append, bp_]
 refine .seq (.rgn [] (by simp only [go_sem, seval, aj_, ao_, ab_, aa_]; rfl) ?_ ?_)
 ·(first | trivial | (simp; done) | (obtain ⟨e, i1, i2, i3, i4⟩ := hI; and_intros <;> first | omega | (simp; done) | (simp; omega)))
 refine .seq (.rgn [] (by simp only [go_sem, seval, aj_, ao_, ab_, aa_]; rfl) ?_ ?_)
 ·(first | trivial | (simp; done) | (obtain ⟨e, i1, i2, i3, i4⟩ := hI; and_intros <;> first | omega | (simp; done) | (simp; omega)))
 refine .seq (.seq (.rgn [bu_ [0] [] (dr_ b p 6 hb hp (by omega))] (by simp only [go_sem, seval, aj_, ao_, ab_, aa_]; rfl) ?_ ?_))
 ·(first | trivial | (simp; done) | (obtain ⟨e, i1, i2, i3, i4⟩ := hI; and_intros <;> first | omega | (simp; done) | (simp; omega)))
 refine .block (.loopK (fun q : Nat × Int × List Str => ⟨[.pt 0 2 0 0, .no, .no, .ow 60 1 0 q.2.2.length, .i .i64 q.1, .no, .no, .no, .no, .no, .no, .no, .no, .no, .no, .no, .no, .no, .no, .no, .no, .no, .no, .no, .no, .no, .no, .no, .no, .no, .no, .no], bc_ [(0, rdB b q.2.1), (60, ⟨9, 1, bn_ q.2.2⟩)], us [60]⟩) (fun q : Nat × Int × List Str => eb_ b q.1 q.2.1 q.2.2 = D ∧ 0 ≤ q.2.1 ∧ q.2.1 + 1000 * q.1 < 1000000 ∧ wL q.2.2 ∧ q.2.2.length + q.1 ≤ 6) (fun q : Nat × Int × List Str => q.1) ((1 + (bo_ b p 6).toNat, p + 1, [])) ?_ ?_ (fun q hI => ?_))
 ·exact ⟨hD, by dsimp only; omega, by dsimp only; omega, (fun w hw => by cases hw), by dsimp only; simp only [List.length_nil]; omega⟩
 ·refine Can.trans (Can.ownSlot 3 60 9 1 (by simp only [go_sem, seval, aj_, ao_, ab_, aa_] <;> rfl) (by simp only [go_sem, seval, aj_, ao_, ab_, aa_]) (by simp only [go_sem, seval, aj_, ao_, ab_, aa_] <;> rfl)) ?_
  exact Can.weak (Weak.lit (by simp only [go_sem, seval, aj_, ao_, ab_, aa_, as_, leV, aq_, ar_, V.inn, us, T9_, Ta_] <;> (rw [bf_ (by omega) (by omega)]; omega)) (by simp only [go_sem, seval, aj_, ao_, ab_, aa_, as_, leV, aq_, ar_, V.inn, us, T9_, Ta_]) (by simp only [go_sem, seval, aj_, ao_, ab_, aa_, as_, leV, aq_, ar_, V.inn, us, T9_, Ta_] <;> (rfl)))
 refine .seq (.seq (.rgn [] (by simp only [go_sem, seval, aj_, ao_, ab_, aa_]; rfl) ?_ ?_))
 ·(first | trivial | (simp; done) | (obtain ⟨e, i1, i2, i3, i4⟩ := hI; and_intros <;> first | omega | (simp; done) | (simp; omega)))
 refine .condB (by simp only [go_sem, seval, aj_, ao_, ab_, aa_]; rfl) (by simp only [go_sem, seval, aj_, ao_, ab_, aa_]) (fun h10 => ?_) (fun h10 => ?_)
 ·refine .skip (.seq (.block (.rgn [sy_ [0] [] (0 ≤ q.2.1 ∧ q.2.1 < 5000000) (fun h => aap_ b q.2.1 hb h.1 h.2)] (by simp only [go_sem, seval, aj_, ao_, ab_, aa_]; rfl) ?_ ?_)))
  ·(first | trivial | (simp; done) | (obtain ⟨e, i1, i2, i3, i4⟩ := hI; and_intros <;> first | omega | (simp; done) | (simp; omega)))
  refine .rgn [] (by simp only [go_sem, seval, aj_, ao_, ab_, aa_]; rfl) ?_ ?_
  ·(first | trivial | (simp; done) | (obtain ⟨e, i1, i2, i3, i4⟩ := hI; and_intros <;> first | omega | (simp; done) | (simp; omega)))
  refine Exists.intro ((q.1 - 1, (dTo b q.2.1).2, q.2.2 ++ [(dTo b q.2.1).1])) ⟨?_, ?_, ?_⟩
  ·have h0 : 0 < q.1 := (by simpa using h10); obtain ⟨e, i1, i2, i3, i4⟩ := hI; obtain ⟨t1, t2, t3⟩ := ajc_ b i1 (by omega); exact ⟨by rw [← e]; exact ae8_ h0, by dsimp only; omega, by dsimp only; omega, sx_ i3 t3, by dsimp only; rw [T2_, List.length_singleton]; omega⟩
  ·simp at h10; simp; omega
  refine Can.trans (Can.swap 27 60 (by decide) (by decide) (by decide) (by decide) (by simp only [go_sem, seval, aj_, ao_, ab_, aa_, V.cl]) (by simp only [go_sem, seval, aj_, ao_, ab_, aa_, V.cl]) (by simp only [go_sem, seval, aj_, ao_, ab_, aa_, bi_, sw, swM, rnB] <;> rfl) (by simp only [go_sem, seval, aj_, ao_, ab_, aa_, bi_, sw, swM, rnB] <;> rfl) (by simp only [go_sem, seval, aj_, ao_, ab_, aa_, bi_, sw, swM, rnB] <;> rfl)) ?_
  exact Can.weak (Weak.lit (by simp only [go_sem, seval, aj_, ao_, ab_, aa_, as_, leV, aq_, ar_, V.inn, us, T9_, Ta_] <;> (have h0 : 0 < q.1 := (by simpa using h10); obtain ⟨e, i1, i2, i3, i4⟩ := hI; exact ⟨by simp, by rw [bf_ (by omega) (by omega)]; omega⟩)) (by simp only [go_sem, seval, aj_, ao_, ab_, aa_, as_, leV, aq_, ar_, V.inn, us, T9_, Ta_]) (by simp only [go_sem, seval, aj_, ao_, ab_, aa_, as_, leV, aq_, ar_, V.inn, us, T9_, Ta_] <;> (rw [vv_])))
 ·refine .exit (.seqJ (fun u : Unit => ⟨[.no, .no, .no, .sl false (bn_ R.1), .no, .no, .no, .no, .no, .no, .no, .no, .no, .no, .no, .no, .no, .no, .no, .no, .no, .no, .no, .no, .no, .no, .no, .no, .no, .no, .no, .no], bc_ [(0, rdB b R.2)], us []⟩) (fun u : Unit => True) ?_ (fun u hJ => ?_))
  ·refine .seq (.rgn [bu_ [0] [] (dr_ b D.2 30 hb (by omega) (by omega))] (by simp only [go_sem, seval, aj_, ao_, ab_, aa_]; rfl) ?_ ?_)
   ·have e := hz q hI.1 h10; exact ⟨by rw [← e], by simp⟩
   refine .condB (by simp only [go_sem, seval, aj_, ao_, ab_, aa_]; rfl) (by simp only [go_sem, seval, aj_, ao_, ab_, aa_]) (fun h20 => ?_) (fun h20 => ?_)
   ·refine .block (.loopK (fun r : Nat × Int × List Str => ⟨[.pt 0 2 0 0, .no, .no, .ow 60 1 0 r.2.2.length, .no, .no, .no, .no, .no, .no, .no, .no, .no, .no, .no, .no, .no, .no, .no, .no, .no, .no, .no, .no, .no, .no, .no, .no, .no, .no, .no, .no], bc_ [(0, rdB b r.2.1), (60, ⟨9, 1, bn_ r.2.2⟩)], us [60]⟩) (fun r : Nat × Int × List Str => go_ b r.1 r.2.1 r.2.2 = R ∧ 0 ≤ r.2.1 ∧ r.2.1 + r.1 < 1000000 ∧ 21 ≤ r.1 + r.2.2.length ∧ r.2.2.length ≤ 17) (fun r : Nat × Int × List Str => r.1) ((20, D.2 + 1, D.1)) ?_ ?_ (fun r hI => ?_))
    ·exact ⟨by rw [hL, if_pos (by simpa using h20)], by dsimp only; omega, by dsimp only; omega, by dsimp only; omega, by dsimp only; omega⟩
    ·exact Can.weak (Weak.lit (by simp only [go_sem, seval, aj_, ao_, ab_, aa_, as_, leV, aq_, ar_, V.inn, us, T9_, Ta_] <;> (have e := hz q hI.1 h10; rw [← e])) (by simp only [go_sem, seval, aj_, ao_, ab_, aa_, as_, leV, aq_, ar_, V.inn, us, T9_, Ta_]) (by simp only [go_sem, seval, aj_, ao_, ab_, aa_, as_, leV, aq_, ar_, V.inn, us, T9_, Ta_] <;> (have e := hz q hI.1 h10; rw [← e])))
    refine .seq (.seq (.rgn [sy_ [0] [] (0 ≤ r.2.1 ∧ r.2.1 < 5000000) (fun h => dr_ b r.2.1 2 hb h.1 (by omega))] (by simp only [go_sem, seval, aj_, ao_, ab_, aa_]; rfl) ?_ ?_))
    ·(first | trivial | (simp; done) | (obtain ⟨e, i1, i2, i3, i4⟩ := hI; and_intros <;> first | omega | (simp; done) | (simp; omega)))
    refine .condB (by simp only [go_sem, seval, aj_, ao_, ab_, aa_]; rfl) (by simp only [go_sem, seval, aj_, ao_, ab_, aa_]) (fun h26 => ?_) (fun h26 => ?_)
    ·refine .skip (.block (.rgn [] (by simp only [go_sem, seval, aj_, ao_, ab_, aa_]; rfl) ?_ ?_))
     ·(first | trivial | (simp; done) | (obtain ⟨e, i1, i2, i3, i4⟩ := hI; and_intros <;> first | omega | (simp; done) | (simp; omega)))
     refine Exists.intro ((r.1 - 1, r.2.1 + 1, r.2.2 ++ [tv_])) ⟨?_, ?_, ?_⟩
     ·obtain ⟨e, i1, i2, i3, i4⟩ := hI; obtain ⟨w1, w2⟩ := hw2 r.2.1 ⟨i1, by omega⟩; rw [w1] at h26; simp only [T3_] at h26; exact ⟨by rw [← e]; exact aef_ (by omega) h26, by dsimp only; omega, by dsimp only; omega, by dsimp only; rw [T2_, List.length_singleton]; omega, by dsimp only; rw [T2_, List.length_singleton]; omega⟩
     ·obtain ⟨e, i1, i2, i3, i4⟩ := hI; dsimp only; omega
     refine Can.trans (Can.swap 39 60 (by decide) (by decide) (by decide) (by decide) (by simp only [go_sem, seval, aj_, ao_, ab_, aa_, V.cl]) (by simp only [go_sem, seval, aj_, ao_, ab_, aa_, V.cl]) (by simp only [go_sem, seval, aj_, ao_, ab_, aa_, bi_, sw, swM, rnB] <;> rfl) (by simp only [go_sem, seval, aj_, ao_, ab_, aa_, bi_, sw, swM, rnB] <;> rfl) (by simp only [go_sem, seval, aj_, ao_, ab_, aa_, bi_, sw, swM, rnB] <;> rfl)) ?_
     exact Can.weak (Weak.lit (by simp only [go_sem, seval, aj_, ao_, ab_, aa_, as_, leV, aq_, ar_, V.inn, us, T9_, Ta_] <;> ((try simp))) (by simp only [go_sem, seval, aj_, ao_, ab_, aa_, as_, leV, aq_, ar_, V.inn, us, T9_, Ta_]) (by simp only [go_sem, seval, aj_, ao_, ab_, aa_, as_, leV, aq_, ar_, V.inn, us, T9_, Ta_] <;> (rw [vv_]; first | done | rfl)))
    ·refine .exit ?_
     refine Exists.intro (()) ⟨?_, ?_⟩
     ·trivial
     refine Can.trans (Can.frz 60 (by simp only [go_sem, seval, aj_, ao_, ab_, aa_] <;> rfl) (by simp only [go_sem, seval, aj_, ao_, ab_, aa_]) (by simp only [go_sem, seval, aj_, ao_, ab_, aa_] <;> rfl) (by simp only [go_sem, seval, aj_, ao_, ab_, aa_] <;> rfl)) ?_
     exact Can.weak (Weak.lit (by simp only [go_sem, seval, aj_, ao_, ab_, aa_, as_, leV, aq_, ar_, V.inn, us, T9_, Ta_] <;> (first | (obtain ⟨e, i1, i2, i3, i4⟩ := hI; obtain ⟨w1, w2⟩ := hw2 r.2.1 ⟨i1, by omega⟩; rw [w1] at h26; simp only [T4_] at h26; rw [jq_ (by omega) h26] at e; rw [← e]; exact oj_ _) | (have e := hz q hI.1 h10; rw [hL, if_neg (by simpa using h20), ← e]; exact oj_ _))) (by simp only [go_sem, seval, aj_, ao_, ab_, aa_, as_, leV, aq_, ar_, V.inn, us, T9_, Ta_]) (by simp only [go_sem, seval, aj_, ao_, ab_, aa_, as_, leV, aq_, ar_, V.inn, us, T9_, Ta_] <;> (first | (obtain ⟨e, i1, i2, i3, i4⟩ := hI; obtain ⟨w1, w2⟩ := hw2 r.2.1 ⟨i1, by omega⟩; rw [w1] at h26; simp only [T4_] at h26; rw [jq_ (by omega) h26] at e; rw [← e]; first | done | rfl) | (rw [hL, if_neg (by simpa using h20)]; first | done | rfl))))
   ·refine .skip ?_
    refine Exists.intro (()) ⟨?_, ?_⟩
    ·trivial
    refine Can.trans (Can.frz 60 (by simp only [go_sem, seval, aj_, ao_, ab_, aa_] <;> rfl) (by simp only [go_sem, seval, aj_, ao_, ab_, aa_]) (by simp only [go_sem, seval, aj_, ao_, ab_, aa_] <;> rfl) (by simp only [go_sem, seval, aj_, ao_, ab_, aa_] <;> rfl)) ?_
    exact Can.weak (Weak.lit (by simp only [go_sem, seval, aj_, ao_, ab_, aa_, as_, leV, aq_, ar_, V.inn, us, T9_, Ta_] <;> (first | (obtain ⟨e, i1, i2, i3, i4⟩ := hI; obtain ⟨w1, w2⟩ := hw2 r.2.1 ⟨i1, by omega⟩; rw [w1] at h26; simp only [T4_] at h26; rw [jq_ (by omega) h26] at e; rw [← e]; exact oj_ _) | (have e := hz q hI.1 h10; rw [hL, if_neg (by simpa using h20), ← e]; exact oj_ _))) (by simp only [go_sem, seval, aj_, ao_, ab_, aa_, as_, leV, aq_, ar_, V.inn, us, T9_, Ta_]) (by simp only [go_sem, seval, aj_, ao_, ab_, aa_, as_, leV, aq_, ar_, V.inn, us, T9_, Ta_] <;> (first | (obtain ⟨e, i1, i2, i3, i4⟩ := hI; obtain ⟨w1, w2⟩ := hw2 r.2.1 ⟨i1, by omega⟩; rw [w1] at h26; simp only [T4_] at h26; rw [jq_ (by omega) h26] at e; rw [← e]; first | done | rfl) | (rw [hL, if_neg (by simpa using h20)]; first | done | rfl))))
  refine .seq (.rgn [a4_ (jn_ R.1 (by omega) (by omega))] (by simp only [go_sem, seval, aj_, ao_, ab_, aa_]; rfl) ?_ ?_)
  ·(first | trivial | (simp; done) | (obtain ⟨e, i1, i2, i3, i4⟩ := hI; and_intros <;> first | omega | (simp; done) | (simp; omega)))
  refine .ret ⟨.inr rfl, ?_⟩
  exact Out.mem' (by simp only [Tryz.results80]; rfl) (by simp only [az_, a7_, go_sem, seval, aj_, ao_, ab_, aa_]) (by simp only [a5_, rns, rn, go_sem, seval, aj_, ao_, ab_, aa_] <;> (rw [hT])) (by simp) rfl (by decide) (by simp only [go_sem, seval, aj_, ao_, ab_, aa_]) (by simp only [ao_, go_sem, seval, aj_, ao_, ab_, aa_]) (by simp only [aj_, go_sem, seval, aj_, ao_, ab_, aa_] <;> (rw [hT]))
theorem bg_ {l : List Pg} {i : Nat} {a t : Str} {g : Bool} {f : List Int} : (pgR l).set i [.s a, .b g, .s t, .sl false (inR f)] = pgR (l.set i ⟨a, g, t, f⟩) := by simp [pgR, List.map_set, pgC]
theorem bkJ {w v : List Pg} {n : Nat} (hn : n = w.length) (h : w = v) : leV (if n ≤ w.length then V.sl false ((pgR w).take n) else V.no) (V.sl false (pgR v)) := by
 subst h hn
 rw [if_pos (Nat.le_refl _), T1_ (by rw [af_]; exact Nat.le_refl _)]
 exact ⟨fun h => h, bd_ _⟩
theorem mz_ (b : Str) (p : Int) (hb : b.length ≤ 2000) (hp : 0 ≤ p) (hp2 : p < 100000) : ACall En 50 [.pt 0 2 0 0] [rdB b p] [.sl false (pgR (dBk b p).1)] [rdB b (dBk b p).2] := by
 obtain ⟨t1, t2, t3, t4⟩ := w4_ b hp hp2
 have tl := aid_ b hp hp2
 have hT2 : (dTx b p).2 = (l5_ b p).2 := rfl
 have hl := p0_ (dTx b p).1
 have hD : dBk b p = if fv_ (dTx b p).1 = [] then ([], (dTx b p).2) else (ca_ (fv_ (dTx b p).1) (bo_ b (dTx b p).2 (fv_ (dTx b p).1).length).toNat (bo_ b ((dTx b p).2 + 1) 40), (dTx b p).2 + 1 + 1) := rfl
 have L := abj_ b p hb hp hp2
 have B := yf_ (dTx b p).1 (by omega)
 have hX := fun k => (ab7_ (yp_ (dTx b p).1) k).2.1
 rw [← hT2] at t1 t2
 generalize fv_ (dTx b p).1 = w at *
 generalize dTx b p = u at *
 have hW : ((w.length : Int) == 0) = false → 0 < w.length ∧ w ≠ [] := fun h => by
  rw [beq_eq_false_iff_ne] at h
  exact ⟨by omega, fun e => h (by rw [e]; rfl)⟩
 have hk : ((w.length : Int) == 0) = false → 0 ≤ bo_ b u.2 w.length ∧ bo_ b u.2 w.length < w.length := fun h => d2_ b (by omega) (by omega) (by have := (hW h).1; omega)
 have hD1 : ((w.length : Int) == 0) = false → dBk b p = (ca_ w (bo_ b u.2 w.length).toNat (bo_ b (u.2 + 1) 40), u.2 + 1 + 1) := fun h => by rw [hD, if_neg (hW h).2]
 refine al_ (fn := Tryz.f50) [0] Tryz.func50 rfl rfl (by simp) fun C => ?_
 rw [ay_]
 simp only [Tryz.ntmps50, T7_, List.length_nil, Nat.reduceAdd, Nat.reduceSub, List.replicate_succ, List.replicate_zero, List.cons_append, List.nil_append, bp_]
 refine .seq (.rgn [] (by simp only [go_sem, seval, aj_, ao_, af_, ad_, ah_, ac_, bg_]; rfl) ?_ ?_)
 ·(first | trivial | (simp; done) | (have q1 := hk h10; have q2 := (hW h10).1; have q4 := hX (bo_ b u.2 w.length).toNat; and_intros <;> first | omega | (simp; done) | (simp; omega)))
 refine .seq (.rgn [bu_ [0] [] L, bu_ [] [17] B] (by simp only [go_sem, seval, aj_, ao_, af_, ad_, ah_, ac_, bg_]; rfl) ?_ ?_)
 ·(first | trivial | (simp; done) | (have q1 := hk h10; have q2 := (hW h10).1; have q4 := hX (bo_ b u.2 w.length).toNat; and_intros <;> first | omega | (simp; done) | (simp; omega)))
 refine .seq (.seq (.rgn [] (by simp only [go_sem, seval, aj_, ao_, af_, ad_, ah_, ac_, bg_]; rfl) ?_ ?_))
 ·(first | trivial | (simp; done) | (have q1 := hk h10; have q2 := (hW h10).1; have q4 := hX (bo_ b u.2 w.length).toNat; and_intros <;> first | omega | (simp; done) | (simp; omega)))
 refine .condB (by simp only [go_sem, seval, aj_, ao_, af_, ad_, ah_, ac_, bg_]; rfl) (by simp only [go_sem, seval, aj_, ao_, af_, ad_, ah_, ac_, bg_]) (fun h10 => ?_) (fun h10 => ?_)
 ·refine .seq (.rgn [] (by simp only [go_sem, seval, aj_, ao_, af_, ad_, ah_, ac_, bg_]; rfl) ?_ ?_)
  ·(first | trivial | (simp; done) | (have q1 := hk h10; have q2 := (hW h10).1; have q4 := hX (bo_ b u.2 w.length).toNat; and_intros <;> first | omega | (simp; done) | (simp; omega)))
  refine .frz 17 (by simp only [go_sem, seval, aj_, ao_, af_, ad_, ah_, ac_, bg_]; rfl) (by simp only [go_sem, seval, aj_, ao_, af_, ad_, ah_, ac_, bg_]) (by simp only [go_sem, seval, aj_, ao_, af_, ad_, ah_, ac_, bg_]; rfl) (by simp only [go_sem, seval, aj_, ao_, af_, ad_, ah_, ac_, bg_]; rfl) ?_
  refine .ret ⟨.inr rfl, ?_⟩
  exact Out.mem' (by simp only [Tryz.results50]; rfl) (by simp only [az_, a7_, go_sem, seval, aj_, ao_, af_, ad_, ah_, ac_, bg_]) (by simp only [a5_, rns, rn, go_sem, seval, aj_, ao_, af_, ad_, ah_, ac_, bg_] <;> (have e : w = [] := (List.eq_nil_of_length_eq_zero (by simpa using h10)); rw [hD, if_pos e, e]; rfl)) (by simp) rfl (by decide) (by simp only [go_sem, seval, aj_, ao_, af_, ad_, ah_, ac_, bg_]) (by simp only [ao_, go_sem, seval, aj_, ao_, af_, ad_, ah_, ac_, bg_]) (by simp only [aj_, go_sem, seval, aj_, ao_, af_, ad_, ah_, ac_, bg_] <;> (have e : w = [] := (List.eq_nil_of_length_eq_zero (by simpa using h10)); rw [hD, if_pos e]))
 ·refine .skip (.seq (.rgn [sy_ [0] [] (0 < w.length) (fun h => dr_ b u.2 w.length hb (by omega) (by omega))] (by simp only [go_sem, seval, aj_, ao_, af_, ad_, ah_, ac_, bg_]; rfl) ?_ ?_))
  ·(first | trivial | (simp; done) | (have q1 := hk h10; have q2 := (hW h10).1; have q4 := hX (bo_ b u.2 w.length).toNat; and_intros <;> first | omega | (simp; done) | (simp; omega)))
  refine .seqJ (fun u : Unit => ⟨[.no, .no, .no, .sl false (pgR (dBk b p).1), .no, .no, .no, .no, .no, .no, .no, .no, .no, .no, .no, .no, .no, .no, .no, .no, .no, .no, .no, .no, .no, .no, .no, .no, .no, .no, .no, .no, .no, .no, .no, .no, .no, .no, .no, .no, .no, .no, .no, .no, .no, .no, .no, .no, .no, .no, .no, .no, .no], bc_ [(0, rdB b (dBk b p).2)], us []⟩) (fun u : Unit => True) ?_ (fun u hJ => ?_)
  ·refine .seq (.rgn [bu_ [0] [] (dr_ b (u.2 + 1) 40 hb (by omega) (by omega))] (by simp only [go_sem, seval, aj_, ao_, af_, ad_, ah_, ac_, bg_]; rfl) ?_ ?_)
   ·(first | trivial | (simp; done) | (have q1 := hk h10; have q2 := (hW h10).1; have q4 := hX (bo_ b u.2 w.length).toNat; and_intros <;> first | omega | (simp; done) | (simp; omega)))
   refine .block (.seq (.rgn [] (by simp only [go_sem, seval, aj_, ao_, af_, ad_, ah_, ac_, bg_]; rfl) ?_ ?_))
   ·(first | trivial | (simp; done) | (have q1 := hk h10; have q2 := (hW h10).1; have q4 := hX (bo_ b u.2 w.length).toNat; and_intros <;> first | omega | (simp; done) | (simp; omega)))
   refine .condB (by simp only [go_sem, seval, aj_, ao_, af_, ad_, ah_, ac_, bg_]; rfl) (by simp only [go_sem, seval, aj_, ao_, af_, ad_, ah_, ac_, bg_]) (fun h18 => ?_) (fun h18 => ?_)
   ·refine .rgn [] (by simp only [go_sem, seval, aj_, ao_, af_, ad_, ah_, ac_, bg_, cw_ (show (bo_ b u.2 w.length).toNat < w.length by have := hk h10; omega)]; rfl) ?_ ?_
    ·(first | trivial | (simp; done) | (have q1 := hk h10; have q2 := (hW h10).1; have q4 := hX (bo_ b u.2 w.length).toNat; and_intros <;> first | omega | (simp; done) | (simp; omega)))
    refine Exists.intro (()) ⟨?_, ?_⟩
    ·trivial
    refine Can.trans (Can.frz 17 (by simp only [go_sem, seval, aj_, ao_, af_, ad_, ah_, ac_, bg_] <;> rfl) (by simp only [go_sem, seval, aj_, ao_, af_, ad_, ah_, ac_, bg_]) (by simp only [go_sem, seval, aj_, ao_, af_, ad_, ah_, ac_, bg_] <;> rfl) (by simp only [go_sem, seval, aj_, ao_, af_, ad_, ah_, ac_, bg_] <;> rfl)) ?_
    exact Can.weak (Weak.lit (by simp only [go_sem, seval, aj_, ao_, af_, ad_, ah_, ac_, bg_, as_, leV, aq_, ar_, V.inn, us, T9_, Ta_] <;> (rw [hD1 h10]; first | (refine bkJ (by simp) ?_; first | (rw [ca_, if_pos (by simpa using h18)]; done) | (rw [ca_, if_neg (by simpa using h18), if_pos (by simpa using h30)]; done) | (rw [ca_, if_neg (by simpa using h18), if_neg (by simpa using h30), if_pos (by simpa using h42)]; rfl)) | (have e : ca_ w (bo_ b u.2 w.length).toNat (bo_ b (u.2 + 1) 40) = [] := (by unfold ca_; rw [if_neg (by simpa using h18), if_neg (by simpa using h30), if_neg (by simpa using h42), if_pos (by simpa using h48)]); rw [e, if_pos (Nat.zero_le _)]; exact ⟨fun h => h, trivial⟩) | (rw [ca_, if_neg (by simpa using h18), if_neg (by simpa using h30), if_neg (by simpa using h42), if_neg (by simpa using h48), T1_ (by rw [af_]; exact Nat.le_refl _)]; exact bd_ _))) (by simp only [go_sem, seval, aj_, ao_, af_, ad_, ah_, ac_, bg_, as_, leV, aq_, ar_, V.inn, us, T9_, Ta_]) (by simp only [go_sem, seval, aj_, ao_, af_, ad_, ah_, ac_, bg_, as_, leV, aq_, ar_, V.inn, us, T9_, Ta_] <;> (rw [hD1 h10])))
   ·refine .seq (.rgn [] (by simp only [go_sem, seval, aj_, ao_, af_, ad_, ah_, ac_, bg_]; rfl) ?_ ?_)
    ·(first | trivial | (simp; done) | (have q1 := hk h10; have q2 := (hW h10).1; have q4 := hX (bo_ b u.2 w.length).toNat; and_intros <;> first | omega | (simp; done) | (simp; omega)))
    refine .condB (by simp only [go_sem, seval, aj_, ao_, af_, ad_, ah_, ac_, bg_]; rfl) (by simp only [go_sem, seval, aj_, ao_, af_, ad_, ah_, ac_, bg_]) (fun h30 => ?_) (fun h30 => ?_)
    ·refine .rgn [] (by simp only [go_sem, seval, aj_, ao_, af_, ad_, ah_, ac_, bg_, cw_ (show (bo_ b u.2 w.length).toNat < w.length by have := hk h10; omega)]; rfl) ?_ ?_
     ·(first | trivial | (simp; done) | (have q1 := hk h10; have q2 := (hW h10).1; have q4 := hX (bo_ b u.2 w.length).toNat; and_intros <;> first | omega | (simp; done) | (simp; omega)))
     refine Exists.intro (()) ⟨?_, ?_⟩
     ·trivial
     refine Can.trans (Can.frz 17 (by simp only [go_sem, seval, aj_, ao_, af_, ad_, ah_, ac_, bg_] <;> rfl) (by simp only [go_sem, seval, aj_, ao_, af_, ad_, ah_, ac_, bg_]) (by simp only [go_sem, seval, aj_, ao_, af_, ad_, ah_, ac_, bg_] <;> rfl) (by simp only [go_sem, seval, aj_, ao_, af_, ad_, ah_, ac_, bg_] <;> rfl)) ?_
     exact Can.weak (Weak.lit (by simp only [go_sem, seval, aj_, ao_, af_, ad_, ah_, ac_, bg_, as_, leV, aq_, ar_, V.inn, us, T9_, Ta_] <;> (rw [hD1 h10]; first | (refine bkJ (by simp) ?_; first | (rw [ca_, if_pos (by simpa using h18)]; done) | (rw [ca_, if_neg (by simpa using h18), if_pos (by simpa using h30)]; done) | (rw [ca_, if_neg (by simpa using h18), if_neg (by simpa using h30), if_pos (by simpa using h42)]; rfl)) | (have e : ca_ w (bo_ b u.2 w.length).toNat (bo_ b (u.2 + 1) 40) = [] := (by unfold ca_; rw [if_neg (by simpa using h18), if_neg (by simpa using h30), if_neg (by simpa using h42), if_pos (by simpa using h48)]); rw [e, if_pos (Nat.zero_le _)]; exact ⟨fun h => h, trivial⟩) | (rw [ca_, if_neg (by simpa using h18), if_neg (by simpa using h30), if_neg (by simpa using h42), if_neg (by simpa using h48), T1_ (by rw [af_]; exact Nat.le_refl _)]; exact bd_ _))) (by simp only [go_sem, seval, aj_, ao_, af_, ad_, ah_, ac_, bg_, as_, leV, aq_, ar_, V.inn, us, T9_, Ta_]) (by simp only [go_sem, seval, aj_, ao_, af_, ad_, ah_, ac_, bg_, as_, leV, aq_, ar_, V.inn, us, T9_, Ta_] <;> (rw [hD1 h10])))
    ·refine .seq (.rgn [] (by simp only [go_sem, seval, aj_, ao_, af_, ad_, ah_, ac_, bg_]; rfl) ?_ ?_)
     ·(first | trivial | (simp; done) | (have q1 := hk h10; have q2 := (hW h10).1; have q4 := hX (bo_ b u.2 w.length).toNat; and_intros <;> first | omega | (simp; done) | (simp; omega)))
     refine .condB (by simp only [go_sem, seval, aj_, ao_, af_, ad_, ah_, ac_, bg_]; rfl) (by simp only [go_sem, seval, aj_, ao_, af_, ad_, ah_, ac_, bg_]) (fun h42 => ?_) (fun h42 => ?_)
     ·refine .rgn [] (by simp only [go_sem, seval, aj_, ao_, af_, ad_, ah_, ac_, bg_, cw_ (show (bo_ b u.2 w.length).toNat < w.length by have := hk h10; omega)]; rfl) ?_ ?_
      ·(first | trivial | (simp; done) | (have q1 := hk h10; have q2 := (hW h10).1; have q4 := hX (bo_ b u.2 w.length).toNat; and_intros <;> first | omega | (simp; done) | (simp; omega)))
      refine Exists.intro (()) ⟨?_, ?_⟩
      ·trivial
      refine Can.trans (Can.frz 17 (by simp only [go_sem, seval, aj_, ao_, af_, ad_, ah_, ac_, bg_] <;> rfl) (by simp only [go_sem, seval, aj_, ao_, af_, ad_, ah_, ac_, bg_]) (by simp only [go_sem, seval, aj_, ao_, af_, ad_, ah_, ac_, bg_] <;> rfl) (by simp only [go_sem, seval, aj_, ao_, af_, ad_, ah_, ac_, bg_] <;> rfl)) ?_
      exact Can.weak (Weak.lit (by simp only [go_sem, seval, aj_, ao_, af_, ad_, ah_, ac_, bg_, as_, leV, aq_, ar_, V.inn, us, T9_, Ta_] <;> (rw [hD1 h10]; first | (refine bkJ (by simp) ?_; first | (rw [ca_, if_pos (by simpa using h18)]; done) | (rw [ca_, if_neg (by simpa using h18), if_pos (by simpa using h30)]; done) | (rw [ca_, if_neg (by simpa using h18), if_neg (by simpa using h30), if_pos (by simpa using h42)]; rfl)) | (have e : ca_ w (bo_ b u.2 w.length).toNat (bo_ b (u.2 + 1) 40) = [] := (by unfold ca_; rw [if_neg (by simpa using h18), if_neg (by simpa using h30), if_neg (by simpa using h42), if_pos (by simpa using h48)]); rw [e, if_pos (Nat.zero_le _)]; exact ⟨fun h => h, trivial⟩) | (rw [ca_, if_neg (by simpa using h18), if_neg (by simpa using h30), if_neg (by simpa using h42), if_neg (by simpa using h48), T1_ (by rw [af_]; exact Nat.le_refl _)]; exact bd_ _))) (by simp only [go_sem, seval, aj_, ao_, af_, ad_, ah_, ac_, bg_, as_, leV, aq_, ar_, V.inn, us, T9_, Ta_]) (by simp only [go_sem, seval, aj_, ao_, af_, ad_, ah_, ac_, bg_, as_, leV, aq_, ar_, V.inn, us, T9_, Ta_] <;> (rw [hD1 h10])))
     ·refine .seq (.rgn [] (by simp only [go_sem, seval, aj_, ao_, af_, ad_, ah_, ac_, bg_]; rfl) ?_ ?_)
      ·(first | trivial | (simp; done) | (have q1 := hk h10; have q2 := (hW h10).1; have q4 := hX (bo_ b u.2 w.length).toNat; and_intros <;> first | omega | (simp; done) | (simp; omega)))
      refine .condB (by simp only [go_sem, seval, aj_, ao_, af_, ad_, ah_, ac_, bg_]; rfl) (by simp only [go_sem, seval, aj_, ao_, af_, ad_, ah_, ac_, bg_]) (fun h48 => ?_) (fun h48 => ?_)
      ·refine .rgn [] (by simp only [go_sem, seval, aj_, ao_, af_, ad_, ah_, ac_, bg_]; rfl) ?_ ?_
       ·(first | trivial | (simp; done) | (have q1 := hk h10; have q2 := (hW h10).1; have q4 := hX (bo_ b u.2 w.length).toNat; and_intros <;> first | omega | (simp; done) | (simp; omega)))
       refine Exists.intro (()) ⟨?_, ?_⟩
       ·trivial
       refine Can.trans (Can.frz 17 (by simp only [go_sem, seval, aj_, ao_, af_, ad_, ah_, ac_, bg_] <;> rfl) (by simp only [go_sem, seval, aj_, ao_, af_, ad_, ah_, ac_, bg_]) (by simp only [go_sem, seval, aj_, ao_, af_, ad_, ah_, ac_, bg_] <;> rfl) (by simp only [go_sem, seval, aj_, ao_, af_, ad_, ah_, ac_, bg_] <;> rfl)) ?_
       exact Can.weak (Weak.lit (by simp only [go_sem, seval, aj_, ao_, af_, ad_, ah_, ac_, bg_, as_, leV, aq_, ar_, V.inn, us, T9_, Ta_] <;> (rw [hD1 h10]; first | (refine bkJ (by simp) ?_; first | (rw [ca_, if_pos (by simpa using h18)]; done) | (rw [ca_, if_neg (by simpa using h18), if_pos (by simpa using h30)]; done) | (rw [ca_, if_neg (by simpa using h18), if_neg (by simpa using h30), if_pos (by simpa using h42)]; rfl)) | (have e : ca_ w (bo_ b u.2 w.length).toNat (bo_ b (u.2 + 1) 40) = [] := (by unfold ca_; rw [if_neg (by simpa using h18), if_neg (by simpa using h30), if_neg (by simpa using h42), if_pos (by simpa using h48)]); rw [e, if_pos (Nat.zero_le _)]; exact ⟨fun h => h, trivial⟩) | (rw [ca_, if_neg (by simpa using h18), if_neg (by simpa using h30), if_neg (by simpa using h42), if_neg (by simpa using h48), T1_ (by rw [af_]; exact Nat.le_refl _)]; exact bd_ _))) (by simp only [go_sem, seval, aj_, ao_, af_, ad_, ah_, ac_, bg_, as_, leV, aq_, ar_, V.inn, us, T9_, Ta_]) (by simp only [go_sem, seval, aj_, ao_, af_, ad_, ah_, ac_, bg_, as_, leV, aq_, ar_, V.inn, us, T9_, Ta_] <;> (rw [hD1 h10])))
      ·refine .skip ?_
       refine Exists.intro (()) ⟨?_, ?_⟩
       ·trivial
       refine Can.trans (Can.frz 17 (by simp only [go_sem, seval, aj_, ao_, af_, ad_, ah_, ac_, bg_] <;> rfl) (by simp only [go_sem, seval, aj_, ao_, af_, ad_, ah_, ac_, bg_]) (by simp only [go_sem, seval, aj_, ao_, af_, ad_, ah_, ac_, bg_] <;> rfl) (by simp only [go_sem, seval, aj_, ao_, af_, ad_, ah_, ac_, bg_] <;> rfl)) ?_
       exact Can.weak (Weak.lit (by simp only [go_sem, seval, aj_, ao_, af_, ad_, ah_, ac_, bg_, as_, leV, aq_, ar_, V.inn, us, T9_, Ta_] <;> (rw [hD1 h10]; first | (refine bkJ (by simp) ?_; first | (rw [ca_, if_pos (by simpa using h18)]; done) | (rw [ca_, if_neg (by simpa using h18), if_pos (by simpa using h30)]; done) | (rw [ca_, if_neg (by simpa using h18), if_neg (by simpa using h30), if_pos (by simpa using h42)]; rfl)) | (have e : ca_ w (bo_ b u.2 w.length).toNat (bo_ b (u.2 + 1) 40) = [] := (by unfold ca_; rw [if_neg (by simpa using h18), if_neg (by simpa using h30), if_neg (by simpa using h42), if_pos (by simpa using h48)]); rw [e, if_pos (Nat.zero_le _)]; exact ⟨fun h => h, trivial⟩) | (rw [ca_, if_neg (by simpa using h18), if_neg (by simpa using h30), if_neg (by simpa using h42), if_neg (by simpa using h48), T1_ (by rw [af_]; exact Nat.le_refl _)]; exact bd_ _))) (by simp only [go_sem, seval, aj_, ao_, af_, ad_, ah_, ac_, bg_, as_, leV, aq_, ar_, V.inn, us, T9_, Ta_]) (by simp only [go_sem, seval, aj_, ao_, af_, ad_, ah_, ac_, bg_, as_, leV, aq_, ar_, V.inn, us, T9_, Ta_] <;> (rw [hD1 h10])))
  refine .seq (.rgn [] (by simp only [go_sem, seval, aj_, ao_, af_, ad_, ah_, ac_, bg_]; rfl) ?_ ?_)
  ·(first | trivial | (simp; done) | (have q1 := hk h10; have q2 := (hW h10).1; have q4 := hX (bo_ b u.2 w.length).toNat; and_intros <;> first | omega | (simp; done) | (simp; omega)))
  refine .ret ⟨.inr rfl, ?_⟩
  exact Out.mem' (by simp only [Tryz.results50]; rfl) (by simp only [az_, a7_, go_sem, seval, aj_, ao_, af_, ad_, ah_, ac_, bg_]) (by simp only [a5_, rns, rn, go_sem, seval, aj_, ao_, af_, ad_, ah_, ac_, bg_] <;> ((try rfl))) (by simp) rfl (by decide) (by simp only [go_sem, seval, aj_, ao_, af_, ad_, ah_, ac_, bg_]) (by simp only [ao_, go_sem, seval, aj_, ao_, af_, ad_, ah_, ac_, bg_]) (by simp only [aj_, go_sem, seval, aj_, ao_, af_, ad_, ah_, ac_, bg_] <;> ((try rfl)))
theorem abf_ (c : Str) : ACall En 15 [.sl false (byR c)] [] [.sl false (pgR (dBk (c.take 2000) 0).1)] [] := by
 have hb : (c.take 2000).length ≤ 2000 := by simp; omega
 have hO := mk_ c
 generalize hc : c.take 2000 = b at *
 have L := mz_ b 0 hb (by decide) (by decide)
 refine al_ (fn := Tryz.f15) [] Tryz.func15 rfl rfl (by simp) fun C => ?_
 rw [ay_]
 simp only [Tryz.ntmps15, T7_, List.length_nil, Nat.reduceAdd, Nat.reduceSub, List.replicate_succ, List.replicate_zero, List.cons_append, List.nil_append, bp_]
 refine .seq (.rgn [] (by simp only [go_sem, seval, aj_, ao_, ad_]; rfl) ?_ ?_)
 ·first | trivial | simp
 refine .seq (.rgn [bu_ [] [14] hO, bu_ [14] [] L] (by simp only [go_sem, seval, aj_, ao_, ad_]; rfl) ?_ ?_)
 ·first | trivial | simp
 refine .ret ⟨.inr rfl, ?_⟩
 exact Out.plain (by simp only [Tryz.results15]; rfl) (by simp only [az_, a7_, go_sem, seval, aj_, ao_, ad_] <;> (split <;> rfl)) (by simp only [a5_, go_sem, seval, aj_, ao_, ad_] <;> (simp_all)) (by simp only [go_sem, seval, aj_, ao_, ad_])
theorem nr_ (c : Str) : ACall En 23 [.sl false (byR c)] [] [.sl false (pgR (dBk (c.take 2000) 0).1)] [] := by
 have hb : (c.take 2000).length ≤ 2000 := by simp; omega
 have hO := mk_ c
 generalize hc : c.take 2000 = b at *
 have L := mz_ b 0 hb (by decide) (by decide)
 refine al_ (fn := Tryz.f23) [] Tryz.func23 rfl rfl (by simp) fun C => ?_
 rw [ay_]
 simp only [Tryz.ntmps23, T7_, List.length_nil, Nat.reduceAdd, Nat.reduceSub, List.replicate_succ, List.replicate_zero, List.cons_append, List.nil_append, bp_]
 refine .seq (.rgn [] (by simp only [go_sem, seval, aj_, ao_, ad_]; rfl) ?_ ?_)
 ·first | trivial | simp
 refine .seq (.rgn [bu_ [] [14] hO, bu_ [14] [] L] (by simp only [go_sem, seval, aj_, ao_, ad_]; rfl) ?_ ?_)
 ·first | trivial | simp
 refine .ret ⟨.inr rfl, ?_⟩
 exact Out.plain (by simp only [Tryz.results23]; rfl) (by simp only [az_, a7_, go_sem, seval, aj_, ao_, ad_] <;> (split <;> rfl)) (by simp only [a5_, go_sem, seval, aj_, ao_, ad_] <;> (simp_all)) (by simp only [go_sem, seval, aj_, ao_, ad_])
theorem abd_ (c : Str) : ACall En 31 [.sl false (byR c)] [] [.sl false (pgR (dBk (c.take 2000) 0).1)] [] := by
 have hb : (c.take 2000).length ≤ 2000 := by simp; omega
 have hO := mk_ c
 generalize hc : c.take 2000 = b at *
 have L := mz_ b 0 hb (by decide) (by decide)
 refine al_ (fn := Tryz.f31) [] Tryz.func31 rfl rfl (by simp) fun C => ?_
 rw [ay_]
 simp only [Tryz.ntmps31, T7_, List.length_nil, Nat.reduceAdd, Nat.reduceSub, List.replicate_succ, List.replicate_zero, List.cons_append, List.nil_append, bp_]
 refine .seq (.rgn [] (by simp only [go_sem, seval, aj_, ao_, ad_]; rfl) ?_ ?_)
 ·first | trivial | simp
 refine .seq (.rgn [bu_ [] [14] hO, bu_ [14] [] L] (by simp only [go_sem, seval, aj_, ao_, ad_]; rfl) ?_ ?_)
 ·first | trivial | simp
 refine .ret ⟨.inr rfl, ?_⟩
 exact Out.plain (by simp only [Tryz.results31]; rfl) (by simp only [az_, a7_, go_sem, seval, aj_, ao_, ad_] <;> (split <;> rfl)) (by simp only [a5_, go_sem, seval, aj_, ao_, ad_] <;> (simp_all)) (by simp only [go_sem, seval, aj_, ao_, ad_])
end
end Go.Proofs.YtilppnadkfgnfaaGreatDoor
