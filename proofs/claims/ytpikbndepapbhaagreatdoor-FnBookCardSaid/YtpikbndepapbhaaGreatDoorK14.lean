/- Books, drawn. Conditions: none. -/
import Derived.Test.YtpikbndepapbhaaGreatDoorK13
import Derived.Test.YtpikbndepapbhaaGreatDoorK12
set_option linter.unusedVariables false
set_option linter.unusedSimpArgs false
namespace Go.Proofs.YtpikbndepapbhaaGreatDoor
section
set_option maxRecDepth 100000
set_option maxHeartbeats 4000000
theorem acn_ {b : Str} {n : Nat} {p : Int} {l : List Str} (h : 0 < n) : en_ b (n - 1) (dTo b p).2 (l ++ [(dTo b p).1]) = en_ b n p l := by
 obtain ⟨m, rfl⟩ : ∃ m, n = m + 1 := ⟨n - 1, by omega⟩
 rfl
theorem ae2_ {b : Str} {n : Nat} {p : Int} {l : List Str} (h : 0 < n) (h2 : (l.length : Int) < 16 + br_ b p 2) : gq_ b (n - 1) (p + 1) (l ++ [sz_]) = gq_ b n p l := by
 obtain ⟨m, rfl⟩ : ∃ m, n = m + 1 := ⟨n - 1, by omega⟩
 show _ = gq_ b (m + 1) p l
 rw [gq_, if_pos h2]; rfl
theorem j2_ {b : Str} {n : Nat} {p : Int} {l : List Str} (h : 0 < n) (h2 : ¬ (l.length : Int) < 16 + br_ b p 2) : gq_ b n p l = (l, p + 1) := by
 obtain ⟨m, rfl⟩ : ∃ m, n = m + 1 := ⟨n - 1, by omega⟩
 rw [gq_, if_neg h2]
theorem ua_ (l : List Str) (s : Str) : bm_ (l ++ [s]) = bm_ l ++ [[.s s]] := by simp [bm_]
theorem n8_ (l : List Str) : ler ((bm_ l).take l.length) (bm_ l) := by rw [T1_ (by rw [ab_]; exact Nat.le_refl _)]; exact a8_ _
theorem z1_ (b : Str) (p : Int) (hb : b.length ≤ 2000) (hp : 0 ≤ p) (hp2 : p < 100000) : ACall En 40 [.pt 0 2 0 0] [rdB b p] [.s (dTx b p).1] [rdB b (dTx b p).2] := by
 have h6 := d3_ b (p := p) (n := 6) hp (by omega) (by decide)
 obtain ⟨d1, d2, d3, d4⟩ := tr_ b (1 + (br_ b p 6).toNat) (p + 1) [] (by omega) (by omega) (fun w hw => by cases hw)
 obtain ⟨t1, t2, t3, t4⟩ := tp_ b hp hp2
 have hT : dTx b p = (cf_ (kr_ b p).1, (kr_ b p).2) := rfl
 have hL : kr_ b p = if br_ b (en_ b (1 + (br_ b p 6).toNat) (p + 1) []).2 30 = 0 then gq_ b 20 ((en_ b (1 + (br_ b p 6).toNat) (p + 1) []).2 + 1) (en_ b (1 + (br_ b p 6).toNat) (p + 1) []).1 else ((en_ b (1 + (br_ b p 6).toNat) (p + 1) []).1, (en_ b (1 + (br_ b p 6).toNat) (p + 1) []).2 + 1) := rfl
 have hJ0 := r6_ (l := (kr_ b p).1) (k := 300) t3
 have hJ1 := Nat.mul_le_mul_right 301 t4
 simp only [List.length_nil] at d4
 generalize hD : en_ b (1 + (br_ b p 6).toNat) (p + 1) [] = D at *
 generalize hR : kr_ b p = R at *
 have hz : ∀ q : Nat × Int × List Str, en_ b q.1 q.2.1 q.2.2 = D → decide ((q.1 : Int) > 0) = false → (q.2.2, q.2.1) = D := fun q e h => by
  rw [show q.1 = 0 by simpa using h] at e; exact e
 have hw2 : ∀ p : Int, 0 ≤ p ∧ p < 1000000 → IntKind.i64.wrap (16 + br_ b p 2) = 16 + br_ b p 2 ∧ br_ b p 2 < 2 := fun p h => by
  have := d3_ b (p := p) (n := 2) h.1 (by omega) (by decide)
  exact ⟨by rw [bd_ (by omega) (by omega)], this.2⟩
 refine al_ (fn := Tryz.f40) [0] Tryz.func40 rfl rfl (by simp) fun C => ?_
 rw [av_]
 simp only [Tryz.ntmps40, T7_, List.length_nil, Nat.reduceAdd, Nat.reduceSub, List.replicate_succ, List.replicate_zero, List.cons_append, List.nil_append, bt_]
 refine .seq (.rgn [] (by simp only [go_sem, seval, ag_, ak_, ab_, aa_]; rfl) ?_ ?_)
 ·(first | trivial | (simp; done) | (obtain ⟨e, i1, i2, i3, i4⟩ := hI; and_intros <;> first | omega | (simp; done) | (simp; omega)))
 refine .seq (.rgn [] (by simp only [go_sem, seval, ag_, ak_, ab_, aa_]; rfl) ?_ ?_)
 ·(first | trivial | (simp; done) | (obtain ⟨e, i1, i2, i3, i4⟩ := hI; and_intros <;> first | omega | (simp; done) | (simp; omega)))
 refine .seq (.seq (.rgn [bw_ [0] [] (dv_ b p 6 hb hp (by omega))] (by simp only [go_sem, seval, ag_, ak_, ab_, aa_]; rfl) ?_ ?_))
 ·(first | trivial | (simp; done) | (obtain ⟨e, i1, i2, i3, i4⟩ := hI; and_intros <;> first | omega | (simp; done) | (simp; omega)))
 refine .block (.loopK (fun q : Nat × Int × List Str => ⟨[.pt 0 2 0 0, .no, .no, .ow 60 1 0 q.2.2.length, .i .i64 q.1, .no, .no, .no, .no, .no, .no, .no, .no, .no, .no, .no, .no, .no, .no, .no, .no, .no, .no, .no, .no, .no, .no, .no, .no, .no, .no, .no], be_ [(0, rdB b q.2.1), (60, ⟨9, 1, bm_ q.2.2⟩)], us [60]⟩) (fun q : Nat × Int × List Str => en_ b q.1 q.2.1 q.2.2 = D ∧ 0 ≤ q.2.1 ∧ q.2.1 + 1000 * q.1 < 1000000 ∧ wL q.2.2 ∧ q.2.2.length + q.1 ≤ 6) (fun q : Nat × Int × List Str => q.1) ((1 + (br_ b p 6).toNat, p + 1, [])) ?_ ?_ (fun q hI => ?_))
 ·exact ⟨hD, by dsimp only; omega, by dsimp only; omega, (fun w hw => by cases hw), by dsimp only; simp only [List.length_nil]; omega⟩
 ·refine Can.trans (Can.ownSlot 3 60 9 1 (by simp only [go_sem, seval, ag_, ak_, ab_, aa_] <;> rfl) (by simp only [go_sem, seval, ag_, ak_, ab_, aa_]) (by simp only [go_sem, seval, ag_, ak_, ab_, aa_] <;> rfl)) ?_
  exact Can.weak (Weak.lit (by simp only [go_sem, seval, ag_, ak_, ab_, aa_, as_, leV, aq_, ar_, V.inn, us, T9_, Ta_] <;> (rw [bd_ (by omega) (by omega)]; omega)) (by simp only [go_sem, seval, ag_, ak_, ab_, aa_, as_, leV, aq_, ar_, V.inn, us, T9_, Ta_]) (by simp only [go_sem, seval, ag_, ak_, ab_, aa_, as_, leV, aq_, ar_, V.inn, us, T9_, Ta_] <;> (rfl)))
 refine .seq (.seq (.rgn [] (by simp only [go_sem, seval, ag_, ak_, ab_, aa_]; rfl) ?_ ?_))
 ·(first | trivial | (simp; done) | (obtain ⟨e, i1, i2, i3, i4⟩ := hI; and_intros <;> first | omega | (simp; done) | (simp; omega)))
 refine .condB (by simp only [go_sem, seval, ag_, ak_, ab_, aa_]; rfl) (by simp only [go_sem, seval, ag_, ak_, ab_, aa_]) (fun h10 => ?_) (fun h10 => ?_)
 ·refine .skip (.seq (.block (.rgn [qj_ [0] [] (0 ≤ q.2.1 ∧ q.2.1 < 5000000) (fun h => r0_ b q.2.1 hb h.1 h.2)] (by simp only [go_sem, seval, ag_, ak_, ab_, aa_]; rfl) ?_ ?_)))
  ·(first | trivial | (simp; done) | (obtain ⟨e, i1, i2, i3, i4⟩ := hI; and_intros <;> first | omega | (simp; done) | (simp; omega)))
  refine .rgn [] (by simp only [go_sem, seval, ag_, ak_, ab_, aa_]; rfl) ?_ ?_
  ·(first | trivial | (simp; done) | (obtain ⟨e, i1, i2, i3, i4⟩ := hI; and_intros <;> first | omega | (simp; done) | (simp; omega)))
  refine Exists.intro ((q.1 - 1, (dTo b q.2.1).2, q.2.2 ++ [(dTo b q.2.1).1])) ⟨?_, ?_, ?_⟩
  ·have h0 : 0 < q.1 := (by simpa using h10); obtain ⟨e, i1, i2, i3, i4⟩ := hI; obtain ⟨t1, t2, t3⟩ := af5_ b i1 (by omega); exact ⟨by rw [← e]; exact acn_ h0, by dsimp only; omega, by dsimp only; omega, tk_ i3 t3, by dsimp only; rw [T2_, List.length_singleton]; omega⟩
  ·simp at h10; simp; omega
  refine Can.trans (Can.swap 27 60 (by decide) (by decide) (by decide) (by decide) (by simp only [go_sem, seval, ag_, ak_, ab_, aa_, V.cl]) (by simp only [go_sem, seval, ag_, ak_, ab_, aa_, V.cl]) (by simp only [go_sem, seval, ag_, ak_, ab_, aa_, bq_, sw, swM, rnB] <;> rfl) (by simp only [go_sem, seval, ag_, ak_, ab_, aa_, bq_, sw, swM, rnB] <;> rfl) (by simp only [go_sem, seval, ag_, ak_, ab_, aa_, bq_, sw, swM, rnB] <;> rfl)) ?_
  exact Can.weak (Weak.lit (by simp only [go_sem, seval, ag_, ak_, ab_, aa_, as_, leV, aq_, ar_, V.inn, us, T9_, Ta_] <;> (have h0 : 0 < q.1 := (by simpa using h10); obtain ⟨e, i1, i2, i3, i4⟩ := hI; exact ⟨by simp, by rw [bd_ (by omega) (by omega)]; omega⟩)) (by simp only [go_sem, seval, ag_, ak_, ab_, aa_, as_, leV, aq_, ar_, V.inn, us, T9_, Ta_]) (by simp only [go_sem, seval, ag_, ak_, ab_, aa_, as_, leV, aq_, ar_, V.inn, us, T9_, Ta_] <;> (rw [ua_])))
 ·refine .exit (.seqJ (fun u : Unit => ⟨[.no, .no, .no, .sl false (bm_ R.1), .no, .no, .no, .no, .no, .no, .no, .no, .no, .no, .no, .no, .no, .no, .no, .no, .no, .no, .no, .no, .no, .no, .no, .no, .no, .no, .no, .no], be_ [(0, rdB b R.2)], us []⟩) (fun u : Unit => True) ?_ (fun u hJ => ?_))
  ·refine .seq (.rgn [bw_ [0] [] (dv_ b D.2 30 hb (by omega) (by omega))] (by simp only [go_sem, seval, ag_, ak_, ab_, aa_]; rfl) ?_ ?_)
   ·have e := hz q hI.1 h10; exact ⟨by rw [← e], by simp⟩
   refine .condB (by simp only [go_sem, seval, ag_, ak_, ab_, aa_]; rfl) (by simp only [go_sem, seval, ag_, ak_, ab_, aa_]) (fun h20 => ?_) (fun h20 => ?_)
   ·refine .block (.loopK (fun r : Nat × Int × List Str => ⟨[.pt 0 2 0 0, .no, .no, .ow 60 1 0 r.2.2.length, .no, .no, .no, .no, .no, .no, .no, .no, .no, .no, .no, .no, .no, .no, .no, .no, .no, .no, .no, .no, .no, .no, .no, .no, .no, .no, .no, .no], be_ [(0, rdB b r.2.1), (60, ⟨9, 1, bm_ r.2.2⟩)], us [60]⟩) (fun r : Nat × Int × List Str => gq_ b r.1 r.2.1 r.2.2 = R ∧ 0 ≤ r.2.1 ∧ r.2.1 + r.1 < 1000000 ∧ 21 ≤ r.1 + r.2.2.length ∧ r.2.2.length ≤ 17) (fun r : Nat × Int × List Str => r.1) ((20, D.2 + 1, D.1)) ?_ ?_ (fun r hI => ?_))
    ·exact ⟨by rw [hL, if_pos (by simpa using h20)], by dsimp only; omega, by dsimp only; omega, by dsimp only; omega, by dsimp only; omega⟩
    ·exact Can.weak (Weak.lit (by simp only [go_sem, seval, ag_, ak_, ab_, aa_, as_, leV, aq_, ar_, V.inn, us, T9_, Ta_] <;> (have e := hz q hI.1 h10; rw [← e])) (by simp only [go_sem, seval, ag_, ak_, ab_, aa_, as_, leV, aq_, ar_, V.inn, us, T9_, Ta_]) (by simp only [go_sem, seval, ag_, ak_, ab_, aa_, as_, leV, aq_, ar_, V.inn, us, T9_, Ta_] <;> (have e := hz q hI.1 h10; rw [← e])))
    refine .seq (.seq (.rgn [qj_ [0] [] (0 ≤ r.2.1 ∧ r.2.1 < 5000000) (fun h => dv_ b r.2.1 2 hb h.1 (by omega))] (by simp only [go_sem, seval, ag_, ak_, ab_, aa_]; rfl) ?_ ?_))
    ·(first | trivial | (simp; done) | (obtain ⟨e, i1, i2, i3, i4⟩ := hI; and_intros <;> first | omega | (simp; done) | (simp; omega)))
    refine .condB (by simp only [go_sem, seval, ag_, ak_, ab_, aa_]; rfl) (by simp only [go_sem, seval, ag_, ak_, ab_, aa_]) (fun h26 => ?_) (fun h26 => ?_)
    ·refine .skip (.block (.rgn [] (by simp only [go_sem, seval, ag_, ak_, ab_, aa_]; rfl) ?_ ?_))
     ·(first | trivial | (simp; done) | (obtain ⟨e, i1, i2, i3, i4⟩ := hI; and_intros <;> first | omega | (simp; done) | (simp; omega)))
     refine Exists.intro ((r.1 - 1, r.2.1 + 1, r.2.2 ++ [sz_])) ⟨?_, ?_, ?_⟩
     ·obtain ⟨e, i1, i2, i3, i4⟩ := hI; obtain ⟨w1, w2⟩ := hw2 r.2.1 ⟨i1, by omega⟩; rw [w1] at h26; simp only [T3_] at h26; exact ⟨by rw [← e]; exact ae2_ (by omega) h26, by dsimp only; omega, by dsimp only; omega, by dsimp only; rw [T2_, List.length_singleton]; omega, by dsimp only; rw [T2_, List.length_singleton]; omega⟩
     ·obtain ⟨e, i1, i2, i3, i4⟩ := hI; dsimp only; omega
     refine Can.trans (Can.swap 39 60 (by decide) (by decide) (by decide) (by decide) (by simp only [go_sem, seval, ag_, ak_, ab_, aa_, V.cl]) (by simp only [go_sem, seval, ag_, ak_, ab_, aa_, V.cl]) (by simp only [go_sem, seval, ag_, ak_, ab_, aa_, bq_, sw, swM, rnB] <;> rfl) (by simp only [go_sem, seval, ag_, ak_, ab_, aa_, bq_, sw, swM, rnB] <;> rfl) (by simp only [go_sem, seval, ag_, ak_, ab_, aa_, bq_, sw, swM, rnB] <;> rfl)) ?_
     exact Can.weak (Weak.lit (by simp only [go_sem, seval, ag_, ak_, ab_, aa_, as_, leV, aq_, ar_, V.inn, us, T9_, Ta_] <;> ((try simp))) (by simp only [go_sem, seval, ag_, ak_, ab_, aa_, as_, leV, aq_, ar_, V.inn, us, T9_, Ta_]) (by simp only [go_sem, seval, ag_, ak_, ab_, aa_, as_, leV, aq_, ar_, V.inn, us, T9_, Ta_] <;> (rw [ua_]; first | done | rfl)))
    ·refine .exit ?_
     refine Exists.intro (()) ⟨?_, ?_⟩
     ·trivial
     refine Can.trans (Can.frz 60 (by simp only [go_sem, seval, ag_, ak_, ab_, aa_] <;> rfl) (by simp only [go_sem, seval, ag_, ak_, ab_, aa_]) (by simp only [go_sem, seval, ag_, ak_, ab_, aa_] <;> rfl) (by simp only [go_sem, seval, ag_, ak_, ab_, aa_] <;> rfl)) ?_
     exact Can.weak (Weak.lit (by simp only [go_sem, seval, ag_, ak_, ab_, aa_, as_, leV, aq_, ar_, V.inn, us, T9_, Ta_] <;> (first | (obtain ⟨e, i1, i2, i3, i4⟩ := hI; obtain ⟨w1, w2⟩ := hw2 r.2.1 ⟨i1, by omega⟩; rw [w1] at h26; simp only [T4_] at h26; rw [j2_ (by omega) h26] at e; rw [← e]; exact n8_ _) | (have e := hz q hI.1 h10; rw [hL, if_neg (by simpa using h20), ← e]; exact n8_ _))) (by simp only [go_sem, seval, ag_, ak_, ab_, aa_, as_, leV, aq_, ar_, V.inn, us, T9_, Ta_]) (by simp only [go_sem, seval, ag_, ak_, ab_, aa_, as_, leV, aq_, ar_, V.inn, us, T9_, Ta_] <;> (first | (obtain ⟨e, i1, i2, i3, i4⟩ := hI; obtain ⟨w1, w2⟩ := hw2 r.2.1 ⟨i1, by omega⟩; rw [w1] at h26; simp only [T4_] at h26; rw [j2_ (by omega) h26] at e; rw [← e]; first | done | rfl) | (rw [hL, if_neg (by simpa using h20)]; first | done | rfl))))
   ·refine .skip ?_
    refine Exists.intro (()) ⟨?_, ?_⟩
    ·trivial
    refine Can.trans (Can.frz 60 (by simp only [go_sem, seval, ag_, ak_, ab_, aa_] <;> rfl) (by simp only [go_sem, seval, ag_, ak_, ab_, aa_]) (by simp only [go_sem, seval, ag_, ak_, ab_, aa_] <;> rfl) (by simp only [go_sem, seval, ag_, ak_, ab_, aa_] <;> rfl)) ?_
    exact Can.weak (Weak.lit (by simp only [go_sem, seval, ag_, ak_, ab_, aa_, as_, leV, aq_, ar_, V.inn, us, T9_, Ta_] <;> (first | (obtain ⟨e, i1, i2, i3, i4⟩ := hI; obtain ⟨w1, w2⟩ := hw2 r.2.1 ⟨i1, by omega⟩; rw [w1] at h26; simp only [T4_] at h26; rw [j2_ (by omega) h26] at e; rw [← e]; exact n8_ _) | (have e := hz q hI.1 h10; rw [hL, if_neg (by simpa using h20), ← e]; exact n8_ _))) (by simp only [go_sem, seval, ag_, ak_, ab_, aa_, as_, leV, aq_, ar_, V.inn, us, T9_, Ta_]) (by simp only [go_sem, seval, ag_, ak_, ab_, aa_, as_, leV, aq_, ar_, V.inn, us, T9_, Ta_] <;> (first | (obtain ⟨e, i1, i2, i3, i4⟩ := hI; obtain ⟨w1, w2⟩ := hw2 r.2.1 ⟨i1, by omega⟩; rw [w1] at h26; simp only [T4_] at h26; rw [j2_ (by omega) h26] at e; rw [← e]; first | done | rfl) | (rw [hL, if_neg (by simpa using h20)]; first | done | rfl))))
  refine .seq (.rgn [a3_ (wm_ R.1 (by omega) (by omega))] (by simp only [go_sem, seval, ag_, ak_, ab_, aa_]; rfl) ?_ ?_)
  ·(first | trivial | (simp; done) | (obtain ⟨e, i1, i2, i3, i4⟩ := hI; and_intros <;> first | omega | (simp; done) | (simp; omega)))
  refine .ret ⟨.inr rfl, ?_⟩
  exact Out.mem' (by simp only [Tryz.results40]; rfl) (by simp only [ax_, a6_, go_sem, seval, ag_, ak_, ab_, aa_]) (by simp only [a4_, rns, rn, go_sem, seval, ag_, ak_, ab_, aa_] <;> (rw [hT])) (by simp) rfl (by decide) (by simp only [go_sem, seval, ag_, ak_, ab_, aa_]) (by simp only [ak_, go_sem, seval, ag_, ak_, ab_, aa_]) (by simp only [ag_, go_sem, seval, ag_, ak_, ab_, aa_] <;> (rw [hT]))
theorem a1_ {l : List Pg} {i : Nat} {a t : Str} {g : Bool} {f : List Int} : (pgR l).set i [.s a, .b g, .s t, .sl false (inR f)] = pgR (l.set i ⟨a, g, t, f⟩) := by simp [pgR, List.map_set, pgC]
theorem bkJ {w v : List Pg} {n : Nat} (hn : n = w.length) (h : w = v) : leV (if n ≤ w.length then V.sl false ((pgR w).take n) else V.no) (V.sl false (pgR v)) := by
 subst h hn
 rw [if_pos (Nat.le_refl _), T1_ (by rw [af_]; exact Nat.le_refl _)]
 exact ⟨fun h => h, a8_ _⟩
theorem zz_ (b : Str) (p : Int) (hb : b.length ≤ 2000) (hp : 0 ≤ p) (hp2 : p < 100000) : ACall En 61 [.pt 0 2 0 0] [rdB b p] [.sl false (pgR (dBk b p).1)] [rdB b (dBk b p).2] := by
 obtain ⟨t1, t2, t3, t4⟩ := tp_ b hp hp2
 have tl := af9_ b hp hp2
 have hT2 : (dTx b p).2 = (kr_ b p).2 := rfl
 have hl := jh_ (dTx b p).1
 have hD : dBk b p = if fp_ (dTx b p).1 = [] then ([], (dTx b p).2) else (co_ (fp_ (dTx b p).1) (br_ b (dTx b p).2 (fp_ (dTx b p).1).length).toNat (br_ b ((dTx b p).2 + 1) 40), (dTx b p).2 + 1 + 1) := rfl
 have L := z1_ b p hb hp hp2
 have B := wu_ (dTx b p).1 (by omega)
 have hX := fun k => (ack_ (ya_ (dTx b p).1) k).2.1
 rw [← hT2] at t1 t2
 generalize fp_ (dTx b p).1 = w at *
 generalize dTx b p = u at *
 have hW : ((w.length : Int) == 0) = false → 0 < w.length ∧ w ≠ [] := fun h => by
  rw [beq_eq_false_iff_ne] at h
  exact ⟨by omega, fun e => h (by rw [e]; rfl)⟩
 have hk : ((w.length : Int) == 0) = false → 0 ≤ br_ b u.2 w.length ∧ br_ b u.2 w.length < w.length := fun h => d3_ b (by omega) (by omega) (by have := (hW h).1; omega)
 have hD1 : ((w.length : Int) == 0) = false → dBk b p = (co_ w (br_ b u.2 w.length).toNat (br_ b (u.2 + 1) 40), u.2 + 1 + 1) := fun h => by rw [hD, if_neg (hW h).2]
 refine al_ (fn := Tryz.f61) [0] Tryz.func61 rfl rfl (by simp) fun C => ?_
 rw [av_]
 simp only [Tryz.ntmps61, T7_, List.length_nil, Nat.reduceAdd, Nat.reduceSub, List.replicate_succ, List.replicate_zero, List.cons_append, List.nil_append, bt_]
 refine .seq (.rgn [] (by simp only [go_sem, seval, ag_, ak_, af_, ad_, ai_, ac_, a1_]; rfl) ?_ ?_)
 ·(first | trivial | (simp; done) | (have q1 := hk h10; have q2 := (hW h10).1; have q4 := hX (br_ b u.2 w.length).toNat; and_intros <;> first | omega | (simp; done) | (simp; omega)))
 refine .seq (.rgn [bw_ [0] [] L, bw_ [] [17] B] (by simp only [go_sem, seval, ag_, ak_, af_, ad_, ai_, ac_, a1_]; rfl) ?_ ?_)
 ·(first | trivial | (simp; done) | (have q1 := hk h10; have q2 := (hW h10).1; have q4 := hX (br_ b u.2 w.length).toNat; and_intros <;> first | omega | (simp; done) | (simp; omega)))
 refine .seq (.seq (.rgn [] (by simp only [go_sem, seval, ag_, ak_, af_, ad_, ai_, ac_, a1_]; rfl) ?_ ?_))
 ·(first | trivial | (simp; done) | (have q1 := hk h10; have q2 := (hW h10).1; have q4 := hX (br_ b u.2 w.length).toNat; and_intros <;> first | omega | (simp; done) | (simp; omega)))
 refine .condB (by simp only [go_sem, seval, ag_, ak_, af_, ad_, ai_, ac_, a1_]; rfl) (by simp only [go_sem, seval, ag_, ak_, af_, ad_, ai_, ac_, a1_]) (fun h10 => ?_) (fun h10 => ?_)
 ·refine .seq (.rgn [] (by simp only [go_sem, seval, ag_, ak_, af_, ad_, ai_, ac_, a1_]; rfl) ?_ ?_)
  ·(first | trivial | (simp; done) | (have q1 := hk h10; have q2 := (hW h10).1; have q4 := hX (br_ b u.2 w.length).toNat; and_intros <;> first | omega | (simp; done) | (simp; omega)))
  refine .frz 17 (by simp only [go_sem, seval, ag_, ak_, af_, ad_, ai_, ac_, a1_]; rfl) (by simp only [go_sem, seval, ag_, ak_, af_, ad_, ai_, ac_, a1_]) (by simp only [go_sem, seval, ag_, ak_, af_, ad_, ai_, ac_, a1_]; rfl) (by simp only [go_sem, seval, ag_, ak_, af_, ad_, ai_, ac_, a1_]; rfl) ?_
  refine .ret ⟨.inr rfl, ?_⟩
  exact Out.mem' (by simp only [Tryz.results61]; rfl) (by simp only [ax_, a6_, go_sem, seval, ag_, ak_, af_, ad_, ai_, ac_, a1_]) (by simp only [a4_, rns, rn, go_sem, seval, ag_, ak_, af_, ad_, ai_, ac_, a1_] <;> (have e : w = [] := (List.eq_nil_of_length_eq_zero (by simpa using h10)); rw [hD, if_pos e, e]; rfl)) (by simp) rfl (by decide) (by simp only [go_sem, seval, ag_, ak_, af_, ad_, ai_, ac_, a1_]) (by simp only [ak_, go_sem, seval, ag_, ak_, af_, ad_, ai_, ac_, a1_]) (by simp only [ag_, go_sem, seval, ag_, ak_, af_, ad_, ai_, ac_, a1_] <;> (have e : w = [] := (List.eq_nil_of_length_eq_zero (by simpa using h10)); rw [hD, if_pos e]))
 ·refine .skip (.seq (.rgn [qj_ [0] [] (0 < w.length) (fun h => dv_ b u.2 w.length hb (by omega) (by omega))] (by simp only [go_sem, seval, ag_, ak_, af_, ad_, ai_, ac_, a1_]; rfl) ?_ ?_))
  ·(first | trivial | (simp; done) | (have q1 := hk h10; have q2 := (hW h10).1; have q4 := hX (br_ b u.2 w.length).toNat; and_intros <;> first | omega | (simp; done) | (simp; omega)))
  refine .seqJ (fun u : Unit => ⟨[.no, .no, .no, .sl false (pgR (dBk b p).1), .no, .no, .no, .no, .no, .no, .no, .no, .no, .no, .no, .no, .no, .no, .no, .no, .no, .no, .no, .no, .no, .no, .no, .no, .no, .no, .no, .no, .no, .no, .no, .no, .no, .no, .no, .no, .no, .no, .no, .no, .no, .no, .no, .no, .no, .no, .no, .no, .no], be_ [(0, rdB b (dBk b p).2)], us []⟩) (fun u : Unit => True) ?_ (fun u hJ => ?_)
  ·refine .seq (.rgn [bw_ [0] [] (dv_ b (u.2 + 1) 40 hb (by omega) (by omega))] (by simp only [go_sem, seval, ag_, ak_, af_, ad_, ai_, ac_, a1_]; rfl) ?_ ?_)
   ·(first | trivial | (simp; done) | (have q1 := hk h10; have q2 := (hW h10).1; have q4 := hX (br_ b u.2 w.length).toNat; and_intros <;> first | omega | (simp; done) | (simp; omega)))
   refine .block (.seq (.rgn [] (by simp only [go_sem, seval, ag_, ak_, af_, ad_, ai_, ac_, a1_]; rfl) ?_ ?_))
   ·(first | trivial | (simp; done) | (have q1 := hk h10; have q2 := (hW h10).1; have q4 := hX (br_ b u.2 w.length).toNat; and_intros <;> first | omega | (simp; done) | (simp; omega)))
   refine .condB (by simp only [go_sem, seval, ag_, ak_, af_, ad_, ai_, ac_, a1_]; rfl) (by simp only [go_sem, seval, ag_, ak_, af_, ad_, ai_, ac_, a1_]) (fun h18 => ?_) (fun h18 => ?_)
   ·refine .rgn [] (by simp only [go_sem, seval, ag_, ak_, af_, ad_, ai_, ac_, a1_, dq_ (show (br_ b u.2 w.length).toNat < w.length by have := hk h10; omega)]; rfl) ?_ ?_
    ·(first | trivial | (simp; done) | (have q1 := hk h10; have q2 := (hW h10).1; have q4 := hX (br_ b u.2 w.length).toNat; and_intros <;> first | omega | (simp; done) | (simp; omega)))
    refine Exists.intro (()) ⟨?_, ?_⟩
    ·trivial
    refine Can.trans (Can.frz 17 (by simp only [go_sem, seval, ag_, ak_, af_, ad_, ai_, ac_, a1_] <;> rfl) (by simp only [go_sem, seval, ag_, ak_, af_, ad_, ai_, ac_, a1_]) (by simp only [go_sem, seval, ag_, ak_, af_, ad_, ai_, ac_, a1_] <;> rfl) (by simp only [go_sem, seval, ag_, ak_, af_, ad_, ai_, ac_, a1_] <;> rfl)) ?_
    exact Can.weak (Weak.lit (by simp only [go_sem, seval, ag_, ak_, af_, ad_, ai_, ac_, a1_, as_, leV, aq_, ar_, V.inn, us, T9_, Ta_] <;> (rw [hD1 h10]; first | (refine bkJ (by simp) ?_; first | (rw [co_, if_pos (by simpa using h18)]; done) | (rw [co_, if_neg (by simpa using h18), if_pos (by simpa using h30)]; done) | (rw [co_, if_neg (by simpa using h18), if_neg (by simpa using h30), if_pos (by simpa using h42)]; rfl)) | (have e : co_ w (br_ b u.2 w.length).toNat (br_ b (u.2 + 1) 40) = [] := (by unfold co_; rw [if_neg (by simpa using h18), if_neg (by simpa using h30), if_neg (by simpa using h42), if_pos (by simpa using h48)]); rw [e, if_pos (Nat.zero_le _)]; exact ⟨fun h => h, trivial⟩) | (rw [co_, if_neg (by simpa using h18), if_neg (by simpa using h30), if_neg (by simpa using h42), if_neg (by simpa using h48), T1_ (by rw [af_]; exact Nat.le_refl _)]; exact a8_ _))) (by simp only [go_sem, seval, ag_, ak_, af_, ad_, ai_, ac_, a1_, as_, leV, aq_, ar_, V.inn, us, T9_, Ta_]) (by simp only [go_sem, seval, ag_, ak_, af_, ad_, ai_, ac_, a1_, as_, leV, aq_, ar_, V.inn, us, T9_, Ta_] <;> (rw [hD1 h10])))
   ·refine .seq (.rgn [] (by simp only [go_sem, seval, ag_, ak_, af_, ad_, ai_, ac_, a1_]; rfl) ?_ ?_)
    ·(first | trivial | (simp; done) | (have q1 := hk h10; have q2 := (hW h10).1; have q4 := hX (br_ b u.2 w.length).toNat; and_intros <;> first | omega | (simp; done) | (simp; omega)))
    refine .condB (by simp only [go_sem, seval, ag_, ak_, af_, ad_, ai_, ac_, a1_]; rfl) (by simp only [go_sem, seval, ag_, ak_, af_, ad_, ai_, ac_, a1_]) (fun h30 => ?_) (fun h30 => ?_)
    ·refine .rgn [] (by simp only [go_sem, seval, ag_, ak_, af_, ad_, ai_, ac_, a1_, dq_ (show (br_ b u.2 w.length).toNat < w.length by have := hk h10; omega)]; rfl) ?_ ?_
     ·(first | trivial | (simp; done) | (have q1 := hk h10; have q2 := (hW h10).1; have q4 := hX (br_ b u.2 w.length).toNat; and_intros <;> first | omega | (simp; done) | (simp; omega)))
     refine Exists.intro (()) ⟨?_, ?_⟩
     ·trivial
     refine Can.trans (Can.frz 17 (by simp only [go_sem, seval, ag_, ak_, af_, ad_, ai_, ac_, a1_] <;> rfl) (by simp only [go_sem, seval, ag_, ak_, af_, ad_, ai_, ac_, a1_]) (by simp only [go_sem, seval, ag_, ak_, af_, ad_, ai_, ac_, a1_] <;> rfl) (by simp only [go_sem, seval, ag_, ak_, af_, ad_, ai_, ac_, a1_] <;> rfl)) ?_
     exact Can.weak (Weak.lit (by simp only [go_sem, seval, ag_, ak_, af_, ad_, ai_, ac_, a1_, as_, leV, aq_, ar_, V.inn, us, T9_, Ta_] <;> (rw [hD1 h10]; first | (refine bkJ (by simp) ?_; first | (rw [co_, if_pos (by simpa using h18)]; done) | (rw [co_, if_neg (by simpa using h18), if_pos (by simpa using h30)]; done) | (rw [co_, if_neg (by simpa using h18), if_neg (by simpa using h30), if_pos (by simpa using h42)]; rfl)) | (have e : co_ w (br_ b u.2 w.length).toNat (br_ b (u.2 + 1) 40) = [] := (by unfold co_; rw [if_neg (by simpa using h18), if_neg (by simpa using h30), if_neg (by simpa using h42), if_pos (by simpa using h48)]); rw [e, if_pos (Nat.zero_le _)]; exact ⟨fun h => h, trivial⟩) | (rw [co_, if_neg (by simpa using h18), if_neg (by simpa using h30), if_neg (by simpa using h42), if_neg (by simpa using h48), T1_ (by rw [af_]; exact Nat.le_refl _)]; exact a8_ _))) (by simp only [go_sem, seval, ag_, ak_, af_, ad_, ai_, ac_, a1_, as_, leV, aq_, ar_, V.inn, us, T9_, Ta_]) (by simp only [go_sem, seval, ag_, ak_, af_, ad_, ai_, ac_, a1_, as_, leV, aq_, ar_, V.inn, us, T9_, Ta_] <;> (rw [hD1 h10])))
    ·refine .seq (.rgn [] (by simp only [go_sem, seval, ag_, ak_, af_, ad_, ai_, ac_, a1_]; rfl) ?_ ?_)
     ·(first | trivial | (simp; done) | (have q1 := hk h10; have q2 := (hW h10).1; have q4 := hX (br_ b u.2 w.length).toNat; and_intros <;> first | omega | (simp; done) | (simp; omega)))
     refine .condB (by simp only [go_sem, seval, ag_, ak_, af_, ad_, ai_, ac_, a1_]; rfl) (by simp only [go_sem, seval, ag_, ak_, af_, ad_, ai_, ac_, a1_]) (fun h42 => ?_) (fun h42 => ?_)
     ·refine .rgn [] (by simp only [go_sem, seval, ag_, ak_, af_, ad_, ai_, ac_, a1_, dq_ (show (br_ b u.2 w.length).toNat < w.length by have := hk h10; omega)]; rfl) ?_ ?_
      ·(first | trivial | (simp; done) | (have q1 := hk h10; have q2 := (hW h10).1; have q4 := hX (br_ b u.2 w.length).toNat; and_intros <;> first | omega | (simp; done) | (simp; omega)))
      refine Exists.intro (()) ⟨?_, ?_⟩
      ·trivial
      refine Can.trans (Can.frz 17 (by simp only [go_sem, seval, ag_, ak_, af_, ad_, ai_, ac_, a1_] <;> rfl) (by simp only [go_sem, seval, ag_, ak_, af_, ad_, ai_, ac_, a1_]) (by simp only [go_sem, seval, ag_, ak_, af_, ad_, ai_, ac_, a1_] <;> rfl) (by simp only [go_sem, seval, ag_, ak_, af_, ad_, ai_, ac_, a1_] <;> rfl)) ?_
      exact Can.weak (Weak.lit (by simp only [go_sem, seval, ag_, ak_, af_, ad_, ai_, ac_, a1_, as_, leV, aq_, ar_, V.inn, us, T9_, Ta_] <;> (rw [hD1 h10]; first | (refine bkJ (by simp) ?_; first | (rw [co_, if_pos (by simpa using h18)]; done) | (rw [co_, if_neg (by simpa using h18), if_pos (by simpa using h30)]; done) | (rw [co_, if_neg (by simpa using h18), if_neg (by simpa using h30), if_pos (by simpa using h42)]; rfl)) | (have e : co_ w (br_ b u.2 w.length).toNat (br_ b (u.2 + 1) 40) = [] := (by unfold co_; rw [if_neg (by simpa using h18), if_neg (by simpa using h30), if_neg (by simpa using h42), if_pos (by simpa using h48)]); rw [e, if_pos (Nat.zero_le _)]; exact ⟨fun h => h, trivial⟩) | (rw [co_, if_neg (by simpa using h18), if_neg (by simpa using h30), if_neg (by simpa using h42), if_neg (by simpa using h48), T1_ (by rw [af_]; exact Nat.le_refl _)]; exact a8_ _))) (by simp only [go_sem, seval, ag_, ak_, af_, ad_, ai_, ac_, a1_, as_, leV, aq_, ar_, V.inn, us, T9_, Ta_]) (by simp only [go_sem, seval, ag_, ak_, af_, ad_, ai_, ac_, a1_, as_, leV, aq_, ar_, V.inn, us, T9_, Ta_] <;> (rw [hD1 h10])))
     ·refine .seq (.rgn [] (by simp only [go_sem, seval, ag_, ak_, af_, ad_, ai_, ac_, a1_]; rfl) ?_ ?_)
      ·(first | trivial | (simp; done) | (have q1 := hk h10; have q2 := (hW h10).1; have q4 := hX (br_ b u.2 w.length).toNat; and_intros <;> first | omega | (simp; done) | (simp; omega)))
      refine .condB (by simp only [go_sem, seval, ag_, ak_, af_, ad_, ai_, ac_, a1_]; rfl) (by simp only [go_sem, seval, ag_, ak_, af_, ad_, ai_, ac_, a1_]) (fun h48 => ?_) (fun h48 => ?_)
      ·refine .rgn [] (by simp only [go_sem, seval, ag_, ak_, af_, ad_, ai_, ac_, a1_]; rfl) ?_ ?_
       ·(first | trivial | (simp; done) | (have q1 := hk h10; have q2 := (hW h10).1; have q4 := hX (br_ b u.2 w.length).toNat; and_intros <;> first | omega | (simp; done) | (simp; omega)))
       refine Exists.intro (()) ⟨?_, ?_⟩
       ·trivial
       refine Can.trans (Can.frz 17 (by simp only [go_sem, seval, ag_, ak_, af_, ad_, ai_, ac_, a1_] <;> rfl) (by simp only [go_sem, seval, ag_, ak_, af_, ad_, ai_, ac_, a1_]) (by simp only [go_sem, seval, ag_, ak_, af_, ad_, ai_, ac_, a1_] <;> rfl) (by simp only [go_sem, seval, ag_, ak_, af_, ad_, ai_, ac_, a1_] <;> rfl)) ?_
       exact Can.weak (Weak.lit (by simp only [go_sem, seval, ag_, ak_, af_, ad_, ai_, ac_, a1_, as_, leV, aq_, ar_, V.inn, us, T9_, Ta_] <;> (rw [hD1 h10]; first | (refine bkJ (by simp) ?_; first | (rw [co_, if_pos (by simpa using h18)]; done) | (rw [co_, if_neg (by simpa using h18), if_pos (by simpa using h30)]; done) | (rw [co_, if_neg (by simpa using h18), if_neg (by simpa using h30), if_pos (by simpa using h42)]; rfl)) | (have e : co_ w (br_ b u.2 w.length).toNat (br_ b (u.2 + 1) 40) = [] := (by unfold co_; rw [if_neg (by simpa using h18), if_neg (by simpa using h30), if_neg (by simpa using h42), if_pos (by simpa using h48)]); rw [e, if_pos (Nat.zero_le _)]; exact ⟨fun h => h, trivial⟩) | (rw [co_, if_neg (by simpa using h18), if_neg (by simpa using h30), if_neg (by simpa using h42), if_neg (by simpa using h48), T1_ (by rw [af_]; exact Nat.le_refl _)]; exact a8_ _))) (by simp only [go_sem, seval, ag_, ak_, af_, ad_, ai_, ac_, a1_, as_, leV, aq_, ar_, V.inn, us, T9_, Ta_]) (by simp only [go_sem, seval, ag_, ak_, af_, ad_, ai_, ac_, a1_, as_, leV, aq_, ar_, V.inn, us, T9_, Ta_] <;> (rw [hD1 h10])))
      ·refine .skip ?_
       refine Exists.intro (()) ⟨?_, ?_⟩
       ·trivial
       refine Can.trans (Can.frz 17 (by simp only [go_sem, seval, ag_, ak_, af_, ad_, ai_, ac_, a1_] <;> rfl) (by simp only [go_sem, seval, ag_, ak_, af_, ad_, ai_, ac_, a1_]) (by simp only [go_sem, seval, ag_, ak_, af_, ad_, ai_, ac_, a1_] <;> rfl) (by simp only [go_sem, seval, ag_, ak_, af_, ad_, ai_, ac_, a1_] <;> rfl)) ?_
       exact Can.weak (Weak.lit (by simp only [go_sem, seval, ag_, ak_, af_, ad_, ai_, ac_, a1_, as_, leV, aq_, ar_, V.inn, us, T9_, Ta_] <;> (rw [hD1 h10]; first | (refine bkJ (by simp) ?_; first | (rw [co_, if_pos (by simpa using h18)]; done) | (rw [co_, if_neg (by simpa using h18), if_pos (by simpa using h30)]; done) | (rw [co_, if_neg (by simpa using h18), if_neg (by simpa using h30), if_pos (by simpa using h42)]; rfl)) | (have e : co_ w (br_ b u.2 w.length).toNat (br_ b (u.2 + 1) 40) = [] := (by unfold co_; rw [if_neg (by simpa using h18), if_neg (by simpa using h30), if_neg (by simpa using h42), if_pos (by simpa using h48)]); rw [e, if_pos (Nat.zero_le _)]; exact ⟨fun h => h, trivial⟩) | (rw [co_, if_neg (by simpa using h18), if_neg (by simpa using h30), if_neg (by simpa using h42), if_neg (by simpa using h48), T1_ (by rw [af_]; exact Nat.le_refl _)]; exact a8_ _))) (by simp only [go_sem, seval, ag_, ak_, af_, ad_, ai_, ac_, a1_, as_, leV, aq_, ar_, V.inn, us, T9_, Ta_]) (by simp only [go_sem, seval, ag_, ak_, af_, ad_, ai_, ac_, a1_, as_, leV, aq_, ar_, V.inn, us, T9_, Ta_] <;> (rw [hD1 h10])))
  refine .seq (.rgn [] (by simp only [go_sem, seval, ag_, ak_, af_, ad_, ai_, ac_, a1_]; rfl) ?_ ?_)
  ·(first | trivial | (simp; done) | (have q1 := hk h10; have q2 := (hW h10).1; have q4 := hX (br_ b u.2 w.length).toNat; and_intros <;> first | omega | (simp; done) | (simp; omega)))
  refine .ret ⟨.inr rfl, ?_⟩
  exact Out.mem' (by simp only [Tryz.results61]; rfl) (by simp only [ax_, a6_, go_sem, seval, ag_, ak_, af_, ad_, ai_, ac_, a1_]) (by simp only [a4_, rns, rn, go_sem, seval, ag_, ak_, af_, ad_, ai_, ac_, a1_] <;> ((try rfl))) (by simp) rfl (by decide) (by simp only [go_sem, seval, ag_, ak_, af_, ad_, ai_, ac_, a1_]) (by simp only [ak_, go_sem, seval, ag_, ak_, af_, ad_, ai_, ac_, a1_]) (by simp only [ag_, go_sem, seval, ag_, ak_, af_, ad_, ai_, ac_, a1_] <;> ((try rfl)))
def p6_ (b : Str) : Int := br_ b (dBk b 0).2 ((dBk b 0).1.length + 3) - 1
def adi_ : Str := [115, 97, 121, 32, 49, 10, 115, 97, 121, 32, 50]
def up_ (b : Str) : Str := if br_ b ((dBk b 0).2 + 1) 20 = 0 then adi_ else (dTo b ((dBk b 0).2 + 1 + 1)).1
theorem acz_ (b : Str) {p : Int} (hp : 0 ≤ p) (hp2 : p < 100000) : p ≤ (dBk b p).2 ∧ (dBk b p).2 ≤ p + 10000 := by
 obtain ⟨t1, t2, _⟩ := tp_ b hp hp2
 have : (dTx b p).2 = (kr_ b p).2 := rfl
 unfold dBk
 split <;> (dsimp only; omega)
theorem y6_ (b : Str) : -1 ≤ p6_ b ∧ p6_ b ≤ 20 := by
 have h := acz_ b (p := 0) (by decide) (by decide)
 have h2 := to_ b 0
 have := d3_ b (p := (dBk b 0).2) (n := ((dBk b 0).1.length : Int) + 3) (by omega) (by omega) (by omega)
 unfold p6_; omega
theorem aao_ (b : Str) : (up_ b).length ≤ 300 := by
 have h := acz_ b (p := 0) (by decide) (by decide)
 unfold up_
 split
 ·decide
 ·exact (af5_ b (p := (dBk b 0).2 + 1 + 1) (by omega) (by omega)).2.2
theorem qp_ (c : Str) : ACall En 25 [.sl false (byR c)] [] [.sl false (pgR (dBk (c.take 2000) 0).1), .i .i64 (p6_ (c.take 2000)), .s (up_ (c.take 2000))] [] := by
 have hb : (c.take 2000).length ≤ 2000 := by simp; omega
 have hO := abl_ c
 generalize hc : c.take 2000 = b at *
 have h := acz_ b (p := 0) (by decide) (by decide)
 have hA : p6_ b = br_ b (dBk b 0).2 ((dBk b 0).1.length + 3) - 1 := rfl
 have hAp := y6_ b
 have hL : up_ b = if br_ b ((dBk b 0).2 + 1) 20 = 0 then adi_ else (dTo b ((dBk b 0).2 + 1 + 1)).1 := rfl
 have hn := to_ b 0
 have L := zz_ b 0 hb (by decide) (by decide)
 generalize dBk b 0 = u at *
 have hw : IntKind.i64.wrap ((u.1.length : Int) + 3) = (u.1.length : Int) + 3 := by rw [bd_ (by omega) (by omega)]
 have hw2 : IntKind.i64.wrap (br_ b u.2 ((u.1.length : Int) + 3) - 1) = p6_ b := by rw [hA, bd_ (by omega) (by omega)]
 have T := r0_ b (u.2 + 1 + 1) hb (by omega) (by omega)
 refine al_ (fn := Tryz.f25) [] Tryz.func25 rfl rfl (by simp) fun C => ?_
 rw [av_]
 simp only [Tryz.ntmps25, T7_, List.length_nil, Nat.reduceAdd, Nat.reduceSub, List.replicate_succ, List.replicate_zero, List.cons_append, List.nil_append, bt_]
 refine .seq (.rgn [] (by simp only [go_sem, seval, ag_, ak_, ad_, af_, hw, hw2]; rfl) ?_ ?_)
 ·first | trivial | simp
 refine .seq (.rgn [bw_ [] [19] hO] (by simp only [go_sem, seval, ag_, ak_, ad_, af_, hw, hw2]; rfl) ?_ ?_)
 ·first | trivial | simp
 refine .seq (.rgn [bw_ [19] [] L] (by simp only [go_sem, seval, ag_, ak_, ad_, af_, hw, hw2]; rfl) ?_ ?_)
 ·first | trivial | simp
 refine .seq (.rgn [bw_ [19] [] (dv_ b u.2 (u.1.length + 3) hb (by omega) (by omega))] (by simp only [go_sem, seval, ag_, ak_, ad_, af_, hw, hw2]; rfl) ?_ ?_)
 ·first | trivial | simp
 refine .seq (.seq (.rgn [bw_ [19] [] (dv_ b (u.2 + 1) 20 hb (by omega) (by omega))] (by simp only [go_sem, seval, ag_, ak_, ad_, af_, hw, hw2]; rfl) ?_ ?_))
 ·first | trivial | simp
 refine .condB (by simp only [go_sem, seval, ag_, ak_, ad_, af_, hw, hw2]; rfl) (by simp only [go_sem, seval, ag_, ak_, ad_, af_, hw, hw2]) (fun h20 => ?_) (fun h20 => ?_)
 ·refine .seq (.rgn [] (by simp only [go_sem, seval, ag_, ak_, ad_, af_, hw, hw2]; rfl) ?_ ?_)
  ·first | trivial | simp
  refine .ret ⟨.inr rfl, ?_⟩
  exact Out.plain (by simp only [Tryz.results25]; rfl) (by simp only [ax_, a6_, go_sem, seval, ag_, ak_, ad_, af_, hw, hw2] <;> (split <;> rfl)) (by simp only [a4_, go_sem, seval, ag_, ak_, ad_, af_, hw, hw2] <;> (rw [hL, if_pos (by simpa using h20)]; rfl)) (by simp only [go_sem, seval, ag_, ak_, ad_, af_, hw, hw2])
 ·refine .skip (.seq (.rgn [bw_ [19] [] T] (by simp only [go_sem, seval, ag_, ak_, ad_, af_, hw, hw2]; rfl) ?_ ?_))
  ·first | trivial | simp
  refine .ret ⟨.inr rfl, ?_⟩
  exact Out.plain (by simp only [Tryz.results25]; rfl) (by simp only [ax_, a6_, go_sem, seval, ag_, ak_, ad_, af_, hw, hw2] <;> (split <;> rfl)) (by simp only [a4_, go_sem, seval, ag_, ak_, ad_, af_, hw, hw2] <;> (rw [hL, if_neg (by simpa using h20)])) (by simp only [go_sem, seval, ag_, ak_, ad_, af_, hw, hw2])
end
end Go.Proofs.YtpikbndepapbhaaGreatDoor
