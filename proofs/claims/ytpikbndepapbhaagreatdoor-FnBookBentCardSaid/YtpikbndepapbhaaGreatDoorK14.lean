/- Books, drawn. Conditions: none. -/
import Derived.Test.YtpikbndepapbhaaGreatDoorK13
import Derived.Test.YtpikbndepapbhaaGreatDoorK12
set_option linter.unusedVariables false
set_option linter.unusedSimpArgs false
namespace Go.Proofs.YtpikbndepapbhaaGreatDoor
section
set_option maxRecDepth 100000
set_option maxHeartbeats 4000000
theorem ahb_ {b : Str} {n : Nat} {p : Int} {l : List Str} (h : 0 < n) : er_ b (n - 1) (dTo b p).2 (l ++ [(dTo b p).1]) = er_ b n p l := by
 obtain ⟨m, rfl⟩ : ∃ m, n = m + 1 := ⟨n - 1, by omega⟩
 rfl
theorem aeu_ {b : Str} {n : Nat} {p : Int} {l : List Str} (h : 0 < n) (h2 : (l.length : Int) < 16 + bn_ b p 2) : g3_ b (n - 1) (p + 1) (l ++ [t8_]) = g3_ b n p l := by
 obtain ⟨m, rfl⟩ : ∃ m, n = m + 1 := ⟨n - 1, by omega⟩
 show _ = g3_ b (m + 1) p l
 rw [g3_, if_pos h2]; rfl
theorem kp_ {b : Str} {n : Nat} {p : Int} {l : List Str} (h : 0 < n) (h2 : ¬ (l.length : Int) < 16 + bn_ b p 2) : g3_ b n p l = (l, p + 1) := by
 obtain ⟨m, rfl⟩ : ∃ m, n = m + 1 := ⟨n - 1, by omega⟩
 rw [g3_, if_neg h2]
theorem x2_ (l : List Str) (s : Str) : bp_ (l ++ [s]) = bp_ l ++ [[.s s]] := by simp [bp_]
theorem o6_ (l : List Str) : ler ((bp_ l).take l.length) (bp_ l) := by rw [T1_ (by rw [ab_]; exact Nat.le_refl _)]; exact a9_ _
theorem r6_ (b : Str) (p : Int) (hb : b.length ≤ 2000) (hp : 0 ≤ p) (hp2 : p < 100000) : ACall En 40 [.pt 0 2 0 0] [rdB b p] [.s (dTx b p).1] [rdB b (dTx b p).2] := by
 have h6 := d8_ b (p := p) (n := 6) hp (by omega) (by decide)
 obtain ⟨d1, d2, d3, d4⟩ := ux_ b (1 + (bn_ b p 6).toNat) (p + 1) [] (by omega) (by omega) (fun w hw => by cases hw)
 obtain ⟨t1, t2, t3, t4⟩ := ug_ b hp hp2
 have hT : dTx b p = (cw_ (lj_ b p).1, (lj_ b p).2) := rfl
 have hL : lj_ b p = if bn_ b (er_ b (1 + (bn_ b p 6).toNat) (p + 1) []).2 30 = 0 then g3_ b 20 ((er_ b (1 + (bn_ b p 6).toNat) (p + 1) []).2 + 1) (er_ b (1 + (bn_ b p 6).toNat) (p + 1) []).1 else ((er_ b (1 + (bn_ b p 6).toNat) (p + 1) []).1, (er_ b (1 + (bn_ b p 6).toNat) (p + 1) []).2 + 1) := rfl
 have hJ0 := abx_ (l := (lj_ b p).1) (k := 300) t3
 have hJ1 := Nat.mul_le_mul_right 301 t4
 simp only [List.length_nil] at d4
 generalize hD : er_ b (1 + (bn_ b p 6).toNat) (p + 1) [] = D at *
 generalize hR : lj_ b p = R at *
 have hz : ∀ q : Nat × Int × List Str, er_ b q.1 q.2.1 q.2.2 = D → decide ((q.1 : Int) > 0) = false → (q.2.2, q.2.1) = D := fun q e h => by
  rw [show q.1 = 0 by simpa using h] at e; exact e
 have hw2 : ∀ p : Int, 0 ≤ p ∧ p < 1000000 → IntKind.i64.wrap (16 + bn_ b p 2) = 16 + bn_ b p 2 ∧ bn_ b p 2 < 2 := fun p h => by
  have := d8_ b (p := p) (n := 2) h.1 (by omega) (by decide)
  exact ⟨by rw [bd_ (by omega) (by omega)], this.2⟩
 refine ak_ (fn := Tryz.f40) [0] Tryz.func40 rfl rfl (by simp) fun C => ?_
 rw [aw_]
 simp only [Tryz.ntmps40, T7_, List.length_nil, Nat.reduceAdd, Nat.reduceSub, List.replicate_succ, List.replicate_zero, List.cons_append, List.nil_append, bo_]
 refine .seq (.rgn [] (by simp only [go_sem, seval, ah_, am_, ab_, aa_]; rfl) ?_ ?_)
 ·(first | trivial | (simp; done) | (obtain ⟨e, i1, i2, i3, i4⟩ := hI; and_intros <;> first | omega | (simp; done) | (simp; omega)))
 refine .seq (.rgn [] (by simp only [go_sem, seval, ah_, am_, ab_, aa_]; rfl) ?_ ?_)
 ·(first | trivial | (simp; done) | (obtain ⟨e, i1, i2, i3, i4⟩ := hI; and_intros <;> first | omega | (simp; done) | (simp; omega)))
 refine .seq (.seq (.rgn [bs_ [0] [] (dx_ b p 6 hb hp (by omega))] (by simp only [go_sem, seval, ah_, am_, ab_, aa_]; rfl) ?_ ?_))
 ·(first | trivial | (simp; done) | (obtain ⟨e, i1, i2, i3, i4⟩ := hI; and_intros <;> first | omega | (simp; done) | (simp; omega)))
 refine .block (.loopK (fun q : Nat × Int × List Str => ⟨[.pt 0 2 0 0, .no, .no, .ow 60 1 0 q.2.2.length, .i .i64 q.1, .no, .no, .no, .no, .no, .no, .no, .no, .no, .no, .no, .no, .no, .no, .no, .no, .no, .no, .no, .no, .no, .no, .no, .no, .no, .no, .no], be_ [(0, rdB b q.2.1), (60, ⟨9, 1, bp_ q.2.2⟩)], us [60]⟩) (fun q : Nat × Int × List Str => er_ b q.1 q.2.1 q.2.2 = D ∧ 0 ≤ q.2.1 ∧ q.2.1 + 1000 * q.1 < 1000000 ∧ wL q.2.2 ∧ q.2.2.length + q.1 ≤ 6) (fun q : Nat × Int × List Str => q.1) ((1 + (bn_ b p 6).toNat, p + 1, [])) ?_ ?_ (fun q hI => ?_))
 ·exact ⟨hD, by dsimp only; omega, by dsimp only; omega, (fun w hw => by cases hw), by dsimp only; simp only [List.length_nil]; omega⟩
 ·refine Can.trans (Can.ownSlot 3 60 9 1 (by simp only [go_sem, seval, ah_, am_, ab_, aa_] <;> rfl) (by simp only [go_sem, seval, ah_, am_, ab_, aa_]) (by simp only [go_sem, seval, ah_, am_, ab_, aa_] <;> rfl)) ?_
  exact Can.weak (Weak.lit (by simp only [go_sem, seval, ah_, am_, ab_, aa_, ar_, leV, ap_, aq_, V.inn, us, T9_, Ta_] <;> (rw [bd_ (by omega) (by omega)]; omega)) (by simp only [go_sem, seval, ah_, am_, ab_, aa_, ar_, leV, ap_, aq_, V.inn, us, T9_, Ta_]) (by simp only [go_sem, seval, ah_, am_, ab_, aa_, ar_, leV, ap_, aq_, V.inn, us, T9_, Ta_] <;> (rfl)))
 refine .seq (.seq (.rgn [] (by simp only [go_sem, seval, ah_, am_, ab_, aa_]; rfl) ?_ ?_))
 ·(first | trivial | (simp; done) | (obtain ⟨e, i1, i2, i3, i4⟩ := hI; and_intros <;> first | omega | (simp; done) | (simp; omega)))
 refine .condB (by simp only [go_sem, seval, ah_, am_, ab_, aa_]; rfl) (by simp only [go_sem, seval, ah_, am_, ab_, aa_]) (fun h10 => ?_) (fun h10 => ?_)
 ·refine .skip (.seq (.block (.rgn [qt_ [0] [] (0 ≤ q.2.1 ∧ q.2.1 < 5000000) (fun h => s8_ b q.2.1 hb h.1 h.2)] (by simp only [go_sem, seval, ah_, am_, ab_, aa_]; rfl) ?_ ?_)))
  ·(first | trivial | (simp; done) | (obtain ⟨e, i1, i2, i3, i4⟩ := hI; and_intros <;> first | omega | (simp; done) | (simp; omega)))
  refine .rgn [] (by simp only [go_sem, seval, ah_, am_, ab_, aa_]; rfl) ?_ ?_
  ·(first | trivial | (simp; done) | (obtain ⟨e, i1, i2, i3, i4⟩ := hI; and_intros <;> first | omega | (simp; done) | (simp; omega)))
  refine Exists.intro ((q.1 - 1, (dTo b q.2.1).2, q.2.2 ++ [(dTo b q.2.1).1])) ⟨?_, ?_, ?_⟩
  ·have h0 : 0 < q.1 := (by simpa using h10); obtain ⟨e, i1, i2, i3, i4⟩ := hI; obtain ⟨t1, t2, t3⟩ := ah5_ b i1 (by omega); exact ⟨by rw [← e]; exact ahb_ h0, by dsimp only; omega, by dsimp only; omega, u9_ i3 t3, by dsimp only; rw [T2_, List.length_singleton]; omega⟩
  ·simp at h10; simp; omega
  refine Can.trans (Can.swap 27 60 (by decide) (by decide) (by decide) (by decide) (by simp only [go_sem, seval, ah_, am_, ab_, aa_, V.cl]) (by simp only [go_sem, seval, ah_, am_, ab_, aa_, V.cl]) (by simp only [go_sem, seval, ah_, am_, ab_, aa_, bj_, sw, swM, rnB] <;> rfl) (by simp only [go_sem, seval, ah_, am_, ab_, aa_, bj_, sw, swM, rnB] <;> rfl) (by simp only [go_sem, seval, ah_, am_, ab_, aa_, bj_, sw, swM, rnB] <;> rfl)) ?_
  exact Can.weak (Weak.lit (by simp only [go_sem, seval, ah_, am_, ab_, aa_, ar_, leV, ap_, aq_, V.inn, us, T9_, Ta_] <;> (have h0 : 0 < q.1 := (by simpa using h10); obtain ⟨e, i1, i2, i3, i4⟩ := hI; exact ⟨by simp, by rw [bd_ (by omega) (by omega)]; omega⟩)) (by simp only [go_sem, seval, ah_, am_, ab_, aa_, ar_, leV, ap_, aq_, V.inn, us, T9_, Ta_]) (by simp only [go_sem, seval, ah_, am_, ab_, aa_, ar_, leV, ap_, aq_, V.inn, us, T9_, Ta_] <;> (rw [x2_])))
 ·refine .exit (.seqJ (fun u : Unit => ⟨[.no, .no, .no, .sl false (bp_ R.1), .no, .no, .no, .no, .no, .no, .no, .no, .no, .no, .no, .no, .no, .no, .no, .no, .no, .no, .no, .no, .no, .no, .no, .no, .no, .no, .no, .no], be_ [(0, rdB b R.2)], us []⟩) (fun u : Unit => True) ?_ (fun u hJ => ?_))
  ·refine .seq (.rgn [bs_ [0] [] (dx_ b D.2 30 hb (by omega) (by omega))] (by simp only [go_sem, seval, ah_, am_, ab_, aa_]; rfl) ?_ ?_)
   ·have e := hz q hI.1 h10; exact ⟨by rw [← e], by simp⟩
   refine .condB (by simp only [go_sem, seval, ah_, am_, ab_, aa_]; rfl) (by simp only [go_sem, seval, ah_, am_, ab_, aa_]) (fun h20 => ?_) (fun h20 => ?_)
   ·refine .block (.loopK (fun r : Nat × Int × List Str => ⟨[.pt 0 2 0 0, .no, .no, .ow 60 1 0 r.2.2.length, .no, .no, .no, .no, .no, .no, .no, .no, .no, .no, .no, .no, .no, .no, .no, .no, .no, .no, .no, .no, .no, .no, .no, .no, .no, .no, .no, .no], be_ [(0, rdB b r.2.1), (60, ⟨9, 1, bp_ r.2.2⟩)], us [60]⟩) (fun r : Nat × Int × List Str => g3_ b r.1 r.2.1 r.2.2 = R ∧ 0 ≤ r.2.1 ∧ r.2.1 + r.1 < 1000000 ∧ 21 ≤ r.1 + r.2.2.length ∧ r.2.2.length ≤ 17) (fun r : Nat × Int × List Str => r.1) ((20, D.2 + 1, D.1)) ?_ ?_ (fun r hI => ?_))
    ·exact ⟨by rw [hL, if_pos (by simpa using h20)], by dsimp only; omega, by dsimp only; omega, by dsimp only; omega, by dsimp only; omega⟩
    ·exact Can.weak (Weak.lit (by simp only [go_sem, seval, ah_, am_, ab_, aa_, ar_, leV, ap_, aq_, V.inn, us, T9_, Ta_] <;> (have e := hz q hI.1 h10; rw [← e])) (by simp only [go_sem, seval, ah_, am_, ab_, aa_, ar_, leV, ap_, aq_, V.inn, us, T9_, Ta_]) (by simp only [go_sem, seval, ah_, am_, ab_, aa_, ar_, leV, ap_, aq_, V.inn, us, T9_, Ta_] <;> (have e := hz q hI.1 h10; rw [← e])))
    refine .seq (.seq (.rgn [qt_ [0] [] (0 ≤ r.2.1 ∧ r.2.1 < 5000000) (fun h => dx_ b r.2.1 2 hb h.1 (by omega))] (by simp only [go_sem, seval, ah_, am_, ab_, aa_]; rfl) ?_ ?_))
    ·(first | trivial | (simp; done) | (obtain ⟨e, i1, i2, i3, i4⟩ := hI; and_intros <;> first | omega | (simp; done) | (simp; omega)))
    refine .condB (by simp only [go_sem, seval, ah_, am_, ab_, aa_]; rfl) (by simp only [go_sem, seval, ah_, am_, ab_, aa_]) (fun h26 => ?_) (fun h26 => ?_)
    ·refine .skip (.block (.rgn [] (by simp only [go_sem, seval, ah_, am_, ab_, aa_]; rfl) ?_ ?_))
     ·(first | trivial | (simp; done) | (obtain ⟨e, i1, i2, i3, i4⟩ := hI; and_intros <;> first | omega | (simp; done) | (simp; omega)))
     refine Exists.intro ((r.1 - 1, r.2.1 + 1, r.2.2 ++ [t8_])) ⟨?_, ?_, ?_⟩
     ·obtain ⟨e, i1, i2, i3, i4⟩ := hI; obtain ⟨w1, w2⟩ := hw2 r.2.1 ⟨i1, by omega⟩; rw [w1] at h26; simp only [T3_] at h26; exact ⟨by rw [← e]; exact aeu_ (by omega) h26, by dsimp only; omega, by dsimp only; omega, by dsimp only; rw [T2_, List.length_singleton]; omega, by dsimp only; rw [T2_, List.length_singleton]; omega⟩
     ·obtain ⟨e, i1, i2, i3, i4⟩ := hI; dsimp only; omega
     refine Can.trans (Can.swap 39 60 (by decide) (by decide) (by decide) (by decide) (by simp only [go_sem, seval, ah_, am_, ab_, aa_, V.cl]) (by simp only [go_sem, seval, ah_, am_, ab_, aa_, V.cl]) (by simp only [go_sem, seval, ah_, am_, ab_, aa_, bj_, sw, swM, rnB] <;> rfl) (by simp only [go_sem, seval, ah_, am_, ab_, aa_, bj_, sw, swM, rnB] <;> rfl) (by simp only [go_sem, seval, ah_, am_, ab_, aa_, bj_, sw, swM, rnB] <;> rfl)) ?_
     exact Can.weak (Weak.lit (by simp only [go_sem, seval, ah_, am_, ab_, aa_, ar_, leV, ap_, aq_, V.inn, us, T9_, Ta_] <;> ((try simp))) (by simp only [go_sem, seval, ah_, am_, ab_, aa_, ar_, leV, ap_, aq_, V.inn, us, T9_, Ta_]) (by simp only [go_sem, seval, ah_, am_, ab_, aa_, ar_, leV, ap_, aq_, V.inn, us, T9_, Ta_] <;> (rw [x2_]; first | done | rfl)))
    ·refine .exit ?_
     refine Exists.intro (()) ⟨?_, ?_⟩
     ·trivial
     refine Can.trans (Can.frz 60 (by simp only [go_sem, seval, ah_, am_, ab_, aa_] <;> rfl) (by simp only [go_sem, seval, ah_, am_, ab_, aa_]) (by simp only [go_sem, seval, ah_, am_, ab_, aa_] <;> rfl) (by simp only [go_sem, seval, ah_, am_, ab_, aa_] <;> rfl)) ?_
     exact Can.weak (Weak.lit (by simp only [go_sem, seval, ah_, am_, ab_, aa_, ar_, leV, ap_, aq_, V.inn, us, T9_, Ta_] <;> (first | (obtain ⟨e, i1, i2, i3, i4⟩ := hI; obtain ⟨w1, w2⟩ := hw2 r.2.1 ⟨i1, by omega⟩; rw [w1] at h26; simp only [T4_] at h26; rw [kp_ (by omega) h26] at e; rw [← e]; exact o6_ _) | (have e := hz q hI.1 h10; rw [hL, if_neg (by simpa using h20), ← e]; exact o6_ _))) (by simp only [go_sem, seval, ah_, am_, ab_, aa_, ar_, leV, ap_, aq_, V.inn, us, T9_, Ta_]) (by simp only [go_sem, seval, ah_, am_, ab_, aa_, ar_, leV, ap_, aq_, V.inn, us, T9_, Ta_] <;> (first | (obtain ⟨e, i1, i2, i3, i4⟩ := hI; obtain ⟨w1, w2⟩ := hw2 r.2.1 ⟨i1, by omega⟩; rw [w1] at h26; simp only [T4_] at h26; rw [kp_ (by omega) h26] at e; rw [← e]; first | done | rfl) | (rw [hL, if_neg (by simpa using h20)]; first | done | rfl))))
   ·refine .skip ?_
    refine Exists.intro (()) ⟨?_, ?_⟩
    ·trivial
    refine Can.trans (Can.frz 60 (by simp only [go_sem, seval, ah_, am_, ab_, aa_] <;> rfl) (by simp only [go_sem, seval, ah_, am_, ab_, aa_]) (by simp only [go_sem, seval, ah_, am_, ab_, aa_] <;> rfl) (by simp only [go_sem, seval, ah_, am_, ab_, aa_] <;> rfl)) ?_
    exact Can.weak (Weak.lit (by simp only [go_sem, seval, ah_, am_, ab_, aa_, ar_, leV, ap_, aq_, V.inn, us, T9_, Ta_] <;> (first | (obtain ⟨e, i1, i2, i3, i4⟩ := hI; obtain ⟨w1, w2⟩ := hw2 r.2.1 ⟨i1, by omega⟩; rw [w1] at h26; simp only [T4_] at h26; rw [kp_ (by omega) h26] at e; rw [← e]; exact o6_ _) | (have e := hz q hI.1 h10; rw [hL, if_neg (by simpa using h20), ← e]; exact o6_ _))) (by simp only [go_sem, seval, ah_, am_, ab_, aa_, ar_, leV, ap_, aq_, V.inn, us, T9_, Ta_]) (by simp only [go_sem, seval, ah_, am_, ab_, aa_, ar_, leV, ap_, aq_, V.inn, us, T9_, Ta_] <;> (first | (obtain ⟨e, i1, i2, i3, i4⟩ := hI; obtain ⟨w1, w2⟩ := hw2 r.2.1 ⟨i1, by omega⟩; rw [w1] at h26; simp only [T4_] at h26; rw [kp_ (by omega) h26] at e; rw [← e]; first | done | rfl) | (rw [hL, if_neg (by simpa using h20)]; first | done | rfl))))
  refine .seq (.rgn [a3_ (vt_ R.1 (by omega) (by omega))] (by simp only [go_sem, seval, ah_, am_, ab_, aa_]; rfl) ?_ ?_)
  ·(first | trivial | (simp; done) | (obtain ⟨e, i1, i2, i3, i4⟩ := hI; and_intros <;> first | omega | (simp; done) | (simp; omega)))
  refine .ret ⟨.inr rfl, ?_⟩
  exact Out.mem' (by simp only [Tryz.results40]; rfl) (by simp only [ay_, a6_, go_sem, seval, ah_, am_, ab_, aa_]) (by simp only [a5_, rns, rn, go_sem, seval, ah_, am_, ab_, aa_] <;> (rw [hT])) (by simp) rfl (by decide) (by simp only [go_sem, seval, ah_, am_, ab_, aa_]) (by simp only [am_, go_sem, seval, ah_, am_, ab_, aa_]) (by simp only [ah_, go_sem, seval, ah_, am_, ab_, aa_] <;> (rw [hT]))
theorem ax_ {l : List Pg} {i : Nat} {a t : Str} {g : Bool} {f : List Int} : (pgR l).set i [.s a, .b g, .s t, .sl false (inR f)] = pgR (l.set i ⟨a, g, t, f⟩) := by simp [pgR, List.map_set, pgC]
theorem bkJ {w v : List Pg} {n : Nat} (hn : n = w.length) (h : w = v) : leV (if n ≤ w.length then V.sl false ((pgR w).take n) else V.no) (V.sl false (pgR v)) := by
 subst h hn
 rw [if_pos (Nat.le_refl _), T1_ (by rw [ae_]; exact Nat.le_refl _)]
 exact ⟨fun h => h, a9_ _⟩
theorem r5_ (b : Str) (p : Int) (hb : b.length ≤ 2000) (hp : 0 ≤ p) (hp2 : p < 100000) : ACall En 61 [.pt 0 2 0 0] [rdB b p] [.sl false (pgR (dBk b p).1)] [rdB b (dBk b p).2] := by
 obtain ⟨t1, t2, t3, t4⟩ := ug_ b hp hp2
 have tl := aa8_ b hp hp2
 have hT2 : (dTx b p).2 = (lj_ b p).2 := rfl
 have hl := qa_ (dTx b p).1
 have hD : dBk b p = if fc_ (dTx b p).1 = [] then ([], (dTx b p).2) else (cg_ (fc_ (dTx b p).1) (bn_ b (dTx b p).2 (fc_ (dTx b p).1).length).toNat (bn_ b ((dTx b p).2 + 1) 40), (dTx b p).2 + 1 + 1) := rfl
 have L := r6_ b p hb hp hp2
 have B := pn_ (dTx b p).1 (by omega)
 have hX := fun k => (agb_ (aag_ (dTx b p).1) k).2.1
 rw [← hT2] at t1 t2
 generalize fc_ (dTx b p).1 = w at *
 generalize dTx b p = u at *
 have hW : ((w.length : Int) == 0) = false → 0 < w.length ∧ w ≠ [] := fun h => by
  rw [beq_eq_false_iff_ne] at h
  exact ⟨by omega, fun e => h (by rw [e]; rfl)⟩
 have hk : ((w.length : Int) == 0) = false → 0 ≤ bn_ b u.2 w.length ∧ bn_ b u.2 w.length < w.length := fun h => d8_ b (by omega) (by omega) (by have := (hW h).1; omega)
 have hD1 : ((w.length : Int) == 0) = false → dBk b p = (cg_ w (bn_ b u.2 w.length).toNat (bn_ b (u.2 + 1) 40), u.2 + 1 + 1) := fun h => by rw [hD, if_neg (hW h).2]
 refine ak_ (fn := Tryz.f61) [0] Tryz.func61 rfl rfl (by simp) fun C => ?_
 rw [aw_]
 simp only [Tryz.ntmps61, T7_, List.length_nil, Nat.reduceAdd, Nat.reduceSub, List.replicate_succ, List.replicate_zero, List.cons_append, List.nil_append, bo_]
 refine .seq (.rgn [] (by simp only [go_sem, seval, ah_, am_, ae_, ad_, ag_, ac_, ax_]; rfl) ?_ ?_)
 ·(first | trivial | (simp; done) | (have q1 := hk h10; have q2 := (hW h10).1; have q4 := hX (bn_ b u.2 w.length).toNat; and_intros <;> first | omega | (simp; done) | (simp; omega)))
 refine .seq (.rgn [bs_ [0] [] L, bs_ [] [17] B] (by simp only [go_sem, seval, ah_, am_, ae_, ad_, ag_, ac_, ax_]; rfl) ?_ ?_)
 ·(first | trivial | (simp; done) | (have q1 := hk h10; have q2 := (hW h10).1; have q4 := hX (bn_ b u.2 w.length).toNat; and_intros <;> first | omega | (simp; done) | (simp; omega)))
 refine .seq (.seq (.rgn [] (by simp only [go_sem, seval, ah_, am_, ae_, ad_, ag_, ac_, ax_]; rfl) ?_ ?_))
 ·(first | trivial | (simp; done) | (have q1 := hk h10; have q2 := (hW h10).1; have q4 := hX (bn_ b u.2 w.length).toNat; and_intros <;> first | omega | (simp; done) | (simp; omega)))
 refine .condB (by simp only [go_sem, seval, ah_, am_, ae_, ad_, ag_, ac_, ax_]; rfl) (by simp only [go_sem, seval, ah_, am_, ae_, ad_, ag_, ac_, ax_]) (fun h10 => ?_) (fun h10 => ?_)
 ·refine .seq (.rgn [] (by simp only [go_sem, seval, ah_, am_, ae_, ad_, ag_, ac_, ax_]; rfl) ?_ ?_)
  ·(first | trivial | (simp; done) | (have q1 := hk h10; have q2 := (hW h10).1; have q4 := hX (bn_ b u.2 w.length).toNat; and_intros <;> first | omega | (simp; done) | (simp; omega)))
  refine .frz 17 (by simp only [go_sem, seval, ah_, am_, ae_, ad_, ag_, ac_, ax_]; rfl) (by simp only [go_sem, seval, ah_, am_, ae_, ad_, ag_, ac_, ax_]) (by simp only [go_sem, seval, ah_, am_, ae_, ad_, ag_, ac_, ax_]; rfl) (by simp only [go_sem, seval, ah_, am_, ae_, ad_, ag_, ac_, ax_]; rfl) ?_
  refine .ret ⟨.inr rfl, ?_⟩
  exact Out.mem' (by simp only [Tryz.results61]; rfl) (by simp only [ay_, a6_, go_sem, seval, ah_, am_, ae_, ad_, ag_, ac_, ax_]) (by simp only [a5_, rns, rn, go_sem, seval, ah_, am_, ae_, ad_, ag_, ac_, ax_] <;> (have e : w = [] := (List.eq_nil_of_length_eq_zero (by simpa using h10)); rw [hD, if_pos e, e]; rfl)) (by simp) rfl (by decide) (by simp only [go_sem, seval, ah_, am_, ae_, ad_, ag_, ac_, ax_]) (by simp only [am_, go_sem, seval, ah_, am_, ae_, ad_, ag_, ac_, ax_]) (by simp only [ah_, go_sem, seval, ah_, am_, ae_, ad_, ag_, ac_, ax_] <;> (have e : w = [] := (List.eq_nil_of_length_eq_zero (by simpa using h10)); rw [hD, if_pos e]))
 ·refine .skip (.seq (.rgn [qt_ [0] [] (0 < w.length) (fun h => dx_ b u.2 w.length hb (by omega) (by omega))] (by simp only [go_sem, seval, ah_, am_, ae_, ad_, ag_, ac_, ax_]; rfl) ?_ ?_))
  ·(first | trivial | (simp; done) | (have q1 := hk h10; have q2 := (hW h10).1; have q4 := hX (bn_ b u.2 w.length).toNat; and_intros <;> first | omega | (simp; done) | (simp; omega)))
  refine .seqJ (fun u : Unit => ⟨[.no, .no, .no, .sl false (pgR (dBk b p).1), .no, .no, .no, .no, .no, .no, .no, .no, .no, .no, .no, .no, .no, .no, .no, .no, .no, .no, .no, .no, .no, .no, .no, .no, .no, .no, .no, .no, .no, .no, .no, .no, .no, .no, .no, .no, .no, .no, .no, .no, .no, .no, .no, .no, .no, .no, .no, .no, .no], be_ [(0, rdB b (dBk b p).2)], us []⟩) (fun u : Unit => True) ?_ (fun u hJ => ?_)
  ·refine .seq (.rgn [bs_ [0] [] (dx_ b (u.2 + 1) 40 hb (by omega) (by omega))] (by simp only [go_sem, seval, ah_, am_, ae_, ad_, ag_, ac_, ax_]; rfl) ?_ ?_)
   ·(first | trivial | (simp; done) | (have q1 := hk h10; have q2 := (hW h10).1; have q4 := hX (bn_ b u.2 w.length).toNat; and_intros <;> first | omega | (simp; done) | (simp; omega)))
   refine .block (.seq (.rgn [] (by simp only [go_sem, seval, ah_, am_, ae_, ad_, ag_, ac_, ax_]; rfl) ?_ ?_))
   ·(first | trivial | (simp; done) | (have q1 := hk h10; have q2 := (hW h10).1; have q4 := hX (bn_ b u.2 w.length).toNat; and_intros <;> first | omega | (simp; done) | (simp; omega)))
   refine .condB (by simp only [go_sem, seval, ah_, am_, ae_, ad_, ag_, ac_, ax_]; rfl) (by simp only [go_sem, seval, ah_, am_, ae_, ad_, ag_, ac_, ax_]) (fun h18 => ?_) (fun h18 => ?_)
   ·refine .rgn [] (by simp only [go_sem, seval, ah_, am_, ae_, ad_, ag_, ac_, ax_, cz_ (show (bn_ b u.2 w.length).toNat < w.length by have := hk h10; omega)]; rfl) ?_ ?_
    ·(first | trivial | (simp; done) | (have q1 := hk h10; have q2 := (hW h10).1; have q4 := hX (bn_ b u.2 w.length).toNat; and_intros <;> first | omega | (simp; done) | (simp; omega)))
    refine Exists.intro (()) ⟨?_, ?_⟩
    ·trivial
    refine Can.trans (Can.frz 17 (by simp only [go_sem, seval, ah_, am_, ae_, ad_, ag_, ac_, ax_] <;> rfl) (by simp only [go_sem, seval, ah_, am_, ae_, ad_, ag_, ac_, ax_]) (by simp only [go_sem, seval, ah_, am_, ae_, ad_, ag_, ac_, ax_] <;> rfl) (by simp only [go_sem, seval, ah_, am_, ae_, ad_, ag_, ac_, ax_] <;> rfl)) ?_
    exact Can.weak (Weak.lit (by simp only [go_sem, seval, ah_, am_, ae_, ad_, ag_, ac_, ax_, ar_, leV, ap_, aq_, V.inn, us, T9_, Ta_] <;> (rw [hD1 h10]; first | (refine bkJ (by simp) ?_; first | (rw [cg_, if_pos (by simpa using h18)]; done) | (rw [cg_, if_neg (by simpa using h18), if_pos (by simpa using h30)]; done) | (rw [cg_, if_neg (by simpa using h18), if_neg (by simpa using h30), if_pos (by simpa using h42)]; rfl)) | (have e : cg_ w (bn_ b u.2 w.length).toNat (bn_ b (u.2 + 1) 40) = [] := (by unfold cg_; rw [if_neg (by simpa using h18), if_neg (by simpa using h30), if_neg (by simpa using h42), if_pos (by simpa using h48)]); rw [e, if_pos (Nat.zero_le _)]; exact ⟨fun h => h, trivial⟩) | (rw [cg_, if_neg (by simpa using h18), if_neg (by simpa using h30), if_neg (by simpa using h42), if_neg (by simpa using h48), T1_ (by rw [ae_]; exact Nat.le_refl _)]; exact a9_ _))) (by simp only [go_sem, seval, ah_, am_, ae_, ad_, ag_, ac_, ax_, ar_, leV, ap_, aq_, V.inn, us, T9_, Ta_]) (by simp only [go_sem, seval, ah_, am_, ae_, ad_, ag_, ac_, ax_, ar_, leV, ap_, aq_, V.inn, us, T9_, Ta_] <;> (rw [hD1 h10])))
   ·refine .seq (.rgn [] (by simp only [go_sem, seval, ah_, am_, ae_, ad_, ag_, ac_, ax_]; rfl) ?_ ?_)
    ·(first | trivial | (simp; done) | (have q1 := hk h10; have q2 := (hW h10).1; have q4 := hX (bn_ b u.2 w.length).toNat; and_intros <;> first | omega | (simp; done) | (simp; omega)))
    refine .condB (by simp only [go_sem, seval, ah_, am_, ae_, ad_, ag_, ac_, ax_]; rfl) (by simp only [go_sem, seval, ah_, am_, ae_, ad_, ag_, ac_, ax_]) (fun h30 => ?_) (fun h30 => ?_)
    ·refine .rgn [] (by simp only [go_sem, seval, ah_, am_, ae_, ad_, ag_, ac_, ax_, cz_ (show (bn_ b u.2 w.length).toNat < w.length by have := hk h10; omega)]; rfl) ?_ ?_
     ·(first | trivial | (simp; done) | (have q1 := hk h10; have q2 := (hW h10).1; have q4 := hX (bn_ b u.2 w.length).toNat; and_intros <;> first | omega | (simp; done) | (simp; omega)))
     refine Exists.intro (()) ⟨?_, ?_⟩
     ·trivial
     refine Can.trans (Can.frz 17 (by simp only [go_sem, seval, ah_, am_, ae_, ad_, ag_, ac_, ax_] <;> rfl) (by simp only [go_sem, seval, ah_, am_, ae_, ad_, ag_, ac_, ax_]) (by simp only [go_sem, seval, ah_, am_, ae_, ad_, ag_, ac_, ax_] <;> rfl) (by simp only [go_sem, seval, ah_, am_, ae_, ad_, ag_, ac_, ax_] <;> rfl)) ?_
     exact Can.weak (Weak.lit (by simp only [go_sem, seval, ah_, am_, ae_, ad_, ag_, ac_, ax_, ar_, leV, ap_, aq_, V.inn, us, T9_, Ta_] <;> (rw [hD1 h10]; first | (refine bkJ (by simp) ?_; first | (rw [cg_, if_pos (by simpa using h18)]; done) | (rw [cg_, if_neg (by simpa using h18), if_pos (by simpa using h30)]; done) | (rw [cg_, if_neg (by simpa using h18), if_neg (by simpa using h30), if_pos (by simpa using h42)]; rfl)) | (have e : cg_ w (bn_ b u.2 w.length).toNat (bn_ b (u.2 + 1) 40) = [] := (by unfold cg_; rw [if_neg (by simpa using h18), if_neg (by simpa using h30), if_neg (by simpa using h42), if_pos (by simpa using h48)]); rw [e, if_pos (Nat.zero_le _)]; exact ⟨fun h => h, trivial⟩) | (rw [cg_, if_neg (by simpa using h18), if_neg (by simpa using h30), if_neg (by simpa using h42), if_neg (by simpa using h48), T1_ (by rw [ae_]; exact Nat.le_refl _)]; exact a9_ _))) (by simp only [go_sem, seval, ah_, am_, ae_, ad_, ag_, ac_, ax_, ar_, leV, ap_, aq_, V.inn, us, T9_, Ta_]) (by simp only [go_sem, seval, ah_, am_, ae_, ad_, ag_, ac_, ax_, ar_, leV, ap_, aq_, V.inn, us, T9_, Ta_] <;> (rw [hD1 h10])))
    ·refine .seq (.rgn [] (by simp only [go_sem, seval, ah_, am_, ae_, ad_, ag_, ac_, ax_]; rfl) ?_ ?_)
     ·(first | trivial | (simp; done) | (have q1 := hk h10; have q2 := (hW h10).1; have q4 := hX (bn_ b u.2 w.length).toNat; and_intros <;> first | omega | (simp; done) | (simp; omega)))
     refine .condB (by simp only [go_sem, seval, ah_, am_, ae_, ad_, ag_, ac_, ax_]; rfl) (by simp only [go_sem, seval, ah_, am_, ae_, ad_, ag_, ac_, ax_]) (fun h42 => ?_) (fun h42 => ?_)
     ·refine .rgn [] (by simp only [go_sem, seval, ah_, am_, ae_, ad_, ag_, ac_, ax_, cz_ (show (bn_ b u.2 w.length).toNat < w.length by have := hk h10; omega)]; rfl) ?_ ?_
      ·(first | trivial | (simp; done) | (have q1 := hk h10; have q2 := (hW h10).1; have q4 := hX (bn_ b u.2 w.length).toNat; and_intros <;> first | omega | (simp; done) | (simp; omega)))
      refine Exists.intro (()) ⟨?_, ?_⟩
      ·trivial
      refine Can.trans (Can.frz 17 (by simp only [go_sem, seval, ah_, am_, ae_, ad_, ag_, ac_, ax_] <;> rfl) (by simp only [go_sem, seval, ah_, am_, ae_, ad_, ag_, ac_, ax_]) (by simp only [go_sem, seval, ah_, am_, ae_, ad_, ag_, ac_, ax_] <;> rfl) (by simp only [go_sem, seval, ah_, am_, ae_, ad_, ag_, ac_, ax_] <;> rfl)) ?_
      exact Can.weak (Weak.lit (by simp only [go_sem, seval, ah_, am_, ae_, ad_, ag_, ac_, ax_, ar_, leV, ap_, aq_, V.inn, us, T9_, Ta_] <;> (rw [hD1 h10]; first | (refine bkJ (by simp) ?_; first | (rw [cg_, if_pos (by simpa using h18)]; done) | (rw [cg_, if_neg (by simpa using h18), if_pos (by simpa using h30)]; done) | (rw [cg_, if_neg (by simpa using h18), if_neg (by simpa using h30), if_pos (by simpa using h42)]; rfl)) | (have e : cg_ w (bn_ b u.2 w.length).toNat (bn_ b (u.2 + 1) 40) = [] := (by unfold cg_; rw [if_neg (by simpa using h18), if_neg (by simpa using h30), if_neg (by simpa using h42), if_pos (by simpa using h48)]); rw [e, if_pos (Nat.zero_le _)]; exact ⟨fun h => h, trivial⟩) | (rw [cg_, if_neg (by simpa using h18), if_neg (by simpa using h30), if_neg (by simpa using h42), if_neg (by simpa using h48), T1_ (by rw [ae_]; exact Nat.le_refl _)]; exact a9_ _))) (by simp only [go_sem, seval, ah_, am_, ae_, ad_, ag_, ac_, ax_, ar_, leV, ap_, aq_, V.inn, us, T9_, Ta_]) (by simp only [go_sem, seval, ah_, am_, ae_, ad_, ag_, ac_, ax_, ar_, leV, ap_, aq_, V.inn, us, T9_, Ta_] <;> (rw [hD1 h10])))
     ·refine .seq (.rgn [] (by simp only [go_sem, seval, ah_, am_, ae_, ad_, ag_, ac_, ax_]; rfl) ?_ ?_)
      ·(first | trivial | (simp; done) | (have q1 := hk h10; have q2 := (hW h10).1; have q4 := hX (bn_ b u.2 w.length).toNat; and_intros <;> first | omega | (simp; done) | (simp; omega)))
      refine .condB (by simp only [go_sem, seval, ah_, am_, ae_, ad_, ag_, ac_, ax_]; rfl) (by simp only [go_sem, seval, ah_, am_, ae_, ad_, ag_, ac_, ax_]) (fun h48 => ?_) (fun h48 => ?_)
      ·refine .rgn [] (by simp only [go_sem, seval, ah_, am_, ae_, ad_, ag_, ac_, ax_]; rfl) ?_ ?_
       ·(first | trivial | (simp; done) | (have q1 := hk h10; have q2 := (hW h10).1; have q4 := hX (bn_ b u.2 w.length).toNat; and_intros <;> first | omega | (simp; done) | (simp; omega)))
       refine Exists.intro (()) ⟨?_, ?_⟩
       ·trivial
       refine Can.trans (Can.frz 17 (by simp only [go_sem, seval, ah_, am_, ae_, ad_, ag_, ac_, ax_] <;> rfl) (by simp only [go_sem, seval, ah_, am_, ae_, ad_, ag_, ac_, ax_]) (by simp only [go_sem, seval, ah_, am_, ae_, ad_, ag_, ac_, ax_] <;> rfl) (by simp only [go_sem, seval, ah_, am_, ae_, ad_, ag_, ac_, ax_] <;> rfl)) ?_
       exact Can.weak (Weak.lit (by simp only [go_sem, seval, ah_, am_, ae_, ad_, ag_, ac_, ax_, ar_, leV, ap_, aq_, V.inn, us, T9_, Ta_] <;> (rw [hD1 h10]; first | (refine bkJ (by simp) ?_; first | (rw [cg_, if_pos (by simpa using h18)]; done) | (rw [cg_, if_neg (by simpa using h18), if_pos (by simpa using h30)]; done) | (rw [cg_, if_neg (by simpa using h18), if_neg (by simpa using h30), if_pos (by simpa using h42)]; rfl)) | (have e : cg_ w (bn_ b u.2 w.length).toNat (bn_ b (u.2 + 1) 40) = [] := (by unfold cg_; rw [if_neg (by simpa using h18), if_neg (by simpa using h30), if_neg (by simpa using h42), if_pos (by simpa using h48)]); rw [e, if_pos (Nat.zero_le _)]; exact ⟨fun h => h, trivial⟩) | (rw [cg_, if_neg (by simpa using h18), if_neg (by simpa using h30), if_neg (by simpa using h42), if_neg (by simpa using h48), T1_ (by rw [ae_]; exact Nat.le_refl _)]; exact a9_ _))) (by simp only [go_sem, seval, ah_, am_, ae_, ad_, ag_, ac_, ax_, ar_, leV, ap_, aq_, V.inn, us, T9_, Ta_]) (by simp only [go_sem, seval, ah_, am_, ae_, ad_, ag_, ac_, ax_, ar_, leV, ap_, aq_, V.inn, us, T9_, Ta_] <;> (rw [hD1 h10])))
      ·refine .skip ?_
       refine Exists.intro (()) ⟨?_, ?_⟩
       ·trivial
       refine Can.trans (Can.frz 17 (by simp only [go_sem, seval, ah_, am_, ae_, ad_, ag_, ac_, ax_] <;> rfl) (by simp only [go_sem, seval, ah_, am_, ae_, ad_, ag_, ac_, ax_]) (by simp only [go_sem, seval, ah_, am_, ae_, ad_, ag_, ac_, ax_] <;> rfl) (by simp only [go_sem, seval, ah_, am_, ae_, ad_, ag_, ac_, ax_] <;> rfl)) ?_
       exact Can.weak (Weak.lit (by simp only [go_sem, seval, ah_, am_, ae_, ad_, ag_, ac_, ax_, ar_, leV, ap_, aq_, V.inn, us, T9_, Ta_] <;> (rw [hD1 h10]; first | (refine bkJ (by simp) ?_; first | (rw [cg_, if_pos (by simpa using h18)]; done) | (rw [cg_, if_neg (by simpa using h18), if_pos (by simpa using h30)]; done) | (rw [cg_, if_neg (by simpa using h18), if_neg (by simpa using h30), if_pos (by simpa using h42)]; rfl)) | (have e : cg_ w (bn_ b u.2 w.length).toNat (bn_ b (u.2 + 1) 40) = [] := (by unfold cg_; rw [if_neg (by simpa using h18), if_neg (by simpa using h30), if_neg (by simpa using h42), if_pos (by simpa using h48)]); rw [e, if_pos (Nat.zero_le _)]; exact ⟨fun h => h, trivial⟩) | (rw [cg_, if_neg (by simpa using h18), if_neg (by simpa using h30), if_neg (by simpa using h42), if_neg (by simpa using h48), T1_ (by rw [ae_]; exact Nat.le_refl _)]; exact a9_ _))) (by simp only [go_sem, seval, ah_, am_, ae_, ad_, ag_, ac_, ax_, ar_, leV, ap_, aq_, V.inn, us, T9_, Ta_]) (by simp only [go_sem, seval, ah_, am_, ae_, ad_, ag_, ac_, ax_, ar_, leV, ap_, aq_, V.inn, us, T9_, Ta_] <;> (rw [hD1 h10])))
  refine .seq (.rgn [] (by simp only [go_sem, seval, ah_, am_, ae_, ad_, ag_, ac_, ax_]; rfl) ?_ ?_)
  ·(first | trivial | (simp; done) | (have q1 := hk h10; have q2 := (hW h10).1; have q4 := hX (bn_ b u.2 w.length).toNat; and_intros <;> first | omega | (simp; done) | (simp; omega)))
  refine .ret ⟨.inr rfl, ?_⟩
  exact Out.mem' (by simp only [Tryz.results61]; rfl) (by simp only [ay_, a6_, go_sem, seval, ah_, am_, ae_, ad_, ag_, ac_, ax_]) (by simp only [a5_, rns, rn, go_sem, seval, ah_, am_, ae_, ad_, ag_, ac_, ax_] <;> ((try rfl))) (by simp) rfl (by decide) (by simp only [go_sem, seval, ah_, am_, ae_, ad_, ag_, ac_, ax_]) (by simp only [am_, go_sem, seval, ah_, am_, ae_, ad_, ag_, ac_, ax_]) (by simp only [ah_, go_sem, seval, ah_, am_, ae_, ad_, ag_, ac_, ax_] <;> ((try rfl)))
theorem t0_ (c : Str) : ACall En 39 [.sl false (byR c)] [] [.sl false (pgR (dBk (c.take 2000) 0).1)] [] := by
 have hb : (c.take 2000).length ≤ 2000 := by simp; omega
 have hO := n6_ c
 generalize hc : c.take 2000 = b at *
 have L := r5_ b 0 hb (by decide) (by decide)
 refine ak_ (fn := Tryz.f39) [] Tryz.func39 rfl rfl (by simp) fun C => ?_
 rw [aw_]
 simp only [Tryz.ntmps39, T7_, List.length_nil, Nat.reduceAdd, Nat.reduceSub, List.replicate_succ, List.replicate_zero, List.cons_append, List.nil_append, bo_]
 refine .seq (.rgn [] (by simp only [go_sem, seval, ah_, am_, ad_]; rfl) ?_ ?_)
 ·first | trivial | simp
 refine .seq (.rgn [bs_ [] [14] hO, bs_ [14] [] L] (by simp only [go_sem, seval, ah_, am_, ad_]; rfl) ?_ ?_)
 ·first | trivial | simp
 refine .ret ⟨.inr rfl, ?_⟩
 exact Out.plain (by simp only [Tryz.results39]; rfl) (by simp only [ay_, a6_, go_sem, seval, ah_, am_, ad_] <;> (split <;> rfl)) (by simp only [a5_, go_sem, seval, ah_, am_, ad_] <;> (simp_all)) (by simp only [go_sem, seval, ah_, am_, ad_])
theorem tn_ (c : Str) : ACall En 12 [.sl false (byR c)] [] [.s (dTx (c.take 2000) 0).1] [] := by
 have hb : (c.take 2000).length ≤ 2000 := by simp; omega
 have hO := n6_ c
 generalize hc : c.take 2000 = b at *
 have L := r6_ b 0 hb (by decide) (by decide)
 refine ak_ (fn := Tryz.f12) [] Tryz.func12 rfl rfl (by simp) fun C => ?_
 rw [aw_]
 simp only [Tryz.ntmps12, T7_, List.length_nil, Nat.reduceAdd, Nat.reduceSub, List.replicate_succ, List.replicate_zero, List.cons_append, List.nil_append, bo_]
 refine .seq (.rgn [] (by simp only [go_sem, seval, ah_, am_]; rfl) ?_ ?_)
 ·first | trivial | simp
 refine .seq (.rgn [bs_ [] [14] hO, bs_ [14] [] L] (by simp only [go_sem, seval, ah_, am_]; rfl) ?_ ?_)
 ·first | trivial | simp
 refine .ret ⟨.inr rfl, ?_⟩
 exact Out.plain (by simp only [Tryz.results12]; rfl) (by simp only [ay_, a6_, go_sem, seval, ah_, am_] <;> (split <;> rfl)) (by simp only [a5_, go_sem, seval, ah_, am_] <;> (simp_all)) (by simp only [go_sem, seval, ah_, am_])
def jv_ (b : Str) : Int := bn_ b (dBk b 0).2 ((dBk b 0).1.length + 3) - 1
def twoSay : Str := [115, 97, 121, 32, 49, 10, 115, 97, 121, 32, 50]
def mz_ (b : Str) : Str := if bn_ b ((dBk b 0).2 + 1) 20 = 0 then twoSay else (dTo b ((dBk b 0).2 + 1 + 1)).1
theorem aed_ (b : Str) {p : Int} (hp : 0 ≤ p) (hp2 : p < 100000) : p ≤ (dBk b p).2 ∧ (dBk b p).2 ≤ p + 10000 := by
 obtain ⟨t1, t2, _⟩ := ug_ b hp hp2
 have : (dTx b p).2 = (lj_ b p).2 := rfl
 unfold dBk
 split <;> (dsimp only; omega)
theorem pk_ (b : Str) : -1 ≤ jv_ b ∧ jv_ b ≤ 20 := by
 have h := aed_ b (p := 0) (by decide) (by decide)
 have h2 := kl_ b 0
 have := d8_ b (p := (dBk b 0).2) (n := ((dBk b 0).1.length : Int) + 3) (by omega) (by omega) (by omega)
 unfold jv_; omega
theorem ko_ (b : Str) : (mz_ b).length ≤ 300 := by
 have h := aed_ b (p := 0) (by decide) (by decide)
 unfold mz_
 split
 ·decide
 ·exact (ah5_ b (p := (dBk b 0).2 + 1 + 1) (by omega) (by omega)).2.2
theorem ii_ (c : Str) : ACall En 25 [.sl false (byR c)] [] [.sl false (pgR (dBk (c.take 2000) 0).1), .i .i64 (jv_ (c.take 2000)), .s (mz_ (c.take 2000))] [] := by
 have hb : (c.take 2000).length ≤ 2000 := by simp; omega
 have hO := n6_ c
 generalize hc : c.take 2000 = b at *
 have h := aed_ b (p := 0) (by decide) (by decide)
 have hA : jv_ b = bn_ b (dBk b 0).2 ((dBk b 0).1.length + 3) - 1 := rfl
 have hAp := pk_ b
 have hL : mz_ b = if bn_ b ((dBk b 0).2 + 1) 20 = 0 then twoSay else (dTo b ((dBk b 0).2 + 1 + 1)).1 := rfl
 have hn := kl_ b 0
 have L := r5_ b 0 hb (by decide) (by decide)
 generalize dBk b 0 = u at *
 have hw : IntKind.i64.wrap ((u.1.length : Int) + 3) = (u.1.length : Int) + 3 := by rw [bd_ (by omega) (by omega)]
 have hw2 : IntKind.i64.wrap (bn_ b u.2 ((u.1.length : Int) + 3) - 1) = jv_ b := by rw [hA, bd_ (by omega) (by omega)]
 have T := s8_ b (u.2 + 1 + 1) hb (by omega) (by omega)
 refine ak_ (fn := Tryz.f25) [] Tryz.func25 rfl rfl (by simp) fun C => ?_
 rw [aw_]
 simp only [Tryz.ntmps25, T7_, List.length_nil, Nat.reduceAdd, Nat.reduceSub, List.replicate_succ, List.replicate_zero, List.cons_append, List.nil_append, bo_]
 refine .seq (.rgn [] (by simp only [go_sem, seval, ah_, am_, ad_, ae_, hw, hw2]; rfl) ?_ ?_)
 ·first | trivial | simp
 refine .seq (.rgn [bs_ [] [19] hO] (by simp only [go_sem, seval, ah_, am_, ad_, ae_, hw, hw2]; rfl) ?_ ?_)
 ·first | trivial | simp
 refine .seq (.rgn [bs_ [19] [] L] (by simp only [go_sem, seval, ah_, am_, ad_, ae_, hw, hw2]; rfl) ?_ ?_)
 ·first | trivial | simp
 refine .seq (.rgn [bs_ [19] [] (dx_ b u.2 (u.1.length + 3) hb (by omega) (by omega))] (by simp only [go_sem, seval, ah_, am_, ad_, ae_, hw, hw2]; rfl) ?_ ?_)
 ·first | trivial | simp
 refine .seq (.seq (.rgn [bs_ [19] [] (dx_ b (u.2 + 1) 20 hb (by omega) (by omega))] (by simp only [go_sem, seval, ah_, am_, ad_, ae_, hw, hw2]; rfl) ?_ ?_))
 ·first | trivial | simp
 refine .condB (by simp only [go_sem, seval, ah_, am_, ad_, ae_, hw, hw2]; rfl) (by simp only [go_sem, seval, ah_, am_, ad_, ae_, hw, hw2]) (fun h20 => ?_) (fun h20 => ?_)
 ·refine .seq (.rgn [] (by simp only [go_sem, seval, ah_, am_, ad_, ae_, hw, hw2]; rfl) ?_ ?_)
  ·first | trivial | simp
  refine .ret ⟨.inr rfl, ?_⟩
  exact Out.plain (by simp only [Tryz.results25]; rfl) (by simp only [ay_, a6_, go_sem, seval, ah_, am_, ad_, ae_, hw, hw2] <;> (split <;> rfl)) (by simp only [a5_, go_sem, seval, ah_, am_, ad_, ae_, hw, hw2] <;> (rw [hL, if_pos (by simpa using h20)]; rfl)) (by simp only [go_sem, seval, ah_, am_, ad_, ae_, hw, hw2])
 ·refine .skip (.seq (.rgn [bs_ [19] [] T] (by simp only [go_sem, seval, ah_, am_, ad_, ae_, hw, hw2]; rfl) ?_ ?_))
  ·first | trivial | simp
  refine .ret ⟨.inr rfl, ?_⟩
  exact Out.plain (by simp only [Tryz.results25]; rfl) (by simp only [ay_, a6_, go_sem, seval, ah_, am_, ad_, ae_, hw, hw2] <;> (split <;> rfl)) (by simp only [a5_, go_sem, seval, ah_, am_, ad_, ae_, hw, hw2] <;> (rw [hL, if_neg (by simpa using h20)])) (by simp only [go_sem, seval, ah_, am_, ad_, ae_, hw, hw2])
theorem lu_ (c : Str) : ACall En 28 [.sl false (byR c)] [] [.sl false (pgR (dBk (c.take 2000) 0).1), .i .i64 (jv_ (c.take 2000)), .s (mz_ (c.take 2000))] [] := by
 refine ak_ (fn := Tryz.f28) [] Tryz.func28 rfl rfl (by simp) fun C => ?_
 rw [aw_]
 simp only [Tryz.ntmps28, T7_, List.length_nil, Nat.reduceAdd, Nat.reduceSub, List.replicate_succ, List.replicate_zero, List.cons_append, List.nil_append, bo_]
 refine .seq (.rgn [] (by simp only [go_sem, seval, ad_]; rfl) ?_ ?_)
 ·first | trivial | simp
 refine .seq (.rgn [a3_ (ii_ c)] (by simp only [go_sem, seval, ad_]; rfl) ?_ ?_)
 ·first | trivial | simp
 refine .ret ⟨.inr rfl, ?_⟩
 exact Out.plain (by simp only [Tryz.results28]; rfl) (by simp only [ay_, a6_, go_sem, seval, ad_] <;> (split <;> rfl)) (by simp only [a5_, go_sem, seval, ad_] <;> (simp_all)) (by simp only [go_sem, seval, ad_])
end
end Go.Proofs.YtpikbndepapbhaaGreatDoor
