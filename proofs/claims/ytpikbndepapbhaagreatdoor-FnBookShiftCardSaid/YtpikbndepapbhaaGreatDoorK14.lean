/- Books, drawn. Conditions: none. -/
import Derived.Test.YtpikbndepapbhaaGreatDoorK13
import Derived.Test.YtpikbndepapbhaaGreatDoorK12
set_option linter.unusedVariables false
set_option linter.unusedSimpArgs false
namespace Go.Proofs.YtpikbndepapbhaaGreatDoor
section
set_option maxRecDepth 100000
set_option maxHeartbeats 4000000
theorem agh_ {b : Str} {n : Nat} {p : Int} {l : List Str} (h : 0 < n) : ek_ b (n - 1) (dTo b p).2 (l ++ [(dTo b p).1]) = ek_ b n p l := by
 obtain ⟨m, rfl⟩ : ∃ m, n = m + 1 := ⟨n - 1, by omega⟩
 rfl
theorem ads_ {b : Str} {n : Nat} {p : Int} {l : List Str} (h : 0 < n) (h2 : (l.length : Int) < 16 + bn_ b p 2) : gv_ b (n - 1) (p + 1) (l ++ [t0_]) = gv_ b n p l := by
 obtain ⟨m, rfl⟩ : ∃ m, n = m + 1 := ⟨n - 1, by omega⟩
 show _ = gv_ b (m + 1) p l
 rw [gv_, if_pos h2]; rfl
theorem ke_ {b : Str} {n : Nat} {p : Int} {l : List Str} (h : 0 < n) (h2 : ¬ (l.length : Int) < 16 + bn_ b p 2) : gv_ b n p l = (l, p + 1) := by
 obtain ⟨m, rfl⟩ : ∃ m, n = m + 1 := ⟨n - 1, by omega⟩
 rw [gv_, if_neg h2]
theorem u2_ (l : List Str) (s : Str) : bp_ (l ++ [s]) = bp_ l ++ [[.s s]] := by simp [bp_]
theorem n2_ (l : List Str) : ler ((bp_ l).take l.length) (bp_ l) := by rw [T1_ (by rw [ab_]; exact Nat.le_refl _)]; exact a9_ _
theorem abz_ (b : Str) (p : Int) (hb : b.length ≤ 2000) (hp : 0 ≤ p) (hp2 : p < 100000) : ACall En 40 [.pt 0 2 0 0] [rdB b p] [.s (dTx b p).1] [rdB b (dTx b p).2] := by
 have h6 := d1_ b (p := p) (n := 6) hp (by omega) (by decide)
 obtain ⟨d1, d2, d3, d4⟩ := t5_ b (1 + (bn_ b p 6).toNat) (p + 1) [] (by omega) (by omega) (fun w hw => by cases hw)
 obtain ⟨t1, t2, t3, t4⟩ := sx_ b hp hp2
 have hT : dTx b p = (c2_ (k3_ b p).1, (k3_ b p).2) := rfl
 have hL : k3_ b p = if bn_ b (ek_ b (1 + (bn_ b p 6).toNat) (p + 1) []).2 30 = 0 then gv_ b 20 ((ek_ b (1 + (bn_ b p 6).toNat) (p + 1) []).2 + 1) (ek_ b (1 + (bn_ b p 6).toNat) (p + 1) []).1 else ((ek_ b (1 + (bn_ b p 6).toNat) (p + 1) []).1, (ek_ b (1 + (bn_ b p 6).toNat) (p + 1) []).2 + 1) := rfl
 have hJ0 := aa3_ (l := (k3_ b p).1) (k := 300) t3
 have hJ1 := Nat.mul_le_mul_right 301 t4
 simp only [List.length_nil] at d4
 generalize hD : ek_ b (1 + (bn_ b p 6).toNat) (p + 1) [] = D at *
 generalize hR : k3_ b p = R at *
 have hz : ∀ q : Nat × Int × List Str, ek_ b q.1 q.2.1 q.2.2 = D → decide ((q.1 : Int) > 0) = false → (q.2.2, q.2.1) = D := fun q e h => by
  rw [show q.1 = 0 by simpa using h] at e; exact e
 have hw2 : ∀ p : Int, 0 ≤ p ∧ p < 1000000 → IntKind.i64.wrap (16 + bn_ b p 2) = 16 + bn_ b p 2 ∧ bn_ b p 2 < 2 := fun p h => by
  have := d1_ b (p := p) (n := 2) h.1 (by omega) (by decide)
  exact ⟨by rw [bd_ (by omega) (by omega)], this.2⟩
 refine al_ (fn := Tryz.f40) [0] Tryz.func40 rfl rfl (by simp) fun C => ?_
 rw [aw_]
 simp only [Tryz.ntmps40, T7_, List.length_nil, Nat.reduceAdd, Nat.reduceSub, List.replicate_succ, List.replicate_zero, List.cons_append, List.nil_append, bo_]
 refine .seq (.rgn [] (by simp only [go_sem, seval, ag_, ak_, ab_, aa_]; rfl) ?_ ?_)
 ·(first | trivial | (simp; done) | (obtain ⟨e, i1, i2, i3, i4⟩ := hI; and_intros <;> first | omega | (simp; done) | (simp; omega)))
 refine .seq (.rgn [] (by simp only [go_sem, seval, ag_, ak_, ab_, aa_]; rfl) ?_ ?_)
 ·(first | trivial | (simp; done) | (obtain ⟨e, i1, i2, i3, i4⟩ := hI; and_intros <;> first | omega | (simp; done) | (simp; omega)))
 refine .seq (.seq (.rgn [bs_ [0] [] (dr_ b p 6 hb hp (by omega))] (by simp only [go_sem, seval, ag_, ak_, ab_, aa_]; rfl) ?_ ?_))
 ·(first | trivial | (simp; done) | (obtain ⟨e, i1, i2, i3, i4⟩ := hI; and_intros <;> first | omega | (simp; done) | (simp; omega)))
 refine .block (.loopK (fun q : Nat × Int × List Str => ⟨[.pt 0 2 0 0, .no, .no, .ow 60 1 0 q.2.2.length, .i .i64 q.1, .no, .no, .no, .no, .no, .no, .no, .no, .no, .no, .no, .no, .no, .no, .no, .no, .no, .no, .no, .no, .no, .no, .no, .no, .no, .no, .no], be_ [(0, rdB b q.2.1), (60, ⟨9, 1, bp_ q.2.2⟩)], us [60]⟩) (fun q : Nat × Int × List Str => ek_ b q.1 q.2.1 q.2.2 = D ∧ 0 ≤ q.2.1 ∧ q.2.1 + 1000 * q.1 < 1000000 ∧ wL q.2.2 ∧ q.2.2.length + q.1 ≤ 6) (fun q : Nat × Int × List Str => q.1) ((1 + (bn_ b p 6).toNat, p + 1, [])) ?_ ?_ (fun q hI => ?_))
 ·exact ⟨hD, by dsimp only; omega, by dsimp only; omega, (fun w hw => by cases hw), by dsimp only; simp only [List.length_nil]; omega⟩
 ·refine Can.trans (Can.ownSlot 3 60 9 1 (by simp only [go_sem, seval, ag_, ak_, ab_, aa_] <;> rfl) (by simp only [go_sem, seval, ag_, ak_, ab_, aa_]) (by simp only [go_sem, seval, ag_, ak_, ab_, aa_] <;> rfl)) ?_
  exact Can.weak (Weak.lit (by simp only [go_sem, seval, ag_, ak_, ab_, aa_, as_, leV, ap_, ar_, V.inn, us, T9_, Ta_] <;> (rw [bd_ (by omega) (by omega)]; omega)) (by simp only [go_sem, seval, ag_, ak_, ab_, aa_, as_, leV, ap_, ar_, V.inn, us, T9_, Ta_]) (by simp only [go_sem, seval, ag_, ak_, ab_, aa_, as_, leV, ap_, ar_, V.inn, us, T9_, Ta_] <;> (rfl)))
 refine .seq (.seq (.rgn [] (by simp only [go_sem, seval, ag_, ak_, ab_, aa_]; rfl) ?_ ?_))
 ·(first | trivial | (simp; done) | (obtain ⟨e, i1, i2, i3, i4⟩ := hI; and_intros <;> first | omega | (simp; done) | (simp; omega)))
 refine .condB (by simp only [go_sem, seval, ag_, ak_, ab_, aa_]; rfl) (by simp only [go_sem, seval, ag_, ak_, ab_, aa_]) (fun h10 => ?_) (fun h10 => ?_)
 ·refine .skip (.seq (.block (.rgn [pw_ [0] [] (0 ≤ q.2.1 ∧ q.2.1 < 5000000) (fun h => rf_ b q.2.1 hb h.1 h.2)] (by simp only [go_sem, seval, ag_, ak_, ab_, aa_]; rfl) ?_ ?_)))
  ·(first | trivial | (simp; done) | (obtain ⟨e, i1, i2, i3, i4⟩ := hI; and_intros <;> first | omega | (simp; done) | (simp; omega)))
  refine .rgn [] (by simp only [go_sem, seval, ag_, ak_, ab_, aa_]; rfl) ?_ ?_
  ·(first | trivial | (simp; done) | (obtain ⟨e, i1, i2, i3, i4⟩ := hI; and_intros <;> first | omega | (simp; done) | (simp; omega)))
  refine Exists.intro ((q.1 - 1, (dTo b q.2.1).2, q.2.2 ++ [(dTo b q.2.1).1])) ⟨?_, ?_, ?_⟩
  ·have h0 : 0 < q.1 := (by simpa using h10); obtain ⟨e, i1, i2, i3, i4⟩ := hI; obtain ⟨t1, t2, t3⟩ := ak8_ b i1 (by omega); exact ⟨by rw [← e]; exact agh_ h0, by dsimp only; omega, by dsimp only; omega, ss_ i3 t3, by dsimp only; rw [T2_, List.length_singleton]; omega⟩
  ·simp at h10; simp; omega
  refine Can.trans (Can.swap 27 60 (by decide) (by decide) (by decide) (by decide) (by simp only [go_sem, seval, ag_, ak_, ab_, aa_, V.cl]) (by simp only [go_sem, seval, ag_, ak_, ab_, aa_, V.cl]) (by simp only [go_sem, seval, ag_, ak_, ab_, aa_, bj_, sw, swM, rnB] <;> rfl) (by simp only [go_sem, seval, ag_, ak_, ab_, aa_, bj_, sw, swM, rnB] <;> rfl) (by simp only [go_sem, seval, ag_, ak_, ab_, aa_, bj_, sw, swM, rnB] <;> rfl)) ?_
  exact Can.weak (Weak.lit (by simp only [go_sem, seval, ag_, ak_, ab_, aa_, as_, leV, ap_, ar_, V.inn, us, T9_, Ta_] <;> (have h0 : 0 < q.1 := (by simpa using h10); obtain ⟨e, i1, i2, i3, i4⟩ := hI; exact ⟨by simp, by rw [bd_ (by omega) (by omega)]; omega⟩)) (by simp only [go_sem, seval, ag_, ak_, ab_, aa_, as_, leV, ap_, ar_, V.inn, us, T9_, Ta_]) (by simp only [go_sem, seval, ag_, ak_, ab_, aa_, as_, leV, ap_, ar_, V.inn, us, T9_, Ta_] <;> (rw [u2_])))
 ·refine .exit (.seqJ (fun u : Unit => ⟨[.no, .no, .no, .sl false (bp_ R.1), .no, .no, .no, .no, .no, .no, .no, .no, .no, .no, .no, .no, .no, .no, .no, .no, .no, .no, .no, .no, .no, .no, .no, .no, .no, .no, .no, .no], be_ [(0, rdB b R.2)], us []⟩) (fun u : Unit => True) ?_ (fun u hJ => ?_))
  ·refine .seq (.rgn [bs_ [0] [] (dr_ b D.2 30 hb (by omega) (by omega))] (by simp only [go_sem, seval, ag_, ak_, ab_, aa_]; rfl) ?_ ?_)
   ·have e := hz q hI.1 h10; exact ⟨by rw [← e], by simp⟩
   refine .condB (by simp only [go_sem, seval, ag_, ak_, ab_, aa_]; rfl) (by simp only [go_sem, seval, ag_, ak_, ab_, aa_]) (fun h20 => ?_) (fun h20 => ?_)
   ·refine .block (.loopK (fun r : Nat × Int × List Str => ⟨[.pt 0 2 0 0, .no, .no, .ow 60 1 0 r.2.2.length, .no, .no, .no, .no, .no, .no, .no, .no, .no, .no, .no, .no, .no, .no, .no, .no, .no, .no, .no, .no, .no, .no, .no, .no, .no, .no, .no, .no], be_ [(0, rdB b r.2.1), (60, ⟨9, 1, bp_ r.2.2⟩)], us [60]⟩) (fun r : Nat × Int × List Str => gv_ b r.1 r.2.1 r.2.2 = R ∧ 0 ≤ r.2.1 ∧ r.2.1 + r.1 < 1000000 ∧ 21 ≤ r.1 + r.2.2.length ∧ r.2.2.length ≤ 17) (fun r : Nat × Int × List Str => r.1) ((20, D.2 + 1, D.1)) ?_ ?_ (fun r hI => ?_))
    ·exact ⟨by rw [hL, if_pos (by simpa using h20)], by dsimp only; omega, by dsimp only; omega, by dsimp only; omega, by dsimp only; omega⟩
    ·exact Can.weak (Weak.lit (by simp only [go_sem, seval, ag_, ak_, ab_, aa_, as_, leV, ap_, ar_, V.inn, us, T9_, Ta_] <;> (have e := hz q hI.1 h10; rw [← e])) (by simp only [go_sem, seval, ag_, ak_, ab_, aa_, as_, leV, ap_, ar_, V.inn, us, T9_, Ta_]) (by simp only [go_sem, seval, ag_, ak_, ab_, aa_, as_, leV, ap_, ar_, V.inn, us, T9_, Ta_] <;> (have e := hz q hI.1 h10; rw [← e])))
    refine .seq (.seq (.rgn [pw_ [0] [] (0 ≤ r.2.1 ∧ r.2.1 < 5000000) (fun h => dr_ b r.2.1 2 hb h.1 (by omega))] (by simp only [go_sem, seval, ag_, ak_, ab_, aa_]; rfl) ?_ ?_))
    ·(first | trivial | (simp; done) | (obtain ⟨e, i1, i2, i3, i4⟩ := hI; and_intros <;> first | omega | (simp; done) | (simp; omega)))
    refine .condB (by simp only [go_sem, seval, ag_, ak_, ab_, aa_]; rfl) (by simp only [go_sem, seval, ag_, ak_, ab_, aa_]) (fun h26 => ?_) (fun h26 => ?_)
    ·refine .skip (.block (.rgn [] (by simp only [go_sem, seval, ag_, ak_, ab_, aa_]; rfl) ?_ ?_))
     ·(first | trivial | (simp; done) | (obtain ⟨e, i1, i2, i3, i4⟩ := hI; and_intros <;> first | omega | (simp; done) | (simp; omega)))
     refine Exists.intro ((r.1 - 1, r.2.1 + 1, r.2.2 ++ [t0_])) ⟨?_, ?_, ?_⟩
     ·obtain ⟨e, i1, i2, i3, i4⟩ := hI; obtain ⟨w1, w2⟩ := hw2 r.2.1 ⟨i1, by omega⟩; rw [w1] at h26; simp only [T3_] at h26; exact ⟨by rw [← e]; exact ads_ (by omega) h26, by dsimp only; omega, by dsimp only; omega, by dsimp only; rw [T2_, List.length_singleton]; omega, by dsimp only; rw [T2_, List.length_singleton]; omega⟩
     ·obtain ⟨e, i1, i2, i3, i4⟩ := hI; dsimp only; omega
     refine Can.trans (Can.swap 39 60 (by decide) (by decide) (by decide) (by decide) (by simp only [go_sem, seval, ag_, ak_, ab_, aa_, V.cl]) (by simp only [go_sem, seval, ag_, ak_, ab_, aa_, V.cl]) (by simp only [go_sem, seval, ag_, ak_, ab_, aa_, bj_, sw, swM, rnB] <;> rfl) (by simp only [go_sem, seval, ag_, ak_, ab_, aa_, bj_, sw, swM, rnB] <;> rfl) (by simp only [go_sem, seval, ag_, ak_, ab_, aa_, bj_, sw, swM, rnB] <;> rfl)) ?_
     exact Can.weak (Weak.lit (by simp only [go_sem, seval, ag_, ak_, ab_, aa_, as_, leV, ap_, ar_, V.inn, us, T9_, Ta_] <;> ((try simp))) (by simp only [go_sem, seval, ag_, ak_, ab_, aa_, as_, leV, ap_, ar_, V.inn, us, T9_, Ta_]) (by simp only [go_sem, seval, ag_, ak_, ab_, aa_, as_, leV, ap_, ar_, V.inn, us, T9_, Ta_] <;> (rw [u2_]; first | done | rfl)))
    ·refine .exit ?_
     refine Exists.intro (()) ⟨?_, ?_⟩
     ·trivial
     refine Can.trans (Can.frz 60 (by simp only [go_sem, seval, ag_, ak_, ab_, aa_] <;> rfl) (by simp only [go_sem, seval, ag_, ak_, ab_, aa_]) (by simp only [go_sem, seval, ag_, ak_, ab_, aa_] <;> rfl) (by simp only [go_sem, seval, ag_, ak_, ab_, aa_] <;> rfl)) ?_
     exact Can.weak (Weak.lit (by simp only [go_sem, seval, ag_, ak_, ab_, aa_, as_, leV, ap_, ar_, V.inn, us, T9_, Ta_] <;> (first | (obtain ⟨e, i1, i2, i3, i4⟩ := hI; obtain ⟨w1, w2⟩ := hw2 r.2.1 ⟨i1, by omega⟩; rw [w1] at h26; simp only [T4_] at h26; rw [ke_ (by omega) h26] at e; rw [← e]; exact n2_ _) | (have e := hz q hI.1 h10; rw [hL, if_neg (by simpa using h20), ← e]; exact n2_ _))) (by simp only [go_sem, seval, ag_, ak_, ab_, aa_, as_, leV, ap_, ar_, V.inn, us, T9_, Ta_]) (by simp only [go_sem, seval, ag_, ak_, ab_, aa_, as_, leV, ap_, ar_, V.inn, us, T9_, Ta_] <;> (first | (obtain ⟨e, i1, i2, i3, i4⟩ := hI; obtain ⟨w1, w2⟩ := hw2 r.2.1 ⟨i1, by omega⟩; rw [w1] at h26; simp only [T4_] at h26; rw [ke_ (by omega) h26] at e; rw [← e]; first | done | rfl) | (rw [hL, if_neg (by simpa using h20)]; first | done | rfl))))
   ·refine .skip ?_
    refine Exists.intro (()) ⟨?_, ?_⟩
    ·trivial
    refine Can.trans (Can.frz 60 (by simp only [go_sem, seval, ag_, ak_, ab_, aa_] <;> rfl) (by simp only [go_sem, seval, ag_, ak_, ab_, aa_]) (by simp only [go_sem, seval, ag_, ak_, ab_, aa_] <;> rfl) (by simp only [go_sem, seval, ag_, ak_, ab_, aa_] <;> rfl)) ?_
    exact Can.weak (Weak.lit (by simp only [go_sem, seval, ag_, ak_, ab_, aa_, as_, leV, ap_, ar_, V.inn, us, T9_, Ta_] <;> (first | (obtain ⟨e, i1, i2, i3, i4⟩ := hI; obtain ⟨w1, w2⟩ := hw2 r.2.1 ⟨i1, by omega⟩; rw [w1] at h26; simp only [T4_] at h26; rw [ke_ (by omega) h26] at e; rw [← e]; exact n2_ _) | (have e := hz q hI.1 h10; rw [hL, if_neg (by simpa using h20), ← e]; exact n2_ _))) (by simp only [go_sem, seval, ag_, ak_, ab_, aa_, as_, leV, ap_, ar_, V.inn, us, T9_, Ta_]) (by simp only [go_sem, seval, ag_, ak_, ab_, aa_, as_, leV, ap_, ar_, V.inn, us, T9_, Ta_] <;> (first | (obtain ⟨e, i1, i2, i3, i4⟩ := hI; obtain ⟨w1, w2⟩ := hw2 r.2.1 ⟨i1, by omega⟩; rw [w1] at h26; simp only [T4_] at h26; rw [ke_ (by omega) h26] at e; rw [← e]; first | done | rfl) | (rw [hL, if_neg (by simpa using h20)]; first | done | rfl))))
  refine .seq (.rgn [a4_ (vs_ R.1 (by omega) (by omega))] (by simp only [go_sem, seval, ag_, ak_, ab_, aa_]; rfl) ?_ ?_)
  ·(first | trivial | (simp; done) | (obtain ⟨e, i1, i2, i3, i4⟩ := hI; and_intros <;> first | omega | (simp; done) | (simp; omega)))
  refine .ret ⟨.inr rfl, ?_⟩
  exact Out.mem' (by simp only [Tryz.results40]; rfl) (by simp only [ay_, a6_, go_sem, seval, ag_, ak_, ab_, aa_]) (by simp only [a5_, rns, rn, go_sem, seval, ag_, ak_, ab_, aa_] <;> (rw [hT])) (by simp) rfl (by decide) (by simp only [go_sem, seval, ag_, ak_, ab_, aa_]) (by simp only [ak_, go_sem, seval, ag_, ak_, ab_, aa_]) (by simp only [ag_, go_sem, seval, ag_, ak_, ab_, aa_] <;> (rw [hT]))
theorem bc_ {l : List Pg} {i : Nat} {a t : Str} {g : Bool} {f : List Int} : (pgR l).set i [.s a, .b g, .s t, .sl false (inR f)] = pgR (l.set i ⟨a, g, t, f⟩) := by simp [pgR, List.map_set, pgC]
theorem bkJ {w v : List Pg} {n : Nat} (hn : n = w.length) (h : w = v) : leV (if n ≤ w.length then V.sl false ((pgR w).take n) else V.no) (V.sl false (pgR v)) := by
 subst h hn
 rw [if_pos (Nat.le_refl _), T1_ (by rw [ae_]; exact Nat.le_refl _)]
 exact ⟨fun h => h, a9_ _⟩
theorem rz_ (b : Str) (p : Int) (hb : b.length ≤ 2000) (hp : 0 ≤ p) (hp2 : p < 100000) : ACall En 61 [.pt 0 2 0 0] [rdB b p] [.sl false (pgR (dBk b p).1)] [rdB b (dBk b p).2] := by
 obtain ⟨t1, t2, t3, t4⟩ := sx_ b hp hp2
 have tl := ajo_ b hp hp2
 have hT2 : (dTx b p).2 = (k3_ b p).2 := rfl
 have hl := uy_ (dTx b p).1
 have hD : dBk b p = if ik_ (dTx b p).1 = [] then ([], (dTx b p).2) else (cg_ (ik_ (dTx b p).1) (bn_ b (dTx b p).2 (ik_ (dTx b p).1).length).toNat (bn_ b ((dTx b p).2 + 1) 40), (dTx b p).2 + 1 + 1) := rfl
 have L := abz_ b p hb hp hp2
 have B := yw_ (dTx b p).1 (by omega)
 have hX := fun k => (agn_ (zo_ (dTx b p).1) k).2.1
 rw [← hT2] at t1 t2
 generalize ik_ (dTx b p).1 = w at *
 generalize dTx b p = u at *
 have hW : ((w.length : Int) == 0) = false → 0 < w.length ∧ w ≠ [] := fun h => by
  rw [beq_eq_false_iff_ne] at h
  exact ⟨by omega, fun e => h (by rw [e]; rfl)⟩
 have hk : ((w.length : Int) == 0) = false → 0 ≤ bn_ b u.2 w.length ∧ bn_ b u.2 w.length < w.length := fun h => d1_ b (by omega) (by omega) (by have := (hW h).1; omega)
 have hD1 : ((w.length : Int) == 0) = false → dBk b p = (cg_ w (bn_ b u.2 w.length).toNat (bn_ b (u.2 + 1) 40), u.2 + 1 + 1) := fun h => by rw [hD, if_neg (hW h).2]
 refine al_ (fn := Tryz.f61) [0] Tryz.func61 rfl rfl (by simp) fun C => ?_
 rw [aw_]
 simp only [Tryz.ntmps61, T7_, List.length_nil, Nat.reduceAdd, Nat.reduceSub, List.replicate_succ, List.replicate_zero, List.cons_append, List.nil_append, bo_]
 refine .seq (.rgn [] (by simp only [go_sem, seval, ag_, ak_, ae_, ad_, aj_, ac_, bc_]; rfl) ?_ ?_)
 ·(first | trivial | (simp; done) | (have q1 := hk h10; have q2 := (hW h10).1; have q4 := hX (bn_ b u.2 w.length).toNat; and_intros <;> first | omega | (simp; done) | (simp; omega)))
 refine .seq (.rgn [bs_ [0] [] L, bs_ [] [17] B] (by simp only [go_sem, seval, ag_, ak_, ae_, ad_, aj_, ac_, bc_]; rfl) ?_ ?_)
 ·(first | trivial | (simp; done) | (have q1 := hk h10; have q2 := (hW h10).1; have q4 := hX (bn_ b u.2 w.length).toNat; and_intros <;> first | omega | (simp; done) | (simp; omega)))
 refine .seq (.seq (.rgn [] (by simp only [go_sem, seval, ag_, ak_, ae_, ad_, aj_, ac_, bc_]; rfl) ?_ ?_))
 ·(first | trivial | (simp; done) | (have q1 := hk h10; have q2 := (hW h10).1; have q4 := hX (bn_ b u.2 w.length).toNat; and_intros <;> first | omega | (simp; done) | (simp; omega)))
 refine .condB (by simp only [go_sem, seval, ag_, ak_, ae_, ad_, aj_, ac_, bc_]; rfl) (by simp only [go_sem, seval, ag_, ak_, ae_, ad_, aj_, ac_, bc_]) (fun h10 => ?_) (fun h10 => ?_)
 ·refine .seq (.rgn [] (by simp only [go_sem, seval, ag_, ak_, ae_, ad_, aj_, ac_, bc_]; rfl) ?_ ?_)
  ·(first | trivial | (simp; done) | (have q1 := hk h10; have q2 := (hW h10).1; have q4 := hX (bn_ b u.2 w.length).toNat; and_intros <;> first | omega | (simp; done) | (simp; omega)))
  refine .frz 17 (by simp only [go_sem, seval, ag_, ak_, ae_, ad_, aj_, ac_, bc_]; rfl) (by simp only [go_sem, seval, ag_, ak_, ae_, ad_, aj_, ac_, bc_]) (by simp only [go_sem, seval, ag_, ak_, ae_, ad_, aj_, ac_, bc_]; rfl) (by simp only [go_sem, seval, ag_, ak_, ae_, ad_, aj_, ac_, bc_]; rfl) ?_
  refine .ret ⟨.inr rfl, ?_⟩
  exact Out.mem' (by simp only [Tryz.results61]; rfl) (by simp only [ay_, a6_, go_sem, seval, ag_, ak_, ae_, ad_, aj_, ac_, bc_]) (by simp only [a5_, rns, rn, go_sem, seval, ag_, ak_, ae_, ad_, aj_, ac_, bc_] <;> (have e : w = [] := (List.eq_nil_of_length_eq_zero (by simpa using h10)); rw [hD, if_pos e, e]; rfl)) (by simp) rfl (by decide) (by simp only [go_sem, seval, ag_, ak_, ae_, ad_, aj_, ac_, bc_]) (by simp only [ak_, go_sem, seval, ag_, ak_, ae_, ad_, aj_, ac_, bc_]) (by simp only [ag_, go_sem, seval, ag_, ak_, ae_, ad_, aj_, ac_, bc_] <;> (have e : w = [] := (List.eq_nil_of_length_eq_zero (by simpa using h10)); rw [hD, if_pos e]))
 ·refine .skip (.seq (.rgn [pw_ [0] [] (0 < w.length) (fun h => dr_ b u.2 w.length hb (by omega) (by omega))] (by simp only [go_sem, seval, ag_, ak_, ae_, ad_, aj_, ac_, bc_]; rfl) ?_ ?_))
  ·(first | trivial | (simp; done) | (have q1 := hk h10; have q2 := (hW h10).1; have q4 := hX (bn_ b u.2 w.length).toNat; and_intros <;> first | omega | (simp; done) | (simp; omega)))
  refine .seqJ (fun u : Unit => ⟨[.no, .no, .no, .sl false (pgR (dBk b p).1), .no, .no, .no, .no, .no, .no, .no, .no, .no, .no, .no, .no, .no, .no, .no, .no, .no, .no, .no, .no, .no, .no, .no, .no, .no, .no, .no, .no, .no, .no, .no, .no, .no, .no, .no, .no, .no, .no, .no, .no, .no, .no, .no, .no, .no, .no, .no, .no, .no], be_ [(0, rdB b (dBk b p).2)], us []⟩) (fun u : Unit => True) ?_ (fun u hJ => ?_)
  ·refine .seq (.rgn [bs_ [0] [] (dr_ b (u.2 + 1) 40 hb (by omega) (by omega))] (by simp only [go_sem, seval, ag_, ak_, ae_, ad_, aj_, ac_, bc_]; rfl) ?_ ?_)
   ·(first | trivial | (simp; done) | (have q1 := hk h10; have q2 := (hW h10).1; have q4 := hX (bn_ b u.2 w.length).toNat; and_intros <;> first | omega | (simp; done) | (simp; omega)))
   refine .block (.seq (.rgn [] (by simp only [go_sem, seval, ag_, ak_, ae_, ad_, aj_, ac_, bc_]; rfl) ?_ ?_))
   ·(first | trivial | (simp; done) | (have q1 := hk h10; have q2 := (hW h10).1; have q4 := hX (bn_ b u.2 w.length).toNat; and_intros <;> first | omega | (simp; done) | (simp; omega)))
   refine .condB (by simp only [go_sem, seval, ag_, ak_, ae_, ad_, aj_, ac_, bc_]; rfl) (by simp only [go_sem, seval, ag_, ak_, ae_, ad_, aj_, ac_, bc_]) (fun h18 => ?_) (fun h18 => ?_)
   ·refine .rgn [] (by simp only [go_sem, seval, ag_, ak_, ae_, ad_, aj_, ac_, bc_, de_ (show (bn_ b u.2 w.length).toNat < w.length by have := hk h10; omega)]; rfl) ?_ ?_
    ·(first | trivial | (simp; done) | (have q1 := hk h10; have q2 := (hW h10).1; have q4 := hX (bn_ b u.2 w.length).toNat; and_intros <;> first | omega | (simp; done) | (simp; omega)))
    refine Exists.intro (()) ⟨?_, ?_⟩
    ·trivial
    refine Can.trans (Can.frz 17 (by simp only [go_sem, seval, ag_, ak_, ae_, ad_, aj_, ac_, bc_] <;> rfl) (by simp only [go_sem, seval, ag_, ak_, ae_, ad_, aj_, ac_, bc_]) (by simp only [go_sem, seval, ag_, ak_, ae_, ad_, aj_, ac_, bc_] <;> rfl) (by simp only [go_sem, seval, ag_, ak_, ae_, ad_, aj_, ac_, bc_] <;> rfl)) ?_
    exact Can.weak (Weak.lit (by simp only [go_sem, seval, ag_, ak_, ae_, ad_, aj_, ac_, bc_, as_, leV, ap_, ar_, V.inn, us, T9_, Ta_] <;> (rw [hD1 h10]; first | (refine bkJ (by simp) ?_; first | (rw [cg_, if_pos (by simpa using h18)]; done) | (rw [cg_, if_neg (by simpa using h18), if_pos (by simpa using h30)]; done) | (rw [cg_, if_neg (by simpa using h18), if_neg (by simpa using h30), if_pos (by simpa using h42)]; rfl)) | (have e : cg_ w (bn_ b u.2 w.length).toNat (bn_ b (u.2 + 1) 40) = [] := (by unfold cg_; rw [if_neg (by simpa using h18), if_neg (by simpa using h30), if_neg (by simpa using h42), if_pos (by simpa using h48)]); rw [e, if_pos (Nat.zero_le _)]; exact ⟨fun h => h, trivial⟩) | (rw [cg_, if_neg (by simpa using h18), if_neg (by simpa using h30), if_neg (by simpa using h42), if_neg (by simpa using h48), T1_ (by rw [ae_]; exact Nat.le_refl _)]; exact a9_ _))) (by simp only [go_sem, seval, ag_, ak_, ae_, ad_, aj_, ac_, bc_, as_, leV, ap_, ar_, V.inn, us, T9_, Ta_]) (by simp only [go_sem, seval, ag_, ak_, ae_, ad_, aj_, ac_, bc_, as_, leV, ap_, ar_, V.inn, us, T9_, Ta_] <;> (rw [hD1 h10])))
   ·refine .seq (.rgn [] (by simp only [go_sem, seval, ag_, ak_, ae_, ad_, aj_, ac_, bc_]; rfl) ?_ ?_)
    ·(first | trivial | (simp; done) | (have q1 := hk h10; have q2 := (hW h10).1; have q4 := hX (bn_ b u.2 w.length).toNat; and_intros <;> first | omega | (simp; done) | (simp; omega)))
    refine .condB (by simp only [go_sem, seval, ag_, ak_, ae_, ad_, aj_, ac_, bc_]; rfl) (by simp only [go_sem, seval, ag_, ak_, ae_, ad_, aj_, ac_, bc_]) (fun h30 => ?_) (fun h30 => ?_)
    ·refine .rgn [] (by simp only [go_sem, seval, ag_, ak_, ae_, ad_, aj_, ac_, bc_, de_ (show (bn_ b u.2 w.length).toNat < w.length by have := hk h10; omega)]; rfl) ?_ ?_
     ·(first | trivial | (simp; done) | (have q1 := hk h10; have q2 := (hW h10).1; have q4 := hX (bn_ b u.2 w.length).toNat; and_intros <;> first | omega | (simp; done) | (simp; omega)))
     refine Exists.intro (()) ⟨?_, ?_⟩
     ·trivial
     refine Can.trans (Can.frz 17 (by simp only [go_sem, seval, ag_, ak_, ae_, ad_, aj_, ac_, bc_] <;> rfl) (by simp only [go_sem, seval, ag_, ak_, ae_, ad_, aj_, ac_, bc_]) (by simp only [go_sem, seval, ag_, ak_, ae_, ad_, aj_, ac_, bc_] <;> rfl) (by simp only [go_sem, seval, ag_, ak_, ae_, ad_, aj_, ac_, bc_] <;> rfl)) ?_
     exact Can.weak (Weak.lit (by simp only [go_sem, seval, ag_, ak_, ae_, ad_, aj_, ac_, bc_, as_, leV, ap_, ar_, V.inn, us, T9_, Ta_] <;> (rw [hD1 h10]; first | (refine bkJ (by simp) ?_; first | (rw [cg_, if_pos (by simpa using h18)]; done) | (rw [cg_, if_neg (by simpa using h18), if_pos (by simpa using h30)]; done) | (rw [cg_, if_neg (by simpa using h18), if_neg (by simpa using h30), if_pos (by simpa using h42)]; rfl)) | (have e : cg_ w (bn_ b u.2 w.length).toNat (bn_ b (u.2 + 1) 40) = [] := (by unfold cg_; rw [if_neg (by simpa using h18), if_neg (by simpa using h30), if_neg (by simpa using h42), if_pos (by simpa using h48)]); rw [e, if_pos (Nat.zero_le _)]; exact ⟨fun h => h, trivial⟩) | (rw [cg_, if_neg (by simpa using h18), if_neg (by simpa using h30), if_neg (by simpa using h42), if_neg (by simpa using h48), T1_ (by rw [ae_]; exact Nat.le_refl _)]; exact a9_ _))) (by simp only [go_sem, seval, ag_, ak_, ae_, ad_, aj_, ac_, bc_, as_, leV, ap_, ar_, V.inn, us, T9_, Ta_]) (by simp only [go_sem, seval, ag_, ak_, ae_, ad_, aj_, ac_, bc_, as_, leV, ap_, ar_, V.inn, us, T9_, Ta_] <;> (rw [hD1 h10])))
    ·refine .seq (.rgn [] (by simp only [go_sem, seval, ag_, ak_, ae_, ad_, aj_, ac_, bc_]; rfl) ?_ ?_)
     ·(first | trivial | (simp; done) | (have q1 := hk h10; have q2 := (hW h10).1; have q4 := hX (bn_ b u.2 w.length).toNat; and_intros <;> first | omega | (simp; done) | (simp; omega)))
     refine .condB (by simp only [go_sem, seval, ag_, ak_, ae_, ad_, aj_, ac_, bc_]; rfl) (by simp only [go_sem, seval, ag_, ak_, ae_, ad_, aj_, ac_, bc_]) (fun h42 => ?_) (fun h42 => ?_)
     ·refine .rgn [] (by simp only [go_sem, seval, ag_, ak_, ae_, ad_, aj_, ac_, bc_, de_ (show (bn_ b u.2 w.length).toNat < w.length by have := hk h10; omega)]; rfl) ?_ ?_
      ·(first | trivial | (simp; done) | (have q1 := hk h10; have q2 := (hW h10).1; have q4 := hX (bn_ b u.2 w.length).toNat; and_intros <;> first | omega | (simp; done) | (simp; omega)))
      refine Exists.intro (()) ⟨?_, ?_⟩
      ·trivial
      refine Can.trans (Can.frz 17 (by simp only [go_sem, seval, ag_, ak_, ae_, ad_, aj_, ac_, bc_] <;> rfl) (by simp only [go_sem, seval, ag_, ak_, ae_, ad_, aj_, ac_, bc_]) (by simp only [go_sem, seval, ag_, ak_, ae_, ad_, aj_, ac_, bc_] <;> rfl) (by simp only [go_sem, seval, ag_, ak_, ae_, ad_, aj_, ac_, bc_] <;> rfl)) ?_
      exact Can.weak (Weak.lit (by simp only [go_sem, seval, ag_, ak_, ae_, ad_, aj_, ac_, bc_, as_, leV, ap_, ar_, V.inn, us, T9_, Ta_] <;> (rw [hD1 h10]; first | (refine bkJ (by simp) ?_; first | (rw [cg_, if_pos (by simpa using h18)]; done) | (rw [cg_, if_neg (by simpa using h18), if_pos (by simpa using h30)]; done) | (rw [cg_, if_neg (by simpa using h18), if_neg (by simpa using h30), if_pos (by simpa using h42)]; rfl)) | (have e : cg_ w (bn_ b u.2 w.length).toNat (bn_ b (u.2 + 1) 40) = [] := (by unfold cg_; rw [if_neg (by simpa using h18), if_neg (by simpa using h30), if_neg (by simpa using h42), if_pos (by simpa using h48)]); rw [e, if_pos (Nat.zero_le _)]; exact ⟨fun h => h, trivial⟩) | (rw [cg_, if_neg (by simpa using h18), if_neg (by simpa using h30), if_neg (by simpa using h42), if_neg (by simpa using h48), T1_ (by rw [ae_]; exact Nat.le_refl _)]; exact a9_ _))) (by simp only [go_sem, seval, ag_, ak_, ae_, ad_, aj_, ac_, bc_, as_, leV, ap_, ar_, V.inn, us, T9_, Ta_]) (by simp only [go_sem, seval, ag_, ak_, ae_, ad_, aj_, ac_, bc_, as_, leV, ap_, ar_, V.inn, us, T9_, Ta_] <;> (rw [hD1 h10])))
     ·refine .seq (.rgn [] (by simp only [go_sem, seval, ag_, ak_, ae_, ad_, aj_, ac_, bc_]; rfl) ?_ ?_)
      ·(first | trivial | (simp; done) | (have q1 := hk h10; have q2 := (hW h10).1; have q4 := hX (bn_ b u.2 w.length).toNat; and_intros <;> first | omega | (simp; done) | (simp; omega)))
      refine .condB (by simp only [go_sem, seval, ag_, ak_, ae_, ad_, aj_, ac_, bc_]; rfl) (by simp only [go_sem, seval, ag_, ak_, ae_, ad_, aj_, ac_, bc_]) (fun h48 => ?_) (fun h48 => ?_)
      ·refine .rgn [] (by simp only [go_sem, seval, ag_, ak_, ae_, ad_, aj_, ac_, bc_]; rfl) ?_ ?_
       ·(first | trivial | (simp; done) | (have q1 := hk h10; have q2 := (hW h10).1; have q4 := hX (bn_ b u.2 w.length).toNat; and_intros <;> first | omega | (simp; done) | (simp; omega)))
       refine Exists.intro (()) ⟨?_, ?_⟩
       ·trivial
       refine Can.trans (Can.frz 17 (by simp only [go_sem, seval, ag_, ak_, ae_, ad_, aj_, ac_, bc_] <;> rfl) (by simp only [go_sem, seval, ag_, ak_, ae_, ad_, aj_, ac_, bc_]) (by simp only [go_sem, seval, ag_, ak_, ae_, ad_, aj_, ac_, bc_] <;> rfl) (by simp only [go_sem, seval, ag_, ak_, ae_, ad_, aj_, ac_, bc_] <;> rfl)) ?_
       exact Can.weak (Weak.lit (by simp only [go_sem, seval, ag_, ak_, ae_, ad_, aj_, ac_, bc_, as_, leV, ap_, ar_, V.inn, us, T9_, Ta_] <;> (rw [hD1 h10]; first | (refine bkJ (by simp) ?_; first | (rw [cg_, if_pos (by simpa using h18)]; done) | (rw [cg_, if_neg (by simpa using h18), if_pos (by simpa using h30)]; done) | (rw [cg_, if_neg (by simpa using h18), if_neg (by simpa using h30), if_pos (by simpa using h42)]; rfl)) | (have e : cg_ w (bn_ b u.2 w.length).toNat (bn_ b (u.2 + 1) 40) = [] := (by unfold cg_; rw [if_neg (by simpa using h18), if_neg (by simpa using h30), if_neg (by simpa using h42), if_pos (by simpa using h48)]); rw [e, if_pos (Nat.zero_le _)]; exact ⟨fun h => h, trivial⟩) | (rw [cg_, if_neg (by simpa using h18), if_neg (by simpa using h30), if_neg (by simpa using h42), if_neg (by simpa using h48), T1_ (by rw [ae_]; exact Nat.le_refl _)]; exact a9_ _))) (by simp only [go_sem, seval, ag_, ak_, ae_, ad_, aj_, ac_, bc_, as_, leV, ap_, ar_, V.inn, us, T9_, Ta_]) (by simp only [go_sem, seval, ag_, ak_, ae_, ad_, aj_, ac_, bc_, as_, leV, ap_, ar_, V.inn, us, T9_, Ta_] <;> (rw [hD1 h10])))
      ·refine .skip ?_
       refine Exists.intro (()) ⟨?_, ?_⟩
       ·trivial
       refine Can.trans (Can.frz 17 (by simp only [go_sem, seval, ag_, ak_, ae_, ad_, aj_, ac_, bc_] <;> rfl) (by simp only [go_sem, seval, ag_, ak_, ae_, ad_, aj_, ac_, bc_]) (by simp only [go_sem, seval, ag_, ak_, ae_, ad_, aj_, ac_, bc_] <;> rfl) (by simp only [go_sem, seval, ag_, ak_, ae_, ad_, aj_, ac_, bc_] <;> rfl)) ?_
       exact Can.weak (Weak.lit (by simp only [go_sem, seval, ag_, ak_, ae_, ad_, aj_, ac_, bc_, as_, leV, ap_, ar_, V.inn, us, T9_, Ta_] <;> (rw [hD1 h10]; first | (refine bkJ (by simp) ?_; first | (rw [cg_, if_pos (by simpa using h18)]; done) | (rw [cg_, if_neg (by simpa using h18), if_pos (by simpa using h30)]; done) | (rw [cg_, if_neg (by simpa using h18), if_neg (by simpa using h30), if_pos (by simpa using h42)]; rfl)) | (have e : cg_ w (bn_ b u.2 w.length).toNat (bn_ b (u.2 + 1) 40) = [] := (by unfold cg_; rw [if_neg (by simpa using h18), if_neg (by simpa using h30), if_neg (by simpa using h42), if_pos (by simpa using h48)]); rw [e, if_pos (Nat.zero_le _)]; exact ⟨fun h => h, trivial⟩) | (rw [cg_, if_neg (by simpa using h18), if_neg (by simpa using h30), if_neg (by simpa using h42), if_neg (by simpa using h48), T1_ (by rw [ae_]; exact Nat.le_refl _)]; exact a9_ _))) (by simp only [go_sem, seval, ag_, ak_, ae_, ad_, aj_, ac_, bc_, as_, leV, ap_, ar_, V.inn, us, T9_, Ta_]) (by simp only [go_sem, seval, ag_, ak_, ae_, ad_, aj_, ac_, bc_, as_, leV, ap_, ar_, V.inn, us, T9_, Ta_] <;> (rw [hD1 h10])))
  refine .seq (.rgn [] (by simp only [go_sem, seval, ag_, ak_, ae_, ad_, aj_, ac_, bc_]; rfl) ?_ ?_)
  ·(first | trivial | (simp; done) | (have q1 := hk h10; have q2 := (hW h10).1; have q4 := hX (bn_ b u.2 w.length).toNat; and_intros <;> first | omega | (simp; done) | (simp; omega)))
  refine .ret ⟨.inr rfl, ?_⟩
  exact Out.mem' (by simp only [Tryz.results61]; rfl) (by simp only [ay_, a6_, go_sem, seval, ag_, ak_, ae_, ad_, aj_, ac_, bc_]) (by simp only [a5_, rns, rn, go_sem, seval, ag_, ak_, ae_, ad_, aj_, ac_, bc_] <;> ((try rfl))) (by simp) rfl (by decide) (by simp only [go_sem, seval, ag_, ak_, ae_, ad_, aj_, ac_, bc_]) (by simp only [ak_, go_sem, seval, ag_, ak_, ae_, ad_, aj_, ac_, bc_]) (by simp only [ag_, go_sem, seval, ag_, ak_, ae_, ad_, aj_, ac_, bc_] <;> ((try rfl)))
theorem qu_ (c : Str) : ACall En 32 [.sl false (byR c)] [] [.sl false (pgR (dBk (c.take 2000) 0).1)] [] := by
 have hb : (c.take 2000).length ≤ 2000 := by simp; omega
 have hO := rg_ c
 generalize hc : c.take 2000 = b at *
 have L := rz_ b 0 hb (by decide) (by decide)
 refine al_ (fn := Tryz.f32) [] Tryz.func32 rfl rfl (by simp) fun C => ?_
 rw [aw_]
 simp only [Tryz.ntmps32, T7_, List.length_nil, Nat.reduceAdd, Nat.reduceSub, List.replicate_succ, List.replicate_zero, List.cons_append, List.nil_append, bo_]
 refine .seq (.rgn [] (by simp only [go_sem, seval, ag_, ak_, ad_]; rfl) ?_ ?_)
 ·first | trivial | simp
 refine .seq (.rgn [bs_ [] [14] hO, bs_ [14] [] L] (by simp only [go_sem, seval, ag_, ak_, ad_]; rfl) ?_ ?_)
 ·first | trivial | simp
 refine .ret ⟨.inr rfl, ?_⟩
 exact Out.plain (by simp only [Tryz.results32]; rfl) (by simp only [ay_, a6_, go_sem, seval, ag_, ak_, ad_] <;> (split <;> rfl)) (by simp only [a5_, go_sem, seval, ag_, ak_, ad_] <;> (simp_all)) (by simp only [go_sem, seval, ag_, ak_, ad_])
def np_ (b : Str) : Int := bn_ b (dBk b 0).2 ((dBk b 0).1.length + 3) - 1
def adz_ : Str := [115, 97, 121, 32, 49, 10, 115, 97, 121, 32, 50]
def ale_ (b : Str) : Str := if bn_ b ((dBk b 0).2 + 1) 20 = 0 then adz_ else (dTo b ((dBk b 0).2 + 1 + 1)).1
theorem alh_ (b : Str) {p : Int} (hp : 0 ≤ p) (hp2 : p < 100000) : p ≤ (dBk b p).2 ∧ (dBk b p).2 ≤ p + 10000 := by
 obtain ⟨t1, t2, _⟩ := sx_ b hp hp2
 have : (dTx b p).2 = (k3_ b p).2 := rfl
 unfold dBk
 split <;> (dsimp only; omega)
theorem aa1_ (b : Str) : -1 ≤ np_ b ∧ np_ b ≤ 20 := by
 have h := alh_ b (p := 0) (by decide) (by decide)
 have h2 := oh_ b 0
 have := d1_ b (p := (dBk b 0).2) (n := ((dBk b 0).1.length : Int) + 3) (by omega) (by omega) (by omega)
 unfold np_; omega
theorem q0_ (c : Str) : ACall En 25 [.sl false (byR c)] [] [.sl false (pgR (dBk (c.take 2000) 0).1), .i .i64 (np_ (c.take 2000)), .s (ale_ (c.take 2000))] [] := by
 have hb : (c.take 2000).length ≤ 2000 := by simp; omega
 have hO := rg_ c
 generalize hc : c.take 2000 = b at *
 have h := alh_ b (p := 0) (by decide) (by decide)
 have hA : np_ b = bn_ b (dBk b 0).2 ((dBk b 0).1.length + 3) - 1 := rfl
 have hAp := aa1_ b
 have hL : ale_ b = if bn_ b ((dBk b 0).2 + 1) 20 = 0 then adz_ else (dTo b ((dBk b 0).2 + 1 + 1)).1 := rfl
 have hn := oh_ b 0
 have L := rz_ b 0 hb (by decide) (by decide)
 generalize dBk b 0 = u at *
 have hw : IntKind.i64.wrap ((u.1.length : Int) + 3) = (u.1.length : Int) + 3 := by rw [bd_ (by omega) (by omega)]
 have hw2 : IntKind.i64.wrap (bn_ b u.2 ((u.1.length : Int) + 3) - 1) = np_ b := by rw [hA, bd_ (by omega) (by omega)]
 have T := rf_ b (u.2 + 1 + 1) hb (by omega) (by omega)
 refine al_ (fn := Tryz.f25) [] Tryz.func25 rfl rfl (by simp) fun C => ?_
 rw [aw_]
 simp only [Tryz.ntmps25, T7_, List.length_nil, Nat.reduceAdd, Nat.reduceSub, List.replicate_succ, List.replicate_zero, List.cons_append, List.nil_append, bo_]
 refine .seq (.rgn [] (by simp only [go_sem, seval, ag_, ak_, ad_, ae_, hw, hw2]; rfl) ?_ ?_)
 ·first | trivial | simp
 refine .seq (.rgn [bs_ [] [19] hO] (by simp only [go_sem, seval, ag_, ak_, ad_, ae_, hw, hw2]; rfl) ?_ ?_)
 ·first | trivial | simp
 refine .seq (.rgn [bs_ [19] [] L] (by simp only [go_sem, seval, ag_, ak_, ad_, ae_, hw, hw2]; rfl) ?_ ?_)
 ·first | trivial | simp
 refine .seq (.rgn [bs_ [19] [] (dr_ b u.2 (u.1.length + 3) hb (by omega) (by omega))] (by simp only [go_sem, seval, ag_, ak_, ad_, ae_, hw, hw2]; rfl) ?_ ?_)
 ·first | trivial | simp
 refine .seq (.seq (.rgn [bs_ [19] [] (dr_ b (u.2 + 1) 20 hb (by omega) (by omega))] (by simp only [go_sem, seval, ag_, ak_, ad_, ae_, hw, hw2]; rfl) ?_ ?_))
 ·first | trivial | simp
 refine .condB (by simp only [go_sem, seval, ag_, ak_, ad_, ae_, hw, hw2]; rfl) (by simp only [go_sem, seval, ag_, ak_, ad_, ae_, hw, hw2]) (fun h20 => ?_) (fun h20 => ?_)
 ·refine .seq (.rgn [] (by simp only [go_sem, seval, ag_, ak_, ad_, ae_, hw, hw2]; rfl) ?_ ?_)
  ·first | trivial | simp
  refine .ret ⟨.inr rfl, ?_⟩
  exact Out.plain (by simp only [Tryz.results25]; rfl) (by simp only [ay_, a6_, go_sem, seval, ag_, ak_, ad_, ae_, hw, hw2] <;> (split <;> rfl)) (by simp only [a5_, go_sem, seval, ag_, ak_, ad_, ae_, hw, hw2] <;> (rw [hL, if_pos (by simpa using h20)]; rfl)) (by simp only [go_sem, seval, ag_, ak_, ad_, ae_, hw, hw2])
 ·refine .skip (.seq (.rgn [bs_ [19] [] T] (by simp only [go_sem, seval, ag_, ak_, ad_, ae_, hw, hw2]; rfl) ?_ ?_))
  ·first | trivial | simp
  refine .ret ⟨.inr rfl, ?_⟩
  exact Out.plain (by simp only [Tryz.results25]; rfl) (by simp only [ay_, a6_, go_sem, seval, ag_, ak_, ad_, ae_, hw, hw2] <;> (split <;> rfl)) (by simp only [a5_, go_sem, seval, ag_, ak_, ad_, ae_, hw, hw2] <;> (rw [hL, if_neg (by simpa using h20)])) (by simp only [go_sem, seval, ag_, ak_, ad_, ae_, hw, hw2])
theorem q1_ (c : Str) : ACall En 35 [.sl false (byR c)] [] [.sl false (pgR (dBk (c.take 2000) 0).1), .i .i64 (np_ (c.take 2000))] [] := by
 refine al_ (fn := Tryz.f35) [] Tryz.func35 rfl rfl (by simp) fun C => ?_
 rw [aw_]
 simp only [Tryz.ntmps35, T7_, List.length_nil, Nat.reduceAdd, Nat.reduceSub, List.replicate_succ, List.replicate_zero, List.cons_append, List.nil_append, bo_]
 refine .seq (.rgn [] (by simp only [go_sem, seval, ad_]; rfl) ?_ ?_)
 ·first | trivial | simp
 refine .seq (.rgn [a4_ (q0_ c)] (by simp only [go_sem, seval, ad_]; rfl) ?_ ?_)
 ·first | trivial | simp
 refine .seq (.rgn [] (by simp only [go_sem, seval, ad_]; rfl) ?_ ?_)
 ·first | trivial | simp
 refine .ret ⟨.inr rfl, ?_⟩
 exact Out.plain (by simp only [Tryz.results35]; rfl) (by simp only [ay_, a6_, go_sem, seval, ad_] <;> (split <;> rfl)) (by simp only [a5_, go_sem, seval, ad_] <;> (simp_all)) (by simp only [go_sem, seval, ad_])
end
end Go.Proofs.YtpikbndepapbhaaGreatDoor
