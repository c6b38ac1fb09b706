/- Books, drawn. Conditions: none. -/
import Derived.Test.YtpikbndepapbhaaGreatDoorK13
import Derived.Test.YtpikbndepapbhaaGreatDoorK12
set_option linter.unusedVariables false
set_option linter.unusedSimpArgs false
namespace Go.Proofs.YtpikbndepapbhaaGreatDoor
section
set_option maxRecDepth 100000
set_option maxHeartbeats 4000000
theorem aea_ {b : Str} {n : Nat} {p : Int} {l : List Str} (h : 0 < n) : d8_ b (n - 1) (dTo b p).2 (l ++ [(dTo b p).1]) = d8_ b n p l := by
 obtain ⟨m, rfl⟩ : ∃ m, n = m + 1 := ⟨n - 1, by omega⟩
 rfl
theorem ad2_ {b : Str} {n : Nat} {p : Int} {l : List Str} (h : 0 < n) (h2 : (l.length : Int) < 16 + bx_ b p 2) : gm_ b (n - 1) (p + 1) (l ++ [s8_]) = gm_ b n p l := by
 obtain ⟨m, rfl⟩ : ∃ m, n = m + 1 := ⟨n - 1, by omega⟩
 show _ = gm_ b (m + 1) p l
 rw [gm_, if_pos h2]; rfl
theorem jh_ {b : Str} {n : Nat} {p : Int} {l : List Str} (h : 0 < n) (h2 : ¬ (l.length : Int) < 16 + bx_ b p 2) : gm_ b n p l = (l, p + 1) := by
 obtain ⟨m, rfl⟩ : ∃ m, n = m + 1 := ⟨n - 1, by omega⟩
 rw [gm_, if_neg h2]
theorem uq_ (l : List Str) (s : Str) : bo_ (l ++ [s]) = bo_ l ++ [[.s s]] := by simp [bo_]
theorem n2_ (l : List Str) : ler ((bo_ l).take l.length) (bo_ l) := by rw [T1_ (by rw [ab_]; exact Nat.le_refl _)]; exact be_ _
theorem aac_ (b : Str) (p : Int) (hb : b.length ≤ 2000) (hp : 0 ≤ p) (hp2 : p < 100000) : ACall En 40 [.pt 0 2 0 0] [rdB b p] [.s (dTx b p).1] [rdB b (dTx b p).2] := by
 have h6 := ej_ b (p := p) (n := 6) hp (by omega) (by decide)
 obtain ⟨d1, d2, d3, d4⟩ := sm_ b (1 + (bx_ b p 6).toNat) (p + 1) [] (by omega) (by omega) (fun w hw => by cases hw)
 obtain ⟨t1, t2, t3, t4⟩ := aej_ b hp hp2
 have hT : dTx b p = (cj_ (mn_ b p).1, (mn_ b p).2) := rfl
 have hL : mn_ b p = if bx_ b (d8_ b (1 + (bx_ b p 6).toNat) (p + 1) []).2 30 = 0 then gm_ b 20 ((d8_ b (1 + (bx_ b p 6).toNat) (p + 1) []).2 + 1) (d8_ b (1 + (bx_ b p 6).toNat) (p + 1) []).1 else ((d8_ b (1 + (bx_ b p 6).toNat) (p + 1) []).1, (d8_ b (1 + (bx_ b p 6).toNat) (p + 1) []).2 + 1) := rfl
 have hJ0 := yn_ (l := (mn_ b p).1) (k := 300) t3
 have hJ1 := Nat.mul_le_mul_right 301 t4
 simp only [List.length_nil] at d4
 generalize hD : d8_ b (1 + (bx_ b p 6).toNat) (p + 1) [] = D at *
 generalize hR : mn_ b p = R at *
 have hz : ∀ q : Nat × Int × List Str, d8_ b q.1 q.2.1 q.2.2 = D → decide ((q.1 : Int) > 0) = false → (q.2.2, q.2.1) = D := fun q e h => by
  rw [show q.1 = 0 by simpa using h] at e; exact e
 have hw2 : ∀ p : Int, 0 ≤ p ∧ p < 1000000 → IntKind.i64.wrap (16 + bx_ b p 2) = 16 + bx_ b p 2 ∧ bx_ b p 2 < 2 := fun p h => by
  have := ej_ b (p := p) (n := 2) h.1 (by omega) (by decide)
  exact ⟨by rw [bh_ (by omega) (by omega)], this.2⟩
 refine aj_ (fn := Tryz.f40) [0] Tryz.func40 rfl rfl (by simp) fun C => ?_
 rw [a0_]
 simp only [Tryz.ntmps40, T7_, List.length_nil, Nat.reduceAdd, Nat.reduceSub, List.replicate_succ, List.replicate_zero, List.cons_append, List.nil_append, bq_]
 refine .seq (.rgn [] (by simp only [go_sem, seval, ah_, ap_, ab_, aa_]; rfl) ?_ ?_)
 ·(first | trivial | (simp; done) | (obtain ⟨e, i1, i2, i3, i4⟩ := hI; and_intros <;> first | omega | (simp; done) | (simp; omega)))
 refine .seq (.rgn [] (by simp only [go_sem, seval, ah_, ap_, ab_, aa_]; rfl) ?_ ?_)
 ·(first | trivial | (simp; done) | (obtain ⟨e, i1, i2, i3, i4⟩ := hI; and_intros <;> first | omega | (simp; done) | (simp; omega)))
 refine .seq (.seq (.rgn [bu_ [0] [] (d5_ b p 6 hb hp (by omega))] (by simp only [go_sem, seval, ah_, ap_, ab_, aa_]; rfl) ?_ ?_))
 ·(first | trivial | (simp; done) | (obtain ⟨e, i1, i2, i3, i4⟩ := hI; and_intros <;> first | omega | (simp; done) | (simp; omega)))
 refine .block (.loopK (fun q : Nat × Int × List Str => ⟨[.pt 0 2 0 0, .no, .no, .ow 60 1 0 q.2.2.length, .i .i64 q.1, .no, .no, .no, .no, .no, .no, .no, .no, .no, .no, .no, .no, .no, .no, .no, .no, .no, .no, .no, .no, .no, .no, .no, .no, .no, .no, .no], bg_ [(0, rdB b q.2.1), (60, ⟨9, 1, bo_ q.2.2⟩)], us [60]⟩) (fun q : Nat × Int × List Str => d8_ b q.1 q.2.1 q.2.2 = D ∧ 0 ≤ q.2.1 ∧ q.2.1 + 1000 * q.1 < 1000000 ∧ wL q.2.2 ∧ q.2.2.length + q.1 ≤ 6) (fun q : Nat × Int × List Str => q.1) ((1 + (bx_ b p 6).toNat, p + 1, [])) ?_ ?_ (fun q hI => ?_))
 ·exact ⟨hD, by dsimp only; omega, by dsimp only; omega, (fun w hw => by cases hw), by dsimp only; simp only [List.length_nil]; omega⟩
 ·refine Can.trans (Can.ownSlot 3 60 9 1 (by simp only [go_sem, seval, ah_, ap_, ab_, aa_] <;> rfl) (by simp only [go_sem, seval, ah_, ap_, ab_, aa_]) (by simp only [go_sem, seval, ah_, ap_, ab_, aa_] <;> rfl)) ?_
  exact Can.weak (Weak.lit (by simp only [go_sem, seval, ah_, ap_, ab_, aa_, av_, leV, at_, au_, V.inn, us, T9_, Ta_] <;> (rw [bh_ (by omega) (by omega)]; omega)) (by simp only [go_sem, seval, ah_, ap_, ab_, aa_, av_, leV, at_, au_, V.inn, us, T9_, Ta_]) (by simp only [go_sem, seval, ah_, ap_, ab_, aa_, av_, leV, at_, au_, V.inn, us, T9_, Ta_] <;> (rfl)))
 refine .seq (.seq (.rgn [] (by simp only [go_sem, seval, ah_, ap_, ab_, aa_]; rfl) ?_ ?_))
 ·(first | trivial | (simp; done) | (obtain ⟨e, i1, i2, i3, i4⟩ := hI; and_intros <;> first | omega | (simp; done) | (simp; omega)))
 refine .condB (by simp only [go_sem, seval, ah_, ap_, ab_, aa_]; rfl) (by simp only [go_sem, seval, ah_, ap_, ab_, aa_]) (fun h10 => ?_) (fun h10 => ?_)
 ·refine .skip (.seq (.block (.rgn [xs_ [0] [] (0 ≤ q.2.1 ∧ q.2.1 < 5000000) (fun h => aa9_ b q.2.1 hb h.1 h.2)] (by simp only [go_sem, seval, ah_, ap_, ab_, aa_]; rfl) ?_ ?_)))
  ·(first | trivial | (simp; done) | (obtain ⟨e, i1, i2, i3, i4⟩ := hI; and_intros <;> first | omega | (simp; done) | (simp; omega)))
  refine .rgn [] (by simp only [go_sem, seval, ah_, ap_, ab_, aa_]; rfl) ?_ ?_
  ·(first | trivial | (simp; done) | (obtain ⟨e, i1, i2, i3, i4⟩ := hI; and_intros <;> first | omega | (simp; done) | (simp; omega)))
  refine Exists.intro ((q.1 - 1, (dTo b q.2.1).2, q.2.2 ++ [(dTo b q.2.1).1])) ⟨?_, ?_, ?_⟩
  ·have h0 : 0 < q.1 := (by simpa using h10); obtain ⟨e, i1, i2, i3, i4⟩ := hI; obtain ⟨t1, t2, t3⟩ := ai9_ b i1 (by omega); exact ⟨by rw [← e]; exact aea_ h0, by dsimp only; omega, by dsimp only; omega, r4_ i3 t3, by dsimp only; rw [T2_, List.length_singleton]; omega⟩
  ·simp at h10; simp; omega
  refine Can.trans (Can.swap 27 60 (by decide) (by decide) (by decide) (by decide) (by simp only [go_sem, seval, ah_, ap_, ab_, aa_, V.cl]) (by simp only [go_sem, seval, ah_, ap_, ab_, aa_, V.cl]) (by simp only [go_sem, seval, ah_, ap_, ab_, aa_, bl_, sw, swM, rnB] <;> rfl) (by simp only [go_sem, seval, ah_, ap_, ab_, aa_, bl_, sw, swM, rnB] <;> rfl) (by simp only [go_sem, seval, ah_, ap_, ab_, aa_, bl_, sw, swM, rnB] <;> rfl)) ?_
  exact Can.weak (Weak.lit (by simp only [go_sem, seval, ah_, ap_, ab_, aa_, av_, leV, at_, au_, V.inn, us, T9_, Ta_] <;> (have h0 : 0 < q.1 := (by simpa using h10); obtain ⟨e, i1, i2, i3, i4⟩ := hI; exact ⟨by simp, by rw [bh_ (by omega) (by omega)]; omega⟩)) (by simp only [go_sem, seval, ah_, ap_, ab_, aa_, av_, leV, at_, au_, V.inn, us, T9_, Ta_]) (by simp only [go_sem, seval, ah_, ap_, ab_, aa_, av_, leV, at_, au_, V.inn, us, T9_, Ta_] <;> (rw [uq_])))
 ·refine .exit (.seqJ (fun u : Unit => ⟨[.no, .no, .no, .sl false (bo_ R.1), .no, .no, .no, .no, .no, .no, .no, .no, .no, .no, .no, .no, .no, .no, .no, .no, .no, .no, .no, .no, .no, .no, .no, .no, .no, .no, .no, .no], bg_ [(0, rdB b R.2)], us []⟩) (fun u : Unit => True) ?_ (fun u hJ => ?_))
  ·refine .seq (.rgn [bu_ [0] [] (d5_ b D.2 30 hb (by omega) (by omega))] (by simp only [go_sem, seval, ah_, ap_, ab_, aa_]; rfl) ?_ ?_)
   ·have e := hz q hI.1 h10; exact ⟨by rw [← e], by simp⟩
   refine .condB (by simp only [go_sem, seval, ah_, ap_, ab_, aa_]; rfl) (by simp only [go_sem, seval, ah_, ap_, ab_, aa_]) (fun h20 => ?_) (fun h20 => ?_)
   ·refine .block (.loopK (fun r : Nat × Int × List Str => ⟨[.pt 0 2 0 0, .no, .no, .ow 60 1 0 r.2.2.length, .no, .no, .no, .no, .no, .no, .no, .no, .no, .no, .no, .no, .no, .no, .no, .no, .no, .no, .no, .no, .no, .no, .no, .no, .no, .no, .no, .no], bg_ [(0, rdB b r.2.1), (60, ⟨9, 1, bo_ r.2.2⟩)], us [60]⟩) (fun r : Nat × Int × List Str => gm_ b r.1 r.2.1 r.2.2 = R ∧ 0 ≤ r.2.1 ∧ r.2.1 + r.1 < 1000000 ∧ 21 ≤ r.1 + r.2.2.length ∧ r.2.2.length ≤ 17) (fun r : Nat × Int × List Str => r.1) ((20, D.2 + 1, D.1)) ?_ ?_ (fun r hI => ?_))
    ·exact ⟨by rw [hL, if_pos (by simpa using h20)], by dsimp only; omega, by dsimp only; omega, by dsimp only; omega, by dsimp only; omega⟩
    ·exact Can.weak (Weak.lit (by simp only [go_sem, seval, ah_, ap_, ab_, aa_, av_, leV, at_, au_, V.inn, us, T9_, Ta_] <;> (have e := hz q hI.1 h10; rw [← e])) (by simp only [go_sem, seval, ah_, ap_, ab_, aa_, av_, leV, at_, au_, V.inn, us, T9_, Ta_]) (by simp only [go_sem, seval, ah_, ap_, ab_, aa_, av_, leV, at_, au_, V.inn, us, T9_, Ta_] <;> (have e := hz q hI.1 h10; rw [← e])))
    refine .seq (.seq (.rgn [xs_ [0] [] (0 ≤ r.2.1 ∧ r.2.1 < 5000000) (fun h => d5_ b r.2.1 2 hb h.1 (by omega))] (by simp only [go_sem, seval, ah_, ap_, ab_, aa_]; rfl) ?_ ?_))
    ·(first | trivial | (simp; done) | (obtain ⟨e, i1, i2, i3, i4⟩ := hI; and_intros <;> first | omega | (simp; done) | (simp; omega)))
    refine .condB (by simp only [go_sem, seval, ah_, ap_, ab_, aa_]; rfl) (by simp only [go_sem, seval, ah_, ap_, ab_, aa_]) (fun h26 => ?_) (fun h26 => ?_)
    ·refine .skip (.block (.rgn [] (by simp only [go_sem, seval, ah_, ap_, ab_, aa_]; rfl) ?_ ?_))
     ·(first | trivial | (simp; done) | (obtain ⟨e, i1, i2, i3, i4⟩ := hI; and_intros <;> first | omega | (simp; done) | (simp; omega)))
     refine Exists.intro ((r.1 - 1, r.2.1 + 1, r.2.2 ++ [s8_])) ⟨?_, ?_, ?_⟩
     ·obtain ⟨e, i1, i2, i3, i4⟩ := hI; obtain ⟨w1, w2⟩ := hw2 r.2.1 ⟨i1, by omega⟩; rw [w1] at h26; simp only [T3_] at h26; exact ⟨by rw [← e]; exact ad2_ (by omega) h26, by dsimp only; omega, by dsimp only; omega, by dsimp only; rw [T2_, List.length_singleton]; omega, by dsimp only; rw [T2_, List.length_singleton]; omega⟩
     ·obtain ⟨e, i1, i2, i3, i4⟩ := hI; dsimp only; omega
     refine Can.trans (Can.swap 39 60 (by decide) (by decide) (by decide) (by decide) (by simp only [go_sem, seval, ah_, ap_, ab_, aa_, V.cl]) (by simp only [go_sem, seval, ah_, ap_, ab_, aa_, V.cl]) (by simp only [go_sem, seval, ah_, ap_, ab_, aa_, bl_, sw, swM, rnB] <;> rfl) (by simp only [go_sem, seval, ah_, ap_, ab_, aa_, bl_, sw, swM, rnB] <;> rfl) (by simp only [go_sem, seval, ah_, ap_, ab_, aa_, bl_, sw, swM, rnB] <;> rfl)) ?_
     exact Can.weak (Weak.lit (by simp only [go_sem, seval, ah_, ap_, ab_, aa_, av_, leV, at_, au_, V.inn, us, T9_, Ta_] <;> ((try simp))) (by simp only [go_sem, seval, ah_, ap_, ab_, aa_, av_, leV, at_, au_, V.inn, us, T9_, Ta_]) (by simp only [go_sem, seval, ah_, ap_, ab_, aa_, av_, leV, at_, au_, V.inn, us, T9_, Ta_] <;> (rw [uq_]; first | done | rfl)))
    ·refine .exit ?_
     refine Exists.intro (()) ⟨?_, ?_⟩
     ·trivial
     refine Can.trans (Can.frz 60 (by simp only [go_sem, seval, ah_, ap_, ab_, aa_] <;> rfl) (by simp only [go_sem, seval, ah_, ap_, ab_, aa_]) (by simp only [go_sem, seval, ah_, ap_, ab_, aa_] <;> rfl) (by simp only [go_sem, seval, ah_, ap_, ab_, aa_] <;> rfl)) ?_
     exact Can.weak (Weak.lit (by simp only [go_sem, seval, ah_, ap_, ab_, aa_, av_, leV, at_, au_, V.inn, us, T9_, Ta_] <;> (first | (obtain ⟨e, i1, i2, i3, i4⟩ := hI; obtain ⟨w1, w2⟩ := hw2 r.2.1 ⟨i1, by omega⟩; rw [w1] at h26; simp only [T4_] at h26; rw [jh_ (by omega) h26] at e; rw [← e]; exact n2_ _) | (have e := hz q hI.1 h10; rw [hL, if_neg (by simpa using h20), ← e]; exact n2_ _))) (by simp only [go_sem, seval, ah_, ap_, ab_, aa_, av_, leV, at_, au_, V.inn, us, T9_, Ta_]) (by simp only [go_sem, seval, ah_, ap_, ab_, aa_, av_, leV, at_, au_, V.inn, us, T9_, Ta_] <;> (first | (obtain ⟨e, i1, i2, i3, i4⟩ := hI; obtain ⟨w1, w2⟩ := hw2 r.2.1 ⟨i1, by omega⟩; rw [w1] at h26; simp only [T4_] at h26; rw [jh_ (by omega) h26] at e; rw [← e]; first | done | rfl) | (rw [hL, if_neg (by simpa using h20)]; first | done | rfl))))
   ·refine .skip ?_
    refine Exists.intro (()) ⟨?_, ?_⟩
    ·trivial
    refine Can.trans (Can.frz 60 (by simp only [go_sem, seval, ah_, ap_, ab_, aa_] <;> rfl) (by simp only [go_sem, seval, ah_, ap_, ab_, aa_]) (by simp only [go_sem, seval, ah_, ap_, ab_, aa_] <;> rfl) (by simp only [go_sem, seval, ah_, ap_, ab_, aa_] <;> rfl)) ?_
    exact Can.weak (Weak.lit (by simp only [go_sem, seval, ah_, ap_, ab_, aa_, av_, leV, at_, au_, V.inn, us, T9_, Ta_] <;> (first | (obtain ⟨e, i1, i2, i3, i4⟩ := hI; obtain ⟨w1, w2⟩ := hw2 r.2.1 ⟨i1, by omega⟩; rw [w1] at h26; simp only [T4_] at h26; rw [jh_ (by omega) h26] at e; rw [← e]; exact n2_ _) | (have e := hz q hI.1 h10; rw [hL, if_neg (by simpa using h20), ← e]; exact n2_ _))) (by simp only [go_sem, seval, ah_, ap_, ab_, aa_, av_, leV, at_, au_, V.inn, us, T9_, Ta_]) (by simp only [go_sem, seval, ah_, ap_, ab_, aa_, av_, leV, at_, au_, V.inn, us, T9_, Ta_] <;> (first | (obtain ⟨e, i1, i2, i3, i4⟩ := hI; obtain ⟨w1, w2⟩ := hw2 r.2.1 ⟨i1, by omega⟩; rw [w1] at h26; simp only [T4_] at h26; rw [jh_ (by omega) h26] at e; rw [← e]; first | done | rfl) | (rw [hL, if_neg (by simpa using h20)]; first | done | rfl))))
  refine .seq (.rgn [a5_ (wa_ R.1 (by omega) (by omega))] (by simp only [go_sem, seval, ah_, ap_, ab_, aa_]; rfl) ?_ ?_)
  ·(first | trivial | (simp; done) | (obtain ⟨e, i1, i2, i3, i4⟩ := hI; and_intros <;> first | omega | (simp; done) | (simp; omega)))
  refine .ret ⟨.inr rfl, ?_⟩
  exact Out.mem' (by simp only [Tryz.results40]; rfl) (by simp only [a1_, a9_, go_sem, seval, ah_, ap_, ab_, aa_]) (by simp only [a8_, rns, rn, go_sem, seval, ah_, ap_, ab_, aa_] <;> (rw [hT])) (by simp) rfl (by decide) (by simp only [go_sem, seval, ah_, ap_, ab_, aa_]) (by simp only [ap_, go_sem, seval, ah_, ap_, ab_, aa_]) (by simp only [ah_, go_sem, seval, ah_, ap_, ab_, aa_] <;> (rw [hT]))
theorem se_ (c : Str) : ACall En 12 [.sl false (byR c)] [] [.s (dTx (c.take 2000) 0).1] [] := by
 have hb : (c.take 2000).length ≤ 2000 := by simp; omega
 have hO := z8_ c
 generalize hc : c.take 2000 = b at *
 have L := aac_ b 0 hb (by decide) (by decide)
 refine aj_ (fn := Tryz.f12) [] Tryz.func12 rfl rfl (by simp) fun C => ?_
 rw [a0_]
 simp only [Tryz.ntmps12, T7_, List.length_nil, Nat.reduceAdd, Nat.reduceSub, List.replicate_succ, List.replicate_zero, List.cons_append, List.nil_append, bq_]
 refine .seq (.rgn [] (by simp only [go_sem, seval, ah_, ap_]; rfl) ?_ ?_)
 ·first | trivial | simp
 refine .seq (.rgn [bu_ [] [14] hO, bu_ [14] [] L] (by simp only [go_sem, seval, ah_, ap_]; rfl) ?_ ?_)
 ·first | trivial | simp
 refine .ret ⟨.inr rfl, ?_⟩
 exact Out.plain (by simp only [Tryz.results12]; rfl) (by simp only [a1_, a9_, go_sem, seval, ah_, ap_] <;> (split <;> rfl)) (by simp only [a8_, go_sem, seval, ah_, ap_] <;> (simp_all)) (by simp only [go_sem, seval, ah_, ap_])
end
end Go.Proofs.YtpikbndepapbhaaGreatDoor
