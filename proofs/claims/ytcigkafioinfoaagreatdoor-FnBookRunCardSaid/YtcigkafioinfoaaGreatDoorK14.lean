/- Books, drawn. Conditions: none. -/
import Derived.Test.YtcigkafioinfoaaGreatDoorK13
import Derived.Test.YtcigkafioinfoaaGreatDoorK12
set_option linter.unusedVariables false
set_option linter.unusedSimpArgs false
namespace Go.Proofs.YtcigkafioinfoaaGreatDoor
section
set_option maxRecDepth 100000
set_option maxHeartbeats 4000000
theorem adj_ {b : Str} {n : Nat} {p : Int} {l : List Str} (h : 0 < n) : eg_ b (n - 1) (dTo b p).2 (l ++ [(dTo b p).1]) = eg_ b n p l := by
 obtain ⟨m, rfl⟩ : ∃ m, n = m + 1 := ⟨n - 1, by omega⟩
 rfl
theorem agl_ {b : Str} {n : Nat} {p : Int} {l : List Str} (h : 0 < n) (h2 : (l.length : Int) < 16 + br_ b p 2) : go_ b (n - 1) (p + 1) (l ++ [uf_]) = go_ b n p l := by
 obtain ⟨m, rfl⟩ : ∃ m, n = m + 1 := ⟨n - 1, by omega⟩
 show _ = go_ b (m + 1) p l
 rw [go_, if_pos h2]; rfl
theorem j2_ {b : Str} {n : Nat} {p : Int} {l : List Str} (h : 0 < n) (h2 : ¬ (l.length : Int) < 16 + br_ b p 2) : go_ b n p l = (l, p + 1) := by
 obtain ⟨m, rfl⟩ : ∃ m, n = m + 1 := ⟨n - 1, by omega⟩
 rw [go_, if_neg h2]
theorem vi_ (l : List Str) (s : Str) : bo_ (l ++ [s]) = bo_ l ++ [[.s s]] := by simp [bo_]
theorem ol_ (l : List Str) : ler ((bo_ l).take l.length) (bo_ l) := by rw [T1_ (by rw [ab_]; exact Nat.le_refl _)]; exact be_ _
theorem ach_ (b : Str) (p : Int) (hb : b.length ≤ 2000) (hp : 0 ≤ p) (hp2 : p < 100000) : ACall En 127 [.pt 0 2 0 0] [rdB b p] [.s (dTx b p).1] [rdB b (dTx b p).2] := by
 have h6 := d6_ b (p := p) (n := 6) hp (by omega) (by decide)
 obtain ⟨d1, d2, d3, d4⟩ := tu_ b (1 + (br_ b p 6).toNat) (p + 1) [] (by omega) (by omega) (fun w hw => by cases hw)
 obtain ⟨t1, t2, t3, t4⟩ := yj_ b hp hp2
 have hT : dTx b p = (cf_ (k7_ b p).1, (k7_ b p).2) := rfl
 have hL : k7_ b p = if br_ b (eg_ b (1 + (br_ b p 6).toNat) (p + 1) []).2 30 = 0 then go_ b 20 ((eg_ b (1 + (br_ b p 6).toNat) (p + 1) []).2 + 1) (eg_ b (1 + (br_ b p 6).toNat) (p + 1) []).1 else ((eg_ b (1 + (br_ b p 6).toNat) (p + 1) []).1, (eg_ b (1 + (br_ b p 6).toNat) (p + 1) []).2 + 1) := rfl
 have hJ0 := ri_ (l := (k7_ b p).1) (k := 300) t3
 have hJ1 := Nat.mul_le_mul_right 301 t4
 simp only [List.length_nil] at d4
 generalize hD : eg_ b (1 + (br_ b p 6).toNat) (p + 1) [] = D at *
 generalize hR : k7_ b p = R at *
 have hz : ∀ q : Nat × Int × List Str, eg_ b q.1 q.2.1 q.2.2 = D → decide ((q.1 : Int) > 0) = false → (q.2.2, q.2.1) = D := fun q e h => by
  rw [show q.1 = 0 by simpa using h] at e; exact e
 have hw2 : ∀ p : Int, 0 ≤ p ∧ p < 1000000 → IntKind.i64.wrap (16 + br_ b p 2) = 16 + br_ b p 2 ∧ br_ b p 2 < 2 := fun p h => by
  have := d6_ b (p := p) (n := 2) h.1 (by omega) (by decide)
  exact ⟨by rw [bi_ (by omega) (by omega)], this.2⟩
 refine aj_ (fn := Tryz.f127) [0] Tryz.func127 rfl rfl (by simp) fun C => ?_
 rw [ay_]
 simp only [Tryz.ntmps127, T7_, List.length_nil, Nat.reduceAdd, Nat.reduceSub, List.replicate_succ, List.replicate_zero, List.cons_append, List.nil_append, bu_]
 refine .seq (.rgn [] (by simp only [go_sem, seval, ai_, ao_, ab_, aa_]; rfl) ?_ ?_)
 ·(first | trivial | (simp; done) | (obtain ⟨e, i1, i2, i3, i4⟩ := hI; and_intros <;> first | omega | (simp; done) | (simp; omega)))
 refine .seq (.rgn [] (by simp only [go_sem, seval, ai_, ao_, ab_, aa_]; rfl) ?_ ?_)
 ·(first | trivial | (simp; done) | (obtain ⟨e, i1, i2, i3, i4⟩ := hI; and_intros <;> first | omega | (simp; done) | (simp; omega)))
 refine .seq (.seq (.rgn [bx_ [0] [] (dx_ b p 6 hb hp (by omega))] (by simp only [go_sem, seval, ai_, ao_, ab_, aa_]; rfl) ?_ ?_))
 ·(first | trivial | (simp; done) | (obtain ⟨e, i1, i2, i3, i4⟩ := hI; and_intros <;> first | omega | (simp; done) | (simp; omega)))
 refine .block (.loopK (fun q : Nat × Int × List Str => ⟨[.pt 0 2 0 0, .no, .no, .ow 60 1 0 q.2.2.length, .i .i64 q.1, .no, .no, .no, .no, .no, .no, .no, .no, .no, .no, .no, .no, .no, .no, .no, .no, .no, .no, .no, .no, .no, .no, .no, .no, .no, .no, .no], bh_ [(0, rdB b q.2.1), (60, ⟨9, 1, bo_ q.2.2⟩)], us [60]⟩) (fun q : Nat × Int × List Str => eg_ b q.1 q.2.1 q.2.2 = D ∧ 0 ≤ q.2.1 ∧ q.2.1 + 1000 * q.1 < 1000000 ∧ wL q.2.2 ∧ q.2.2.length + q.1 ≤ 6) (fun q : Nat × Int × List Str => q.1) ((1 + (br_ b p 6).toNat, p + 1, [])) ?_ ?_ (fun q hI => ?_))
 ·exact ⟨hD, by dsimp only; omega, by dsimp only; omega, (fun w hw => by cases hw), by dsimp only; simp only [List.length_nil]; omega⟩
 ·refine Can.trans (Can.ownSlot 3 60 9 1 (by simp only [go_sem, seval, ai_, ao_, ab_, aa_] <;> rfl) (by simp only [go_sem, seval, ai_, ao_, ab_, aa_]) (by simp only [go_sem, seval, ai_, ao_, ab_, aa_] <;> rfl)) ?_
  exact Can.weak (Weak.lit (by simp only [go_sem, seval, ai_, ao_, ab_, aa_, ar_, leV, ap_, aq_, V.inn, us, T9_, Ta_] <;> (rw [bi_ (by omega) (by omega)]; omega)) (by simp only [go_sem, seval, ai_, ao_, ab_, aa_, ar_, leV, ap_, aq_, V.inn, us, T9_, Ta_]) (by simp only [go_sem, seval, ai_, ao_, ab_, aa_, ar_, leV, ap_, aq_, V.inn, us, T9_, Ta_] <;> (rfl)))
 refine .seq (.seq (.rgn [] (by simp only [go_sem, seval, ai_, ao_, ab_, aa_]; rfl) ?_ ?_))
 ·(first | trivial | (simp; done) | (obtain ⟨e, i1, i2, i3, i4⟩ := hI; and_intros <;> first | omega | (simp; done) | (simp; omega)))
 refine .condB (by simp only [go_sem, seval, ai_, ao_, ab_, aa_]; rfl) (by simp only [go_sem, seval, ai_, ao_, ab_, aa_]) (fun h10 => ?_) (fun h10 => ?_)
 ·refine .skip (.seq (.block (.rgn [tf_ [0] [] (0 ≤ q.2.1 ∧ q.2.1 < 5000000) (fun h => aby_ b q.2.1 hb h.1 h.2)] (by simp only [go_sem, seval, ai_, ao_, ab_, aa_]; rfl) ?_ ?_)))
  ·(first | trivial | (simp; done) | (obtain ⟨e, i1, i2, i3, i4⟩ := hI; and_intros <;> first | omega | (simp; done) | (simp; omega)))
  refine .rgn [] (by simp only [go_sem, seval, ai_, ao_, ab_, aa_]; rfl) ?_ ?_
  ·(first | trivial | (simp; done) | (obtain ⟨e, i1, i2, i3, i4⟩ := hI; and_intros <;> first | omega | (simp; done) | (simp; omega)))
  refine Exists.intro ((q.1 - 1, (dTo b q.2.1).2, q.2.2 ++ [(dTo b q.2.1).1])) ⟨?_, ?_, ?_⟩
  ·have h0 : 0 < q.1 := (by simpa using h10); obtain ⟨e, i1, i2, i3, i4⟩ := hI; obtain ⟨t1, t2, t3⟩ := akt_ b i1 (by omega); exact ⟨by rw [← e]; exact adj_ h0, by dsimp only; omega, by dsimp only; omega, te_ i3 t3, by dsimp only; rw [T2_, List.length_singleton]; omega⟩
  ·simp at h10; simp; omega
  refine Can.trans (Can.swap 27 60 (by decide) (by decide) (by decide) (by decide) (by simp only [go_sem, seval, ai_, ao_, ab_, aa_, V.cl]) (by simp only [go_sem, seval, ai_, ao_, ab_, aa_, V.cl]) (by simp only [go_sem, seval, ai_, ao_, ab_, aa_, bj_, sw, swM, rnB] <;> rfl) (by simp only [go_sem, seval, ai_, ao_, ab_, aa_, bj_, sw, swM, rnB] <;> rfl) (by simp only [go_sem, seval, ai_, ao_, ab_, aa_, bj_, sw, swM, rnB] <;> rfl)) ?_
  exact Can.weak (Weak.lit (by simp only [go_sem, seval, ai_, ao_, ab_, aa_, ar_, leV, ap_, aq_, V.inn, us, T9_, Ta_] <;> (have h0 : 0 < q.1 := (by simpa using h10); obtain ⟨e, i1, i2, i3, i4⟩ := hI; exact ⟨by simp, by rw [bi_ (by omega) (by omega)]; omega⟩)) (by simp only [go_sem, seval, ai_, ao_, ab_, aa_, ar_, leV, ap_, aq_, V.inn, us, T9_, Ta_]) (by simp only [go_sem, seval, ai_, ao_, ab_, aa_, ar_, leV, ap_, aq_, V.inn, us, T9_, Ta_] <;> (rw [vi_])))
 ·refine .exit (.seqJ (fun u : Unit => ⟨[.no, .no, .no, .sl false (bo_ R.1), .no, .no, .no, .no, .no, .no, .no, .no, .no, .no, .no, .no, .no, .no, .no, .no, .no, .no, .no, .no, .no, .no, .no, .no, .no, .no, .no, .no], bh_ [(0, rdB b R.2)], us []⟩) (fun u : Unit => True) ?_ (fun u hJ => ?_))
  ·refine .seq (.rgn [bx_ [0] [] (dx_ b D.2 30 hb (by omega) (by omega))] (by simp only [go_sem, seval, ai_, ao_, ab_, aa_]; rfl) ?_ ?_)
   ·have e := hz q hI.1 h10; exact ⟨by rw [← e], by simp⟩
   refine .condB (by simp only [go_sem, seval, ai_, ao_, ab_, aa_]; rfl) (by simp only [go_sem, seval, ai_, ao_, ab_, aa_]) (fun h20 => ?_) (fun h20 => ?_)
   ·refine .block (.loopK (fun r : Nat × Int × List Str => ⟨[.pt 0 2 0 0, .no, .no, .ow 60 1 0 r.2.2.length, .no, .no, .no, .no, .no, .no, .no, .no, .no, .no, .no, .no, .no, .no, .no, .no, .no, .no, .no, .no, .no, .no, .no, .no, .no, .no, .no, .no], bh_ [(0, rdB b r.2.1), (60, ⟨9, 1, bo_ r.2.2⟩)], us [60]⟩) (fun r : Nat × Int × List Str => go_ b r.1 r.2.1 r.2.2 = R ∧ 0 ≤ r.2.1 ∧ r.2.1 + r.1 < 1000000 ∧ 21 ≤ r.1 + r.2.2.length ∧ r.2.2.length ≤ 17) (fun r : Nat × Int × List Str => r.1) ((20, D.2 + 1, D.1)) ?_ ?_ (fun r hI => ?_))
    ·exact ⟨by rw [hL, if_pos (by simpa using h20)], by dsimp only; omega, by dsimp only; omega, by dsimp only; omega, by dsimp only; omega⟩
    ·exact Can.weak (Weak.lit (by simp only [go_sem, seval, ai_, ao_, ab_, aa_, ar_, leV, ap_, aq_, V.inn, us, T9_, Ta_] <;> (have e := hz q hI.1 h10; rw [← e])) (by simp only [go_sem, seval, ai_, ao_, ab_, aa_, ar_, leV, ap_, aq_, V.inn, us, T9_, Ta_]) (by simp only [go_sem, seval, ai_, ao_, ab_, aa_, ar_, leV, ap_, aq_, V.inn, us, T9_, Ta_] <;> (have e := hz q hI.1 h10; rw [← e])))
    refine .seq (.seq (.rgn [tf_ [0] [] (0 ≤ r.2.1 ∧ r.2.1 < 5000000) (fun h => dx_ b r.2.1 2 hb h.1 (by omega))] (by simp only [go_sem, seval, ai_, ao_, ab_, aa_]; rfl) ?_ ?_))
    ·(first | trivial | (simp; done) | (obtain ⟨e, i1, i2, i3, i4⟩ := hI; and_intros <;> first | omega | (simp; done) | (simp; omega)))
    refine .condB (by simp only [go_sem, seval, ai_, ao_, ab_, aa_]; rfl) (by simp only [go_sem, seval, ai_, ao_, ab_, aa_]) (fun h26 => ?_) (fun h26 => ?_)
    ·refine .skip (.block (.rgn [] (by simp only [go_sem, seval, ai_, ao_, ab_, aa_]; rfl) ?_ ?_))
     ·(first | trivial | (simp; done) | (obtain ⟨e, i1, i2, i3, i4⟩ := hI; and_intros <;> first | omega | (simp; done) | (simp; omega)))
     refine Exists.intro ((r.1 - 1, r.2.1 + 1, r.2.2 ++ [uf_])) ⟨?_, ?_, ?_⟩
     ·obtain ⟨e, i1, i2, i3, i4⟩ := hI; obtain ⟨w1, w2⟩ := hw2 r.2.1 ⟨i1, by omega⟩; rw [w1] at h26; simp only [T3_] at h26; exact ⟨by rw [← e]; exact agl_ (by omega) h26, by dsimp only; omega, by dsimp only; omega, by dsimp only; rw [T2_, List.length_singleton]; omega, by dsimp only; rw [T2_, List.length_singleton]; omega⟩
     ·obtain ⟨e, i1, i2, i3, i4⟩ := hI; dsimp only; omega
     refine Can.trans (Can.swap 39 60 (by decide) (by decide) (by decide) (by decide) (by simp only [go_sem, seval, ai_, ao_, ab_, aa_, V.cl]) (by simp only [go_sem, seval, ai_, ao_, ab_, aa_, V.cl]) (by simp only [go_sem, seval, ai_, ao_, ab_, aa_, bj_, sw, swM, rnB] <;> rfl) (by simp only [go_sem, seval, ai_, ao_, ab_, aa_, bj_, sw, swM, rnB] <;> rfl) (by simp only [go_sem, seval, ai_, ao_, ab_, aa_, bj_, sw, swM, rnB] <;> rfl)) ?_
     exact Can.weak (Weak.lit (by simp only [go_sem, seval, ai_, ao_, ab_, aa_, ar_, leV, ap_, aq_, V.inn, us, T9_, Ta_] <;> ((try simp))) (by simp only [go_sem, seval, ai_, ao_, ab_, aa_, ar_, leV, ap_, aq_, V.inn, us, T9_, Ta_]) (by simp only [go_sem, seval, ai_, ao_, ab_, aa_, ar_, leV, ap_, aq_, V.inn, us, T9_, Ta_] <;> (rw [vi_]; first | done | rfl)))
    ·refine .exit ?_
     refine Exists.intro (()) ⟨?_, ?_⟩
     ·trivial
     refine Can.trans (Can.frz 60 (by simp only [go_sem, seval, ai_, ao_, ab_, aa_] <;> rfl) (by simp only [go_sem, seval, ai_, ao_, ab_, aa_]) (by simp only [go_sem, seval, ai_, ao_, ab_, aa_] <;> rfl) (by simp only [go_sem, seval, ai_, ao_, ab_, aa_] <;> rfl)) ?_
     exact Can.weak (Weak.lit (by simp only [go_sem, seval, ai_, ao_, ab_, aa_, ar_, leV, ap_, aq_, V.inn, us, T9_, Ta_] <;> (first | (obtain ⟨e, i1, i2, i3, i4⟩ := hI; obtain ⟨w1, w2⟩ := hw2 r.2.1 ⟨i1, by omega⟩; rw [w1] at h26; simp only [T4_] at h26; rw [j2_ (by omega) h26] at e; rw [← e]; exact ol_ _) | (have e := hz q hI.1 h10; rw [hL, if_neg (by simpa using h20), ← e]; exact ol_ _))) (by simp only [go_sem, seval, ai_, ao_, ab_, aa_, ar_, leV, ap_, aq_, V.inn, us, T9_, Ta_]) (by simp only [go_sem, seval, ai_, ao_, ab_, aa_, ar_, leV, ap_, aq_, V.inn, us, T9_, Ta_] <;> (first | (obtain ⟨e, i1, i2, i3, i4⟩ := hI; obtain ⟨w1, w2⟩ := hw2 r.2.1 ⟨i1, by omega⟩; rw [w1] at h26; simp only [T4_] at h26; rw [j2_ (by omega) h26] at e; rw [← e]; first | done | rfl) | (rw [hL, if_neg (by simpa using h20)]; first | done | rfl))))
   ·refine .skip ?_
    refine Exists.intro (()) ⟨?_, ?_⟩
    ·trivial
    refine Can.trans (Can.frz 60 (by simp only [go_sem, seval, ai_, ao_, ab_, aa_] <;> rfl) (by simp only [go_sem, seval, ai_, ao_, ab_, aa_]) (by simp only [go_sem, seval, ai_, ao_, ab_, aa_] <;> rfl) (by simp only [go_sem, seval, ai_, ao_, ab_, aa_] <;> rfl)) ?_
    exact Can.weak (Weak.lit (by simp only [go_sem, seval, ai_, ao_, ab_, aa_, ar_, leV, ap_, aq_, V.inn, us, T9_, Ta_] <;> (first | (obtain ⟨e, i1, i2, i3, i4⟩ := hI; obtain ⟨w1, w2⟩ := hw2 r.2.1 ⟨i1, by omega⟩; rw [w1] at h26; simp only [T4_] at h26; rw [j2_ (by omega) h26] at e; rw [← e]; exact ol_ _) | (have e := hz q hI.1 h10; rw [hL, if_neg (by simpa using h20), ← e]; exact ol_ _))) (by simp only [go_sem, seval, ai_, ao_, ab_, aa_, ar_, leV, ap_, aq_, V.inn, us, T9_, Ta_]) (by simp only [go_sem, seval, ai_, ao_, ab_, aa_, ar_, leV, ap_, aq_, V.inn, us, T9_, Ta_] <;> (first | (obtain ⟨e, i1, i2, i3, i4⟩ := hI; obtain ⟨w1, w2⟩ := hw2 r.2.1 ⟨i1, by omega⟩; rw [w1] at h26; simp only [T4_] at h26; rw [j2_ (by omega) h26] at e; rw [← e]; first | done | rfl) | (rw [hL, if_neg (by simpa using h20)]; first | done | rfl))))
  refine .seq (.rgn [a8_ (ni_ R.1 (by omega) (by omega))] (by simp only [go_sem, seval, ai_, ao_, ab_, aa_]; rfl) ?_ ?_)
  ·(first | trivial | (simp; done) | (obtain ⟨e, i1, i2, i3, i4⟩ := hI; and_intros <;> first | omega | (simp; done) | (simp; omega)))
  refine .ret ⟨.inr rfl, ?_⟩
  exact Out.mem' (by simp only [Tryz.results127]; rfl) (by simp only [az_, bc_, go_sem, seval, ai_, ao_, ab_, aa_]) (by simp only [bb_, rns, rn, go_sem, seval, ai_, ao_, ab_, aa_] <;> (rw [hT])) (by simp) rfl (by decide) (by simp only [go_sem, seval, ai_, ao_, ab_, aa_]) (by simp only [ao_, go_sem, seval, ai_, ao_, ab_, aa_]) (by simp only [ai_, go_sem, seval, ai_, ao_, ab_, aa_] <;> (rw [hT]))
theorem bk_ {l : List Pg} {i : Nat} {a t : Str} {g : Bool} {f : List Int} : (pgR l).set i [.s a, .b g, .s t, .sl false (inR f)] = pgR (l.set i ⟨a, g, t, f⟩) := by simp [pgR, List.map_set, pgC]
theorem bkJ {w v : List Pg} {n : Nat} (hn : n = w.length) (h : w = v) : leV (if n ≤ w.length then V.sl false ((pgR w).take n) else V.no) (V.sl false (pgR v)) := by
 subst h hn
 rw [if_pos (Nat.le_refl _), T1_ (by rw [al_]; exact Nat.le_refl _)]
 exact ⟨fun h => h, be_ _⟩
theorem abg_ (b : Str) (p : Int) (hb : b.length ≤ 2000) (hp : 0 ≤ p) (hp2 : p < 100000) : ACall En 63 [.pt 0 2 0 0] [rdB b p] [.sl false (pgR (dBk b p).1)] [rdB b (dBk b p).2] := by
 obtain ⟨t1, t2, t3, t4⟩ := yj_ b hp hp2
 have tl := ahw_ b hp hp2
 have hT2 : (dTx b p).2 = (k7_ b p).2 := rfl
 have hl := wl_ (dTx b p).1
 have hD : dBk b p = if h3_ (dTx b p).1 = [] then ([], (dTx b p).2) else (ch_ (h3_ (dTx b p).1) (br_ b (dTx b p).2 (h3_ (dTx b p).1).length).toNat (br_ b ((dTx b p).2 + 1) 40), (dTx b p).2 + 1 + 1) := rfl
 have L := ach_ b p hb hp hp2
 have B := yh_ (dTx b p).1 (by omega)
 have hX := fun k => (agk_ (aag_ (dTx b p).1) k).2.1
 rw [← hT2] at t1 t2
 generalize h3_ (dTx b p).1 = w at *
 generalize dTx b p = u at *
 have hW : ((w.length : Int) == 0) = false → 0 < w.length ∧ w ≠ [] := fun h => by
  rw [beq_eq_false_iff_ne] at h
  exact ⟨by omega, fun e => h (by rw [e]; rfl)⟩
 have hk : ((w.length : Int) == 0) = false → 0 ≤ br_ b u.2 w.length ∧ br_ b u.2 w.length < w.length := fun h => d6_ b (by omega) (by omega) (by have := (hW h).1; omega)
 have hD1 : ((w.length : Int) == 0) = false → dBk b p = (ch_ w (br_ b u.2 w.length).toNat (br_ b (u.2 + 1) 40), u.2 + 1 + 1) := fun h => by rw [hD, if_neg (hW h).2]
 refine aj_ (fn := Tryz.f63) [0] Tryz.func63 rfl rfl (by simp) fun C => ?_
 rw [ay_]
 simp only [Tryz.ntmps63, T7_, List.length_nil, Nat.reduceAdd, Nat.reduceSub, List.replicate_succ, List.replicate_zero, List.cons_append, List.nil_append, bu_]
 refine .seq (.rgn [] (by simp only [go_sem, seval, ai_, ao_, al_, ah_, am_, ac_, bk_]; rfl) ?_ ?_)
 ·(first | trivial | (simp; done) | (have q1 := hk h10; have q2 := (hW h10).1; have q4 := hX (br_ b u.2 w.length).toNat; and_intros <;> first | omega | (simp; done) | (simp; omega)))
 refine .seq (.rgn [bx_ [0] [] L, bx_ [] [17] B] (by simp only [go_sem, seval, ai_, ao_, al_, ah_, am_, ac_, bk_]; rfl) ?_ ?_)
 ·(first | trivial | (simp; done) | (have q1 := hk h10; have q2 := (hW h10).1; have q4 := hX (br_ b u.2 w.length).toNat; and_intros <;> first | omega | (simp; done) | (simp; omega)))
 refine .seq (.seq (.rgn [] (by simp only [go_sem, seval, ai_, ao_, al_, ah_, am_, ac_, bk_]; rfl) ?_ ?_))
 ·(first | trivial | (simp; done) | (have q1 := hk h10; have q2 := (hW h10).1; have q4 := hX (br_ b u.2 w.length).toNat; and_intros <;> first | omega | (simp; done) | (simp; omega)))
 refine .condB (by simp only [go_sem, seval, ai_, ao_, al_, ah_, am_, ac_, bk_]; rfl) (by simp only [go_sem, seval, ai_, ao_, al_, ah_, am_, ac_, bk_]) (fun h10 => ?_) (fun h10 => ?_)
 ·refine .seq (.rgn [] (by simp only [go_sem, seval, ai_, ao_, al_, ah_, am_, ac_, bk_]; rfl) ?_ ?_)
  ·(first | trivial | (simp; done) | (have q1 := hk h10; have q2 := (hW h10).1; have q4 := hX (br_ b u.2 w.length).toNat; and_intros <;> first | omega | (simp; done) | (simp; omega)))
  refine .frz 17 (by simp only [go_sem, seval, ai_, ao_, al_, ah_, am_, ac_, bk_]; rfl) (by simp only [go_sem, seval, ai_, ao_, al_, ah_, am_, ac_, bk_]) (by simp only [go_sem, seval, ai_, ao_, al_, ah_, am_, ac_, bk_]; rfl) (by simp only [go_sem, seval, ai_, ao_, al_, ah_, am_, ac_, bk_]; rfl) ?_
  refine .ret ⟨.inr rfl, ?_⟩
  exact Out.mem' (by simp only [Tryz.results63]; rfl) (by simp only [az_, bc_, go_sem, seval, ai_, ao_, al_, ah_, am_, ac_, bk_]) (by simp only [bb_, rns, rn, go_sem, seval, ai_, ao_, al_, ah_, am_, ac_, bk_] <;> (have e : w = [] := (List.eq_nil_of_length_eq_zero (by simpa using h10)); rw [hD, if_pos e, e]; rfl)) (by simp) rfl (by decide) (by simp only [go_sem, seval, ai_, ao_, al_, ah_, am_, ac_, bk_]) (by simp only [ao_, go_sem, seval, ai_, ao_, al_, ah_, am_, ac_, bk_]) (by simp only [ai_, go_sem, seval, ai_, ao_, al_, ah_, am_, ac_, bk_] <;> (have e : w = [] := (List.eq_nil_of_length_eq_zero (by simpa using h10)); rw [hD, if_pos e]))
 ·refine .skip (.seq (.rgn [tf_ [0] [] (0 < w.length) (fun h => dx_ b u.2 w.length hb (by omega) (by omega))] (by simp only [go_sem, seval, ai_, ao_, al_, ah_, am_, ac_, bk_]; rfl) ?_ ?_))
  ·(first | trivial | (simp; done) | (have q1 := hk h10; have q2 := (hW h10).1; have q4 := hX (br_ b u.2 w.length).toNat; and_intros <;> first | omega | (simp; done) | (simp; omega)))
  refine .seqJ (fun u : Unit => ⟨[.no, .no, .no, .sl false (pgR (dBk b p).1), .no, .no, .no, .no, .no, .no, .no, .no, .no, .no, .no, .no, .no, .no, .no, .no, .no, .no, .no, .no, .no, .no, .no, .no, .no, .no, .no, .no, .no, .no, .no, .no, .no, .no, .no, .no, .no, .no, .no, .no, .no, .no, .no, .no, .no, .no, .no, .no, .no], bh_ [(0, rdB b (dBk b p).2)], us []⟩) (fun u : Unit => True) ?_ (fun u hJ => ?_)
  ·refine .seq (.rgn [bx_ [0] [] (dx_ b (u.2 + 1) 40 hb (by omega) (by omega))] (by simp only [go_sem, seval, ai_, ao_, al_, ah_, am_, ac_, bk_]; rfl) ?_ ?_)
   ·(first | trivial | (simp; done) | (have q1 := hk h10; have q2 := (hW h10).1; have q4 := hX (br_ b u.2 w.length).toNat; and_intros <;> first | omega | (simp; done) | (simp; omega)))
   refine .block (.seq (.rgn [] (by simp only [go_sem, seval, ai_, ao_, al_, ah_, am_, ac_, bk_]; rfl) ?_ ?_))
   ·(first | trivial | (simp; done) | (have q1 := hk h10; have q2 := (hW h10).1; have q4 := hX (br_ b u.2 w.length).toNat; and_intros <;> first | omega | (simp; done) | (simp; omega)))
   refine .condB (by simp only [go_sem, seval, ai_, ao_, al_, ah_, am_, ac_, bk_]; rfl) (by simp only [go_sem, seval, ai_, ao_, al_, ah_, am_, ac_, bk_]) (fun h18 => ?_) (fun h18 => ?_)
   ·refine .rgn [] (by simp only [go_sem, seval, ai_, ao_, al_, ah_, am_, ac_, bk_, hm_ (show (br_ b u.2 w.length).toNat < w.length by have := hk h10; omega)]; rfl) ?_ ?_
    ·(first | trivial | (simp; done) | (have q1 := hk h10; have q2 := (hW h10).1; have q4 := hX (br_ b u.2 w.length).toNat; and_intros <;> first | omega | (simp; done) | (simp; omega)))
    refine Exists.intro (()) ⟨?_, ?_⟩
    ·trivial
    refine Can.trans (Can.frz 17 (by simp only [go_sem, seval, ai_, ao_, al_, ah_, am_, ac_, bk_] <;> rfl) (by simp only [go_sem, seval, ai_, ao_, al_, ah_, am_, ac_, bk_]) (by simp only [go_sem, seval, ai_, ao_, al_, ah_, am_, ac_, bk_] <;> rfl) (by simp only [go_sem, seval, ai_, ao_, al_, ah_, am_, ac_, bk_] <;> rfl)) ?_
    exact Can.weak (Weak.lit (by simp only [go_sem, seval, ai_, ao_, al_, ah_, am_, ac_, bk_, ar_, leV, ap_, aq_, V.inn, us, T9_, Ta_] <;> (rw [hD1 h10]; first | (refine bkJ (by simp) ?_; first | (rw [ch_, if_pos (by simpa using h18)]; done) | (rw [ch_, if_neg (by simpa using h18), if_pos (by simpa using h30)]; done) | (rw [ch_, if_neg (by simpa using h18), if_neg (by simpa using h30), if_pos (by simpa using h42)]; rfl)) | (have e : ch_ w (br_ b u.2 w.length).toNat (br_ b (u.2 + 1) 40) = [] := (by unfold ch_; rw [if_neg (by simpa using h18), if_neg (by simpa using h30), if_neg (by simpa using h42), if_pos (by simpa using h48)]); rw [e, if_pos (Nat.zero_le _)]; exact ⟨fun h => h, trivial⟩) | (rw [ch_, if_neg (by simpa using h18), if_neg (by simpa using h30), if_neg (by simpa using h42), if_neg (by simpa using h48), T1_ (by rw [al_]; exact Nat.le_refl _)]; exact be_ _))) (by simp only [go_sem, seval, ai_, ao_, al_, ah_, am_, ac_, bk_, ar_, leV, ap_, aq_, V.inn, us, T9_, Ta_]) (by simp only [go_sem, seval, ai_, ao_, al_, ah_, am_, ac_, bk_, ar_, leV, ap_, aq_, V.inn, us, T9_, Ta_] <;> (rw [hD1 h10])))
   ·refine .seq (.rgn [] (by simp only [go_sem, seval, ai_, ao_, al_, ah_, am_, ac_, bk_]; rfl) ?_ ?_)
    ·(first | trivial | (simp; done) | (have q1 := hk h10; have q2 := (hW h10).1; have q4 := hX (br_ b u.2 w.length).toNat; and_intros <;> first | omega | (simp; done) | (simp; omega)))
    refine .condB (by simp only [go_sem, seval, ai_, ao_, al_, ah_, am_, ac_, bk_]; rfl) (by simp only [go_sem, seval, ai_, ao_, al_, ah_, am_, ac_, bk_]) (fun h30 => ?_) (fun h30 => ?_)
    ·refine .rgn [] (by simp only [go_sem, seval, ai_, ao_, al_, ah_, am_, ac_, bk_, hm_ (show (br_ b u.2 w.length).toNat < w.length by have := hk h10; omega)]; rfl) ?_ ?_
     ·(first | trivial | (simp; done) | (have q1 := hk h10; have q2 := (hW h10).1; have q4 := hX (br_ b u.2 w.length).toNat; and_intros <;> first | omega | (simp; done) | (simp; omega)))
     refine Exists.intro (()) ⟨?_, ?_⟩
     ·trivial
     refine Can.trans (Can.frz 17 (by simp only [go_sem, seval, ai_, ao_, al_, ah_, am_, ac_, bk_] <;> rfl) (by simp only [go_sem, seval, ai_, ao_, al_, ah_, am_, ac_, bk_]) (by simp only [go_sem, seval, ai_, ao_, al_, ah_, am_, ac_, bk_] <;> rfl) (by simp only [go_sem, seval, ai_, ao_, al_, ah_, am_, ac_, bk_] <;> rfl)) ?_
     exact Can.weak (Weak.lit (by simp only [go_sem, seval, ai_, ao_, al_, ah_, am_, ac_, bk_, ar_, leV, ap_, aq_, V.inn, us, T9_, Ta_] <;> (rw [hD1 h10]; first | (refine bkJ (by simp) ?_; first | (rw [ch_, if_pos (by simpa using h18)]; done) | (rw [ch_, if_neg (by simpa using h18), if_pos (by simpa using h30)]; done) | (rw [ch_, if_neg (by simpa using h18), if_neg (by simpa using h30), if_pos (by simpa using h42)]; rfl)) | (have e : ch_ w (br_ b u.2 w.length).toNat (br_ b (u.2 + 1) 40) = [] := (by unfold ch_; rw [if_neg (by simpa using h18), if_neg (by simpa using h30), if_neg (by simpa using h42), if_pos (by simpa using h48)]); rw [e, if_pos (Nat.zero_le _)]; exact ⟨fun h => h, trivial⟩) | (rw [ch_, if_neg (by simpa using h18), if_neg (by simpa using h30), if_neg (by simpa using h42), if_neg (by simpa using h48), T1_ (by rw [al_]; exact Nat.le_refl _)]; exact be_ _))) (by simp only [go_sem, seval, ai_, ao_, al_, ah_, am_, ac_, bk_, ar_, leV, ap_, aq_, V.inn, us, T9_, Ta_]) (by simp only [go_sem, seval, ai_, ao_, al_, ah_, am_, ac_, bk_, ar_, leV, ap_, aq_, V.inn, us, T9_, Ta_] <;> (rw [hD1 h10])))
    ·refine .seq (.rgn [] (by simp only [go_sem, seval, ai_, ao_, al_, ah_, am_, ac_, bk_]; rfl) ?_ ?_)
     ·(first | trivial | (simp; done) | (have q1 := hk h10; have q2 := (hW h10).1; have q4 := hX (br_ b u.2 w.length).toNat; and_intros <;> first | omega | (simp; done) | (simp; omega)))
     refine .condB (by simp only [go_sem, seval, ai_, ao_, al_, ah_, am_, ac_, bk_]; rfl) (by simp only [go_sem, seval, ai_, ao_, al_, ah_, am_, ac_, bk_]) (fun h42 => ?_) (fun h42 => ?_)
     ·refine .rgn [] (by simp only [go_sem, seval, ai_, ao_, al_, ah_, am_, ac_, bk_, hm_ (show (br_ b u.2 w.length).toNat < w.length by have := hk h10; omega)]; rfl) ?_ ?_
      ·(first | trivial | (simp; done) | (have q1 := hk h10; have q2 := (hW h10).1; have q4 := hX (br_ b u.2 w.length).toNat; and_intros <;> first | omega | (simp; done) | (simp; omega)))
      refine Exists.intro (()) ⟨?_, ?_⟩
      ·trivial
      refine Can.trans (Can.frz 17 (by simp only [go_sem, seval, ai_, ao_, al_, ah_, am_, ac_, bk_] <;> rfl) (by simp only [go_sem, seval, ai_, ao_, al_, ah_, am_, ac_, bk_]) (by simp only [go_sem, seval, ai_, ao_, al_, ah_, am_, ac_, bk_] <;> rfl) (by simp only [go_sem, seval, ai_, ao_, al_, ah_, am_, ac_, bk_] <;> rfl)) ?_
      exact Can.weak (Weak.lit (by simp only [go_sem, seval, ai_, ao_, al_, ah_, am_, ac_, bk_, ar_, leV, ap_, aq_, V.inn, us, T9_, Ta_] <;> (rw [hD1 h10]; first | (refine bkJ (by simp) ?_; first | (rw [ch_, if_pos (by simpa using h18)]; done) | (rw [ch_, if_neg (by simpa using h18), if_pos (by simpa using h30)]; done) | (rw [ch_, if_neg (by simpa using h18), if_neg (by simpa using h30), if_pos (by simpa using h42)]; rfl)) | (have e : ch_ w (br_ b u.2 w.length).toNat (br_ b (u.2 + 1) 40) = [] := (by unfold ch_; rw [if_neg (by simpa using h18), if_neg (by simpa using h30), if_neg (by simpa using h42), if_pos (by simpa using h48)]); rw [e, if_pos (Nat.zero_le _)]; exact ⟨fun h => h, trivial⟩) | (rw [ch_, if_neg (by simpa using h18), if_neg (by simpa using h30), if_neg (by simpa using h42), if_neg (by simpa using h48), T1_ (by rw [al_]; exact Nat.le_refl _)]; exact be_ _))) (by simp only [go_sem, seval, ai_, ao_, al_, ah_, am_, ac_, bk_, ar_, leV, ap_, aq_, V.inn, us, T9_, Ta_]) (by simp only [go_sem, seval, ai_, ao_, al_, ah_, am_, ac_, bk_, ar_, leV, ap_, aq_, V.inn, us, T9_, Ta_] <;> (rw [hD1 h10])))
     ·refine .seq (.rgn [] (by simp only [go_sem, seval, ai_, ao_, al_, ah_, am_, ac_, bk_]; rfl) ?_ ?_)
      ·(first | trivial | (simp; done) | (have q1 := hk h10; have q2 := (hW h10).1; have q4 := hX (br_ b u.2 w.length).toNat; and_intros <;> first | omega | (simp; done) | (simp; omega)))
      refine .condB (by simp only [go_sem, seval, ai_, ao_, al_, ah_, am_, ac_, bk_]; rfl) (by simp only [go_sem, seval, ai_, ao_, al_, ah_, am_, ac_, bk_]) (fun h48 => ?_) (fun h48 => ?_)
      ·refine .rgn [] (by simp only [go_sem, seval, ai_, ao_, al_, ah_, am_, ac_, bk_]; rfl) ?_ ?_
       ·(first | trivial | (simp; done) | (have q1 := hk h10; have q2 := (hW h10).1; have q4 := hX (br_ b u.2 w.length).toNat; and_intros <;> first | omega | (simp; done) | (simp; omega)))
       refine Exists.intro (()) ⟨?_, ?_⟩
       ·trivial
       refine Can.trans (Can.frz 17 (by simp only [go_sem, seval, ai_, ao_, al_, ah_, am_, ac_, bk_] <;> rfl) (by simp only [go_sem, seval, ai_, ao_, al_, ah_, am_, ac_, bk_]) (by simp only [go_sem, seval, ai_, ao_, al_, ah_, am_, ac_, bk_] <;> rfl) (by simp only [go_sem, seval, ai_, ao_, al_, ah_, am_, ac_, bk_] <;> rfl)) ?_
       exact Can.weak (Weak.lit (by simp only [go_sem, seval, ai_, ao_, al_, ah_, am_, ac_, bk_, ar_, leV, ap_, aq_, V.inn, us, T9_, Ta_] <;> (rw [hD1 h10]; first | (refine bkJ (by simp) ?_; first | (rw [ch_, if_pos (by simpa using h18)]; done) | (rw [ch_, if_neg (by simpa using h18), if_pos (by simpa using h30)]; done) | (rw [ch_, if_neg (by simpa using h18), if_neg (by simpa using h30), if_pos (by simpa using h42)]; rfl)) | (have e : ch_ w (br_ b u.2 w.length).toNat (br_ b (u.2 + 1) 40) = [] := (by unfold ch_; rw [if_neg (by simpa using h18), if_neg (by simpa using h30), if_neg (by simpa using h42), if_pos (by simpa using h48)]); rw [e, if_pos (Nat.zero_le _)]; exact ⟨fun h => h, trivial⟩) | (rw [ch_, if_neg (by simpa using h18), if_neg (by simpa using h30), if_neg (by simpa using h42), if_neg (by simpa using h48), T1_ (by rw [al_]; exact Nat.le_refl _)]; exact be_ _))) (by simp only [go_sem, seval, ai_, ao_, al_, ah_, am_, ac_, bk_, ar_, leV, ap_, aq_, V.inn, us, T9_, Ta_]) (by simp only [go_sem, seval, ai_, ao_, al_, ah_, am_, ac_, bk_, ar_, leV, ap_, aq_, V.inn, us, T9_, Ta_] <;> (rw [hD1 h10])))
      ·refine .skip ?_
       refine Exists.intro (()) ⟨?_, ?_⟩
       ·trivial
       refine Can.trans (Can.frz 17 (by simp only [go_sem, seval, ai_, ao_, al_, ah_, am_, ac_, bk_] <;> rfl) (by simp only [go_sem, seval, ai_, ao_, al_, ah_, am_, ac_, bk_]) (by simp only [go_sem, seval, ai_, ao_, al_, ah_, am_, ac_, bk_] <;> rfl) (by simp only [go_sem, seval, ai_, ao_, al_, ah_, am_, ac_, bk_] <;> rfl)) ?_
       exact Can.weak (Weak.lit (by simp only [go_sem, seval, ai_, ao_, al_, ah_, am_, ac_, bk_, ar_, leV, ap_, aq_, V.inn, us, T9_, Ta_] <;> (rw [hD1 h10]; first | (refine bkJ (by simp) ?_; first | (rw [ch_, if_pos (by simpa using h18)]; done) | (rw [ch_, if_neg (by simpa using h18), if_pos (by simpa using h30)]; done) | (rw [ch_, if_neg (by simpa using h18), if_neg (by simpa using h30), if_pos (by simpa using h42)]; rfl)) | (have e : ch_ w (br_ b u.2 w.length).toNat (br_ b (u.2 + 1) 40) = [] := (by unfold ch_; rw [if_neg (by simpa using h18), if_neg (by simpa using h30), if_neg (by simpa using h42), if_pos (by simpa using h48)]); rw [e, if_pos (Nat.zero_le _)]; exact ⟨fun h => h, trivial⟩) | (rw [ch_, if_neg (by simpa using h18), if_neg (by simpa using h30), if_neg (by simpa using h42), if_neg (by simpa using h48), T1_ (by rw [al_]; exact Nat.le_refl _)]; exact be_ _))) (by simp only [go_sem, seval, ai_, ao_, al_, ah_, am_, ac_, bk_, ar_, leV, ap_, aq_, V.inn, us, T9_, Ta_]) (by simp only [go_sem, seval, ai_, ao_, al_, ah_, am_, ac_, bk_, ar_, leV, ap_, aq_, V.inn, us, T9_, Ta_] <;> (rw [hD1 h10])))
  refine .seq (.rgn [] (by simp only [go_sem, seval, ai_, ao_, al_, ah_, am_, ac_, bk_]; rfl) ?_ ?_)
  ·(first | trivial | (simp; done) | (have q1 := hk h10; have q2 := (hW h10).1; have q4 := hX (br_ b u.2 w.length).toNat; and_intros <;> first | omega | (simp; done) | (simp; omega)))
  refine .ret ⟨.inr rfl, ?_⟩
  exact Out.mem' (by simp only [Tryz.results63]; rfl) (by simp only [az_, bc_, go_sem, seval, ai_, ao_, al_, ah_, am_, ac_, bk_]) (by simp only [bb_, rns, rn, go_sem, seval, ai_, ao_, al_, ah_, am_, ac_, bk_] <;> ((try rfl))) (by simp) rfl (by decide) (by simp only [go_sem, seval, ai_, ao_, al_, ah_, am_, ac_, bk_]) (by simp only [ao_, go_sem, seval, ai_, ao_, al_, ah_, am_, ac_, bk_]) (by simp only [ai_, go_sem, seval, ai_, ao_, al_, ah_, am_, ac_, bk_] <;> ((try rfl)))
theorem p6_ (c : Str) : ACall En 11 [.sl false (byR c)] [] [.sl false (pgR (dBk (c.take 2000) 0).1)] [] := by
 have hb : (c.take 2000).length ≤ 2000 := by simp; omega
 have hO := acv_ c
 generalize hc : c.take 2000 = b at *
 have L := abg_ b 0 hb (by decide) (by decide)
 refine aj_ (fn := Tryz.f11) [] Tryz.func11 rfl rfl (by simp) fun C => ?_
 rw [ay_]
 simp only [Tryz.ntmps11, T7_, List.length_nil, Nat.reduceAdd, Nat.reduceSub, List.replicate_succ, List.replicate_zero, List.cons_append, List.nil_append, bu_]
 refine .seq (.rgn [] (by simp only [go_sem, seval, ai_, ao_, ah_]; rfl) ?_ ?_)
 ·first | trivial | simp
 refine .seq (.rgn [bx_ [] [14] hO, bx_ [14] [] L] (by simp only [go_sem, seval, ai_, ao_, ah_]; rfl) ?_ ?_)
 ·first | trivial | simp
 refine .ret ⟨.inr rfl, ?_⟩
 exact Out.plain (by simp only [Tryz.results11]; rfl) (by simp only [az_, bc_, go_sem, seval, ai_, ao_, ah_] <;> (split <;> rfl)) (by simp only [bb_, go_sem, seval, ai_, ao_, ah_] <;> (simp_all)) (by simp only [go_sem, seval, ai_, ao_, ah_])
end
end Go.Proofs.YtcigkafioinfoaaGreatDoor
