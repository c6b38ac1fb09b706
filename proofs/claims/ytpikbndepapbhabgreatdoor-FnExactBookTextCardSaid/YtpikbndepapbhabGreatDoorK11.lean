/- Lines, drawn and torn. Conditions: none. -/
import Derived.Test.YtpikbndepapbhabGreatDoorK10
import Derived.Test.YtpikbndepapbhabGreatDoorK8
set_option linter.unusedVariables false
set_option linter.unusedSimpArgs false
namespace Go.Proofs.YtpikbndepapbhabGreatDoor
section
set_option maxRecDepth 100000
set_option maxHeartbeats 4000000
theorem j4_ (s : Sl) (hs : d0_ s = true) : ACall En 145 [.ag (sC s)] [] [.s (d2_ s)] [] := by
 refine ak_ (fn := Tryz.f145) [] Tryz.func145 rfl rfl (by simp) fun C => ?_
 rw [aw_]
 simp only [Tryz.ntmps145, T7_, List.length_nil, Nat.reduceAdd, Nat.reduceSub, List.replicate_succ, List.replicate_zero, List.cons_append, List.nil_append, bk_]
 refine .seq (.rgn [] (by simp only [go_sem, seval, ai_, aa_]; rfl) ?_ ?_)
 ·first | trivial | simp
 refine .seq (.seq (.rgn [a3_ (mq_ s hs)] (by simp only [go_sem, seval, ai_, aa_]; rfl) ?_ ?_))
 ·first | trivial | simp
 refine .condB (by simp only [go_sem, seval, ai_, aa_]; rfl) (by simp only [go_sem, seval, ai_, aa_]) (fun h5 => ?_) (fun h5 => ?_)
 ·refine .seq (.rgn [] (by simp only [go_sem, seval, ai_, aa_]; rfl) ?_ ?_)
  ·first | trivial | simp
  refine .ret ⟨.inr rfl, ?_⟩
  exact Out.plain (by simp only [Tryz.results145]; rfl) (by simp only [av_, a5_, go_sem, seval, ai_, aa_] <;> (split <;> rfl)) (by simp only [a2_, go_sem, seval, ai_, aa_] <;> (simp at h5; simp [d2_, h5])) (by simp only [go_sem, seval, ai_, aa_])
 ·refine .skip (.seq (.rgn [by_ (sok s = true) (fun h => h4_ s (c2_ h) hs), by_ (sok s = true) (fun h => gz_ (sw' s) (by have := (lq_ (c2_ h)).1; omega) (by have := lk_ (c2_ h); omega))] (by simp only [go_sem, seval, ai_, aa_]; rfl) ?_ ?_))
  ·simp at h5; simp [h5]
  refine .ret ⟨.inr rfl, ?_⟩
  exact Out.plain (by simp only [Tryz.results145]; rfl) (by simp only [av_, a5_, go_sem, seval, ai_, aa_] <;> (split <;> rfl)) (by simp only [a2_, go_sem, seval, ai_, aa_] <;> (simp at h5; simp [d2_, h5])) (by simp only [go_sem, seval, ai_, aa_])
theorem ni_ (s : Sl) : (d2_ s).length ≤ 120 := by
 unfold d2_; split
 ·rename_i h; have := (hp_ h).1; omega
 ·simp
def fz_ : List Str := [[], [32], [49], [115, 97, 121, 32], [40], [120], [63], [58]]
def dT5 (b : Str) (p : Int) : Str × Int :=
 if d2_ (dl5 b p).1 = [] then (d2_ (dl5 b p).1, (dl5 b p).2)
 else if b2_ b (dl5 b p).2 2 = 0 then (d2_ (dl5 b p).1, (dl5 b p).2 + 1)
 else (v2_ b ((dl5 b p).2 + 1) fz_ (d2_ (dl5 b p).1), (dl5 b p).2 + 1 + 1 + 1 + 1)
theorem all_ (b : Str) {p : Int} (hp : 0 ≤ p) (hp2 : p < 10000000) : p ≤ (dT5 b p).2 ∧ (dT5 b p).2 ≤ p + 800 ∧ (dT5 b p).1.length ≤ 300 := by
 obtain ⟨h1, h2, h3⟩ := aa7_ b (p := p) hp (by omega)
 have k1 := ni_ (dl5 b p).1
 unfold dT5
 split
 ·exact ⟨h1, by dsimp only; omega, by dsimp only; omega⟩
 ·split
  ·exact ⟨by dsimp only; omega, by dsimp only; omega, by dsimp only; omega⟩
  ·have := afb_ (b := b) (p := (dl5 b p).2 + 1) (l := fz_) (s := d2_ (dl5 b p).1) 6 (by decide) (by decide) (by omega) (by omega)
   exact ⟨by dsimp only; omega, by dsimp only; omega, by dsimp only; omega⟩
theorem act_ (b : Str) (p : Int) (hb : b.length ≤ 2000) (hp : 0 ≤ p) (hp2 : p < 10000000) (h0 : (((d2_ (dl5 b p).1).length : Int) == 0) = false) : ACall En 144 [.pt 0 2 0 0] [rdB b p] [.s (dT5 b p).1] [rdB b (dT5 b p).2] := by
 obtain ⟨h1, h2, h3⟩ := aa7_ b (p := p) hp (by omega)
 have k1 := ni_ (dl5 b p).1
 have T := j4_ (dl5 b p).1 h3
 have D := t4_ b p hb hp (by omega)
 have hd : dT5 b p = if d2_ (dl5 b p).1 = [] then (d2_ (dl5 b p).1, (dl5 b p).2) else if b2_ b (dl5 b p).2 2 = 0 then (d2_ (dl5 b p).1, (dl5 b p).2 + 1) else (v2_ b ((dl5 b p).2 + 1) fz_ (d2_ (dl5 b p).1), (dl5 b p).2 + 1 + 1 + 1 + 1) := rfl
 have hne : (((d2_ (dl5 b p).1).length : Int) == 0) = decide (d2_ (dl5 b p).1 = []) := by rw [Bool.eq_iff_iff]; simp
 generalize (dl5 b p).1 = x at *
 generalize (dl5 b p).2 = q at *
 generalize d2_ x = s at *
 refine ak_ (fn := Tryz.f144) [0] Tryz.func144 rfl rfl (by simp) fun C => ?_
 rw [aw_]
 simp only [Tryz.ntmps144, T7_, List.length_nil, Nat.reduceAdd, Nat.reduceSub, List.replicate_succ, List.replicate_zero, List.cons_append, List.nil_append, bk_]
 refine .seq (.rgn [] (by simp only [go_sem, seval, aj_, ao_, ai_, h0]; rfl) ?_ ?_)
 ·(first | trivial | (simp; done) | (obtain ⟨q1, q2, q3, q4, q5, q6, q7⟩ := i6_ (b := b) (p := q + 1) h0 (by omega) (by omega) (by omega); have q8 := g2_ (b := b) (p := q + 1 + 1) (l := fz_) (by decide) (by omega) (by omega) 6 (by decide); rw [q3]; refine ⟨⟨⟨⟨⟨⟨q1, q2, Int.le_refl _, by simp⟩, by simp [fz_, bl_, ler, les, leV], by simp⟩, by omega⟩, by simp⟩, q4, q5, Int.le_refl _⟩, ?_⟩; simp only [T2_, List.length_drop, List.length_take] at q7 ⊢; omega))
 refine .seq (.rgn [br_ [0] [] D, a3_ T] (by simp only [go_sem, seval, aj_, ao_, ai_, h0]; rfl) ?_ ?_)
 ·(first | trivial | (simp; done) | (obtain ⟨q1, q2, q3, q4, q5, q6, q7⟩ := i6_ (b := b) (p := q + 1) h0 (by omega) (by omega) (by omega); have q8 := g2_ (b := b) (p := q + 1 + 1) (l := fz_) (by decide) (by omega) (by omega) 6 (by decide); rw [q3]; refine ⟨⟨⟨⟨⟨⟨q1, q2, Int.le_refl _, by simp⟩, by simp [fz_, bl_, ler, les, leV], by simp⟩, by omega⟩, by simp⟩, q4, q5, Int.le_refl _⟩, ?_⟩; simp only [T2_, List.length_drop, List.length_take] at q7 ⊢; omega))
 refine .seq (.seq (.rgn [br_ [0] [] (eb_ b q 2 hb (by omega) (by omega))] (by simp only [go_sem, seval, aj_, ao_, ai_, h0]; rfl) ?_ ?_))
 ·(first | trivial | (simp; done) | (obtain ⟨q1, q2, q3, q4, q5, q6, q7⟩ := i6_ (b := b) (p := q + 1) h0 (by omega) (by omega) (by omega); have q8 := g2_ (b := b) (p := q + 1 + 1) (l := fz_) (by decide) (by omega) (by omega) 6 (by decide); rw [q3]; refine ⟨⟨⟨⟨⟨⟨q1, q2, Int.le_refl _, by simp⟩, by simp [fz_, bl_, ler, les, leV], by simp⟩, by omega⟩, by simp⟩, q4, q5, Int.le_refl _⟩, ?_⟩; simp only [T2_, List.length_drop, List.length_take] at q7 ⊢; omega))
 refine .condB (by simp only [go_sem, seval, aj_, ao_, ai_, h0]; rfl) (by simp only [go_sem, seval, aj_, ao_, ai_, h0]) (fun h15 => ?_) (fun h15 => ?_)
 ·refine .seq (.rgn [] (by simp only [go_sem, seval, aj_, ao_, ai_, h0]; rfl) ?_ ?_)
  ·(first | trivial | (simp; done) | (obtain ⟨q1, q2, q3, q4, q5, q6, q7⟩ := i6_ (b := b) (p := q + 1) h0 (by omega) (by omega) (by omega); have q8 := g2_ (b := b) (p := q + 1 + 1) (l := fz_) (by decide) (by omega) (by omega) 6 (by decide); rw [q3]; refine ⟨⟨⟨⟨⟨⟨q1, q2, Int.le_refl _, by simp⟩, by simp [fz_, bl_, ler, les, leV], by simp⟩, by omega⟩, by simp⟩, q4, q5, Int.le_refl _⟩, ?_⟩; simp only [T2_, List.length_drop, List.length_take] at q7 ⊢; omega))
  refine .ret ⟨.inr rfl, ?_⟩
  exact Out.mem' (by simp only [Tryz.results144]; rfl) (by simp only [av_, a5_, go_sem, seval, aj_, ao_, ai_, h0]) (by simp only [a2_, rns, rn, go_sem, seval, aj_, ao_, ai_, h0] <;> (rw [h0] at hne; rw [hd, if_neg (of_decide_eq_false hne.symm), if_pos (by simpa using h15)])) (by simp) rfl (by decide) (by simp only [go_sem, seval, aj_, ao_, ai_, h0]) (by simp only [ao_, go_sem, seval, aj_, ao_, ai_, h0]) (by simp only [aj_, go_sem, seval, aj_, ao_, ai_, h0] <;> (rw [h0] at hne; rw [hd, if_neg (of_decide_eq_false hne.symm), if_pos (by simpa using h15)]))
 ·refine .skip (.seq (.rgn [br_ [0] [] (eb_ b (q + 1) s.length hb (by omega) (by omega))] (by simp only [go_sem, seval, aj_, ao_, ai_, h0]; rfl) ?_ ?_))
  ·(first | trivial | (simp; done) | (obtain ⟨q1, q2, q3, q4, q5, q6, q7⟩ := i6_ (b := b) (p := q + 1) h0 (by omega) (by omega) (by omega); have q8 := g2_ (b := b) (p := q + 1 + 1) (l := fz_) (by decide) (by omega) (by omega) 6 (by decide); rw [q3]; refine ⟨⟨⟨⟨⟨⟨q1, q2, Int.le_refl _, by simp⟩, by simp [fz_, bl_, ler, les, leV], by simp⟩, by omega⟩, by simp⟩, q4, q5, Int.le_refl _⟩, ?_⟩; simp only [T2_, List.length_drop, List.length_take] at q7 ⊢; omega))
  refine .seq (.rgnD [br_ [0] [] (qb_ b (q + 1 + 1) fz_ (by decide) hb (by omega) (by omega)), br_ [0] [] (eb_ b (q + 1 + 1 + 1) 2 hb (by omega) (by omega))] enM (by simp only [go_sem, seval, aj_, ao_, ai_, h0]; rfl) (by rfl) ?_ ?_)
  ·(first | trivial | (simp; done) | (obtain ⟨q1, q2, q3, q4, q5, q6, q7⟩ := i6_ (b := b) (p := q + 1) h0 (by omega) (by omega) (by omega); have q8 := g2_ (b := b) (p := q + 1 + 1) (l := fz_) (by decide) (by omega) (by omega) 6 (by decide); rw [q3]; refine ⟨⟨⟨⟨⟨⟨q1, q2, Int.le_refl _, by simp⟩, by simp [fz_, bl_, ler, les, leV], by simp⟩, by omega⟩, by simp⟩, q4, q5, Int.le_refl _⟩, ?_⟩; simp only [T2_, List.length_drop, List.length_take] at q7 ⊢; omega))
  refine .ret ⟨.inr rfl, ?_⟩
  exact Out.mem' (by simp only [Tryz.results144]; rfl) (by simp only [av_, a5_, go_sem, seval, aj_, ao_, ai_, h0]) (by simp only [a2_, rns, rn, go_sem, seval, aj_, ao_, ai_, h0] <;> (rw [h0] at hne; rw [hd, if_neg (of_decide_eq_false hne.symm), if_neg (by simpa using h15)]; dsimp only; rw [v2_, (i6_ (b := b) (p := q + 1) h0 (by omega) (by omega) (by omega)).2.2.1, (i6_ (b := b) (p := q + 1) h0 (by omega) (by omega) (by omega)).2.2.2.2.2.1, List.take_length])) (by simp) rfl (by decide) (by simp only [go_sem, seval, aj_, ao_, ai_, h0]) (by simp only [ao_, go_sem, seval, aj_, ao_, ai_, h0]) (by simp only [aj_, go_sem, seval, aj_, ao_, ai_, h0] <;> (rw [h0] at hne; rw [hd, if_neg (of_decide_eq_false hne.symm), if_neg (by simpa using h15)]))
theorem ae5_ (b : Str) (p : Int) (hb : b.length ≤ 2000) (hp : 0 ≤ p) (hp2 : p < 10000000) (h0 : (((d2_ (dl5 b p).1).length : Int) == 0) = true) : ACall En 144 [.pt 0 2 0 0] [rdB b p] [.s (dT5 b p).1] [rdB b (dT5 b p).2] := by
 obtain ⟨h1, h2, h3⟩ := aa7_ b (p := p) hp (by omega)
 have k1 := ni_ (dl5 b p).1
 have T := j4_ (dl5 b p).1 h3
 have D := t4_ b p hb hp (by omega)
 have hd : dT5 b p = if d2_ (dl5 b p).1 = [] then (d2_ (dl5 b p).1, (dl5 b p).2) else if b2_ b (dl5 b p).2 2 = 0 then (d2_ (dl5 b p).1, (dl5 b p).2 + 1) else (v2_ b ((dl5 b p).2 + 1) fz_ (d2_ (dl5 b p).1), (dl5 b p).2 + 1 + 1 + 1 + 1) := rfl
 have hne : (((d2_ (dl5 b p).1).length : Int) == 0) = decide (d2_ (dl5 b p).1 = []) := by rw [Bool.eq_iff_iff]; simp
 generalize (dl5 b p).1 = x at *
 generalize (dl5 b p).2 = q at *
 generalize d2_ x = s at *
 refine ak_ (fn := Tryz.f144) [0] Tryz.func144 rfl rfl (by simp) fun C => ?_
 rw [aw_]
 simp only [Tryz.ntmps144, T7_, List.length_nil, Nat.reduceAdd, Nat.reduceSub, List.replicate_succ, List.replicate_zero, List.cons_append, List.nil_append, bk_]
 refine .seq (.rgn [] (by simp only [go_sem, seval, aj_, ao_, ai_, h0]; rfl) ?_ ?_)
 ·first | trivial | simp
 refine .seq (.rgn [br_ [0] [] D, a3_ T] (by simp only [go_sem, seval, aj_, ao_, ai_, h0]; rfl) ?_ ?_)
 ·first | trivial | simp
 refine .seq (.seq (.rgn [br_ [0] [] (eb_ b q 2 hb (by omega) (by omega))] (by simp only [go_sem, seval, aj_, ao_, ai_, h0]; rfl) ?_ ?_))
 ·first | trivial | simp
 refine .condB (by simp only [go_sem, seval, aj_, ao_, ai_, h0]; rfl) (by simp only [go_sem, seval, aj_, ao_, ai_, h0]) (fun h15 => ?_) (fun h15 => ?_)
 ·refine .seq (.rgn [] (by simp only [go_sem, seval, aj_, ao_, ai_, h0]; rfl) ?_ ?_)
  ·first | trivial | simp
  refine .ret ⟨.inr rfl, ?_⟩
  exact Out.mem' (by simp only [Tryz.results144]; rfl) (by simp only [av_, a5_, go_sem, seval, aj_, ao_, ai_, h0]) (by simp only [a2_, rns, rn, go_sem, seval, aj_, ao_, ai_, h0] <;> (rw [h0] at hne; rw [hd, if_pos (of_decide_eq_true hne.symm)])) (by simp) rfl (by decide) (by simp only [go_sem, seval, aj_, ao_, ai_, h0]) (by simp only [ao_, go_sem, seval, aj_, ao_, ai_, h0]) (by simp only [aj_, go_sem, seval, aj_, ao_, ai_, h0] <;> (rw [h0] at hne; rw [hd, if_pos (of_decide_eq_true hne.symm)]))
 ·simp at h15
theorem afj_ (b : Str) (p : Int) (hb : b.length ≤ 2000) (hp : 0 ≤ p) (hp2 : p < 10000000) : ACall En 144 [.pt 0 2 0 0] [rdB b p] [.s (dT5 b p).1] [rdB b (dT5 b p).2] := by
 cases h0 : (((d2_ (dl5 b p).1).length : Int) == 0) with
 | true => exact ae5_ b p hb hp hp2 h0
 | false => exact act_ b p hb hp hp2 h0
def dTo (b : Str) (p : Int) : Str × Int := if b2_ b p 5 = 0 then dT5 b (p + 1) else (d2_ (b7_ b (p + 1)).1, (b7_ b (p + 1)).2)
theorem ah5_ (b : Str) {p : Int} (hp : 0 ≤ p) (hp2 : p < 5000000) : p ≤ (dTo b p).2 ∧ (dTo b p).2 ≤ p + 1000 ∧ (dTo b p).1.length ≤ 300 := by
 obtain ⟨h1, h2, h3⟩ := all_ b (p := p + 1) (by omega) (by omega)
 obtain ⟨q1, q2, _⟩ := k6_ b (p := p + 1) (by omega) (by omega)
 have k1 := ni_ (b7_ b (p + 1)).1
 unfold dTo
 split
 ·exact ⟨by omega, by omega, h3⟩
 ·exact ⟨by dsimp only; omega, by dsimp only; omega, by dsimp only; omega⟩
theorem zy_ (b : Str) (p : Int) (hb : b.length ≤ 2000) (hp : 0 ≤ p) (hp2 : p < 5000000) : ACall En 89 [.pt 0 2 0 0] [rdB b p] [.s (dTo b p).1] [rdB b (dTo b p).2] := by
 have D := afj_ b (p + 1) hb (by omega) (by omega)
 have D2 := us_ b (p + 1) hb (by omega) (by omega)
 obtain ⟨q1, q2, q3, _⟩ := k6_ b (p := p + 1) (by omega) (by omega)
 have T := j4_ (b7_ b (p + 1)).1 q3
 have hd : dTo b p = if b2_ b p 5 = 0 then dT5 b (p + 1) else (d2_ (b7_ b (p + 1)).1, (b7_ b (p + 1)).2) := rfl
 generalize dT5 b (p + 1) = u at *
 generalize b7_ b (p + 1) = v at *
 refine ak_ (fn := Tryz.f89) [0] Tryz.func89 rfl rfl (by simp) fun C => ?_
 rw [aw_]
 simp only [Tryz.ntmps89, T7_, List.length_nil, Nat.reduceAdd, Nat.reduceSub, List.replicate_succ, List.replicate_zero, List.cons_append, List.nil_append, bk_]
 refine .seq (.rgn [] (by simp only [go_sem, seval, aj_, ao_, ai_]; rfl) ?_ ?_)
 ·first | trivial | simp
 refine .seq (.seq (.rgn [br_ [0] [] (eb_ b p 5 hb hp (by omega))] (by simp only [go_sem, seval, aj_, ao_, ai_]; rfl) ?_ ?_))
 ·first | trivial | simp
 refine .condB (by simp only [go_sem, seval, aj_, ao_, ai_]; rfl) (by simp only [go_sem, seval, aj_, ao_, ai_]) (fun h5 => ?_) (fun h5 => ?_)
 ·refine .seq (.rgn [br_ [0] [] D] (by simp only [go_sem, seval, aj_, ao_, ai_]; rfl) ?_ ?_)
  ·first | trivial | simp
  refine .ret ⟨.inr rfl, ?_⟩
  exact Out.mem' (by simp only [Tryz.results89]; rfl) (by simp only [av_, a5_, go_sem, seval, aj_, ao_, ai_]) (by simp only [a2_, rns, rn, go_sem, seval, aj_, ao_, ai_] <;> (rw [hd, if_pos (by simpa using h5)])) (by simp) rfl (by decide) (by simp only [go_sem, seval, aj_, ao_, ai_]) (by simp only [ao_, go_sem, seval, aj_, ao_, ai_]) (by simp only [aj_, go_sem, seval, aj_, ao_, ai_] <;> (rw [hd, if_pos (by simpa using h5)]))
 ·refine .skip (.seq (.rgn [br_ [0] [] D2, a3_ T] (by simp only [go_sem, seval, aj_, ao_, ai_]; rfl) ?_ ?_))
  ·first | trivial | simp
  refine .ret ⟨.inr rfl, ?_⟩
  exact Out.mem' (by simp only [Tryz.results89]; rfl) (by simp only [av_, a5_, go_sem, seval, aj_, ao_, ai_]) (by simp only [a2_, rns, rn, go_sem, seval, aj_, ao_, ai_] <;> (rw [hd, if_neg (by simpa using h5)])) (by simp) rfl (by decide) (by simp only [go_sem, seval, aj_, ao_, ai_]) (by simp only [ao_, go_sem, seval, aj_, ao_, ai_]) (by simp only [aj_, go_sem, seval, aj_, ao_, ai_] <;> (rw [hd, if_neg (by simpa using h5)]))
end
section
set_option maxRecDepth 100000
set_option maxHeartbeats 4000000
theorem ag4_ {s : Str} (h : lnOk s) : jo_ s = true := by
 have h1 := q5_ (w := 0) h.1 (by have := h.2; omega)
 have h2 := h.2
 unfold jo_ tOk
 rw [h1, decide_eq_true (by omega)]
 have : kz_ s = false := by unfold kz_; rw [Bool.eq_false_iff]; intro q; exact acy_ h (by simpa using q)
 rw [this]; rfl
theorem aa1_ {s : Str} (h : (ck_ s).isSome = true) : jo_ s = true := by
 cases hx : ck_ s with
 | none => rw [hx] at h; cases h
 | some x =>
  obtain ⟨h1, h2⟩ := h8_.1 hx
  rw [← h2]; exact ag4_ (wx_ h1)
def gy_ (n : Nat) : Str := List.replicate n 97
theorem mu_ (a b : Nat) : gy_ a ++ gy_ b = gy_ (a + b) := by unfold gy_; rw [List.replicate_append_replicate]
theorem ez_ (n : Nat) : (gy_ n).length = n := by simp [gy_]
theorem v4_ {o a n N : Nat} (h : o + a * n = N) : (o + if n % 2 = 1 then a else 0) + 2 * a * (n / 2) = N := by
 have e := Nat.div_add_mod n 2
 have e2 : a * n = 2 * a * (n / 2) + a * (n % 2) := by
  conv => lhs; rw [← e]
  rw [Nat.mul_add, ← Nat.mul_assoc, Nat.mul_comm a 2]
 rcases Nat.mod_two_eq_zero_or_one n with q | q
 ·rw [q] at e2 ⊢; simp at e2 ⊢; omega
 ·rw [q] at e2 ⊢; simp at e2 ⊢; omega
theorem er_ {o a n N : Nat} (h : o + a * n = N) (hn : 0 < n) : a ≤ N := by
 have := Nat.le_mul_of_pos_right a hn; omega
theorem zl_ (N : Nat) (hN : N ≤ 100000) : ACall En 90 [.s [97], .i .i64 N] [] [.s (gy_ N)] [] := by
 have hm : ∀ n : Nat, (n : Int).tmod 2 = ((n % 2 : Nat) : Int) := fun n => by rw [Int.tmod_eq_emod_of_nonneg (by omega)]; rfl
 have hd : ∀ n : Nat, (n : Int).tdiv 2 = ((n / 2 : Nat) : Int) := fun n => by rw [Int.tdiv_eq_ediv_of_nonneg (by omega)]; rfl
 refine ak_ (fn := Tryz.f90) [] Tryz.func90 rfl rfl (by simp) fun C => ?_
 rw [aw_]
 simp only [Tryz.ntmps90, T7_, List.length_nil, Nat.reduceAdd, Nat.reduceSub, List.replicate_succ, List.replicate_zero, List.cons_append, List.nil_append, bk_]
 refine .seq (.rgn [] (by simp only [go_sem, seval]; rfl) ?_ ?_)
 ·(first | trivial | (simp; done) | (have q2 := er_ hI.1 (by simpa using h7); simp only [ez_]; omega))
 refine .seq (.rgn [] (by simp only [go_sem, seval]; rfl) ?_ ?_)
 ·(first | trivial | (simp; done) | (have q2 := er_ hI.1 (by simpa using h7); simp only [ez_]; omega))
 refine .seq (.block (.loopK (fun q : Nat × Nat × Nat => ⟨[.s (gy_ q.2.1), .i .i64 q.1, .no, .no, .no, .s (gy_ q.2.2), .no, .no, .no, .no, .no, .no, .no, .no, .no, .no, .no, .no, .no, .no], be_ [], us []⟩) (fun q : Nat × Nat × Nat => q.2.2 + q.2.1 * q.1 = N ∧ q.2.1 ≤ 2 * N + 1 ∧ q.1 ≤ N) (fun q : Nat × Nat × Nat => q.1) ((N, 1, 0)) ?_ ?_ (fun q hI => ?_)))
 ·exact ⟨by simp, by dsimp only; omega, Nat.le_refl _⟩
 ·exact Can.weak (Weak.lit (by simp only [go_sem, seval, as_, leV, aq_, ar_, V.inn, us, T9_, Ta_] <;> ((try simp [gy_]))) (by simp only [go_sem, seval, as_, leV, aq_, ar_, V.inn, us, T9_, Ta_]) (by simp only [go_sem, seval, as_, leV, aq_, ar_, V.inn, us, T9_, Ta_]))
 refine .seq (.seq (.rgn [] (by simp only [go_sem, seval]; rfl) ?_ ?_))
 ·(first | trivial | (simp; done) | (have q2 := er_ hI.1 (by simpa using h7); simp only [ez_]; omega))
 refine .condB (by simp only [go_sem, seval]; rfl) (by simp only [go_sem, seval]) (fun h7 => ?_) (fun h7 => ?_)
 ·refine .skip (.block (.seqJ (fun p : Nat => ⟨[.s (gy_ q.2.1), .i .i64 q.1, .no, .no, .no, .s (gy_ p), .no, .no, .no, .no, .no, .no, .no, .no, .no, .no, .no, .no, .no, .no], be_ [], us []⟩) (fun p : Nat => p = q.2.2 + (if q.1 % 2 = 1 then q.2.1 else 0)) ?_ (fun p hJ => ?_)))
  ·refine .seq (.rgn [] (by simp only [go_sem, seval]; rfl) ?_ ?_)
   ·(first | trivial | (simp; done) | (have q2 := er_ hI.1 (by simpa using h7); simp only [ez_]; omega))
   refine .condB (by simp only [go_sem, seval]; rfl) (by simp only [go_sem, seval]) (fun h10 => ?_) (fun h10 => ?_)
   ·refine .rgn [] (by simp only [go_sem, seval]; rfl) ?_ ?_
    ·(first | trivial | (simp; done) | (have q2 := er_ hI.1 (by simpa using h7); simp only [ez_]; omega))
    refine Exists.intro (q.2.2 + q.2.1) ⟨?_, ?_⟩
    ·rw [hm] at h10; first | (rw [if_pos (by rw [beq_iff_eq] at h10; omega)]) | (rw [if_neg (by rw [beq_eq_false_iff_ne] at h10; omega)]; rfl)
    exact Can.weak (Weak.lit (by simp only [go_sem, seval, as_, leV, aq_, ar_, V.inn, us, T9_, Ta_] <;> (first | rfl | rw [mu_])) (by simp only [go_sem, seval, as_, leV, aq_, ar_, V.inn, us, T9_, Ta_]) (by simp only [go_sem, seval, as_, leV, aq_, ar_, V.inn, us, T9_, Ta_]))
   ·refine .skip ?_
    refine Exists.intro (q.2.2) ⟨?_, ?_⟩
    ·rw [hm] at h10; first | (rw [if_pos (by rw [beq_iff_eq] at h10; omega)]) | (rw [if_neg (by rw [beq_eq_false_iff_ne] at h10; omega)]; rfl)
    exact Can.weak (Weak.lit (by simp only [go_sem, seval, as_, leV, aq_, ar_, V.inn, us, T9_, Ta_] <;> (first | rfl | rw [mu_])) (by simp only [go_sem, seval, as_, leV, aq_, ar_, V.inn, us, T9_, Ta_]) (by simp only [go_sem, seval, as_, leV, aq_, ar_, V.inn, us, T9_, Ta_]))
  refine .seq (.rgn [] (by simp only [go_sem, seval]; rfl) ?_ ?_)
  ·(first | trivial | (simp; done) | (have q2 := er_ hI.1 (by simpa using h7); simp only [ez_]; omega))
  refine .rgn [] (by simp only [go_sem, seval]; rfl) ?_ ?_
  ·(first | trivial | (simp; done) | (have q2 := er_ hI.1 (by simpa using h7); simp only [ez_]; omega))
  refine Exists.intro ((q.1 / 2, 2 * q.2.1, p)) ⟨?_, ?_, ?_⟩
  ·have q2 := er_ hI.1 (by simpa using h7); exact ⟨by dsimp only; rw [hJ]; exact v4_ hI.1, by dsimp only; omega, by dsimp only; omega⟩
  ·simp at h7; dsimp only; omega
  exact Can.weak (Weak.lit (by simp only [go_sem, seval, as_, leV, aq_, ar_, V.inn, us, T9_, Ta_] <;> (have q2 := er_ hI.1 (by simpa using h7); exact ⟨by rw [mu_]; congr 1; omega, by rw [hd, bg_ (by omega) (by have := hI.2.2; omega)]⟩)) (by simp only [go_sem, seval, as_, leV, aq_, ar_, V.inn, us, T9_, Ta_]) (by simp only [go_sem, seval, as_, leV, aq_, ar_, V.inn, us, T9_, Ta_]))
 ·refine .exit (.seq (.rgn [] (by simp only [go_sem, seval]; rfl) ?_ ?_))
  ·(first | trivial | (simp; done) | (have q2 := er_ hI.1 (by simpa using h7); simp only [ez_]; omega))
  refine .ret ⟨.inr rfl, ?_⟩
  exact Out.plain (by simp only [Tryz.results90]; rfl) (by simp only [av_, a5_, go_sem, seval] <;> (split <;> rfl)) (by simp only [a2_, go_sem, seval] <;> (have e := hI.1; have q1 : q.1 = 0 := (by simpa using h7); rw [q1] at e; simp at e; rw [e])) (by simp only [go_sem, seval])
def dPg (b : Str) : Str :=
 if b2_ b (dTo b 0).2 20 = 0 then (dTo b 0).1 ++ [10]
 else if b2_ b (dTo b 0).2 20 = 1 then gy_ (120 + b2_ b ((dTo b 0).2 + 1) 2).toNat
 else (dTo b 0).1
theorem afx_ (b : Str) : (dPg b).length ≤ 1000 := by
 obtain ⟨h1, h2, h3⟩ := ah5_ b (p := 0) (by decide) (by decide)
 have := eq_ b (p := (dTo b 0).2 + 1) (n := 2) (by omega) (by omega) (by decide)
 unfold dPg
 split
 ·simp; omega
 ·split
  ·simp [gy_]; omega
  ·omega
theorem sh_ (c : Str) : ACall En 37 [.sl false (byR c)] [] [.s (dPg (c.take 2000))] [] := by
 have hb : (c.take 2000).length ≤ 2000 := by simp; omega
 have hO := zo_ c
 generalize hc : c.take 2000 = b at *
 obtain ⟨h1, h2, h3⟩ := ah5_ b (p := 0) (by decide) (by decide)
 have D := zy_ b 0 hb (by decide) (by decide)
 have hd : dPg b = if b2_ b (dTo b 0).2 20 = 0 then (dTo b 0).1 ++ [10] else if b2_ b (dTo b 0).2 20 = 1 then gy_ (120 + b2_ b ((dTo b 0).2 + 1) 2).toNat else (dTo b 0).1 := rfl
 have hp := eq_ b (p := (dTo b 0).2 + 1) (n := 2) (by omega) (by omega) (by decide)
 generalize dTo b 0 = u at *
 have hw : IntKind.i64.wrap (120 + b2_ b (u.2 + 1) 2) = (((120 + b2_ b (u.2 + 1) 2).toNat : Nat) : Int) := by rw [bg_ (by omega) (by omega)]; omega
 have M := zl_ (120 + b2_ b (u.2 + 1) 2).toNat (by omega)
 refine ak_ (fn := Tryz.f37) [] Tryz.func37 rfl rfl (by simp) fun C => ?_
 rw [aw_]
 simp only [Tryz.ntmps37, T7_, List.length_nil, Nat.reduceAdd, Nat.reduceSub, List.replicate_succ, List.replicate_zero, List.cons_append, List.nil_append, bk_]
 refine .seq (.rgn [] (by simp only [go_sem, seval, aj_, ao_, hw]; rfl) ?_ ?_)
 ·(first | trivial | (simp; done) | omega)
 refine .seq (.rgn [br_ [] [16] hO] (by simp only [go_sem, seval, aj_, ao_, hw]; rfl) ?_ ?_)
 ·(first | trivial | (simp; done) | omega)
 refine .seq (.rgn [br_ [16] [] D] (by simp only [go_sem, seval, aj_, ao_, hw]; rfl) ?_ ?_)
 ·(first | trivial | (simp; done) | omega)
 refine .seq (.seq (.rgn [br_ [16] [] (eb_ b u.2 20 hb (by omega) (by omega))] (by simp only [go_sem, seval, aj_, ao_, hw]; rfl) ?_ ?_))
 ·(first | trivial | (simp; done) | omega)
 refine .block (.seq (.rgn [] (by simp only [go_sem, seval, aj_, ao_, hw]; rfl) ?_ ?_))
 ·(first | trivial | (simp; done) | omega)
 refine .condB (by simp only [go_sem, seval, aj_, ao_, hw]; rfl) (by simp only [go_sem, seval, aj_, ao_, hw]) (fun h11 => ?_) (fun h11 => ?_)
 ·refine .seq (.rgn [] (by simp only [go_sem, seval, aj_, ao_, hw]; rfl) ?_ ?_)
  ·(first | trivial | (simp; done) | omega)
  refine .ret ⟨.inr rfl, ?_⟩
  exact Out.plain (by simp only [Tryz.results37]; rfl) (by simp only [av_, a5_, go_sem, seval, aj_, ao_, hw] <;> (split <;> rfl)) (by simp only [a2_, go_sem, seval, aj_, ao_, hw] <;> (rw [hd, if_pos (by simpa using h11)])) (by simp only [go_sem, seval, aj_, ao_, hw])
 ·refine .seq (.rgn [] (by simp only [go_sem, seval, aj_, ao_, hw]; rfl) ?_ ?_)
  ·(first | trivial | (simp; done) | omega)
  refine .condB (by simp only [go_sem, seval, aj_, ao_, hw]; rfl) (by simp only [go_sem, seval, aj_, ao_, hw]) (fun h15 => ?_) (fun h15 => ?_)
  ·refine .seq (.rgn [br_ [16] [] (eb_ b (u.2 + 1) 2 hb (by omega) (by omega)), a3_ M] (by simp only [go_sem, seval, aj_, ao_, hw]; rfl) ?_ ?_)
   ·(first | trivial | (simp; done) | omega)
   refine .ret ⟨.inr rfl, ?_⟩
   exact Out.plain (by simp only [Tryz.results37]; rfl) (by simp only [av_, a5_, go_sem, seval, aj_, ao_, hw] <;> (split <;> rfl)) (by simp only [a2_, go_sem, seval, aj_, ao_, hw] <;> (rw [hd, if_neg (by simpa using h11), if_pos (by simpa using h15)])) (by simp only [go_sem, seval, aj_, ao_, hw])
  ·refine .skip (.seq (.rgn [] (by simp only [go_sem, seval, aj_, ao_, hw]; rfl) ?_ ?_))
   ·(first | trivial | (simp; done) | omega)
   refine .ret ⟨.inr rfl, ?_⟩
   exact Out.plain (by simp only [Tryz.results37]; rfl) (by simp only [av_, a5_, go_sem, seval, aj_, ao_, hw] <;> (split <;> rfl)) (by simp only [a2_, go_sem, seval, aj_, ao_, hw] <;> (rw [hd, if_neg (by simpa using h11), if_neg (by simpa using h15)])) (by simp only [go_sem, seval, aj_, ao_, hw])
end
section
set_option maxRecDepth 100000
set_option maxHeartbeats 4000000
theorem ws_ {p q : Pg} : (p = q) ↔ (p.line = q.line ∧ p.good = q.good ∧ p.text = q.text ∧ p.frm = q.frm) := by
 constructor
 ·rintro rfl; exact ⟨rfl, rfl, rfl, rfl⟩
 ·intro h; obtain ⟨a, b, c, d⟩ := p; obtain ⟨a', b', c', d'⟩ := q; simp_all
def pgO (l : Nat) (p : Pg) : List V := [.s p.line, .b p.good, .s p.text, .ow l 1 0 p.frm.length]
theorem bb_ (l : Nat) (p : Pg) : pgO l p = [.s p.line, .b p.good, .s p.text, .ow l 1 0 p.frm.length] := rfl
theorem wf_ (s : Str) (hs : s.length ≤ 281474976710656) : ACall En 33 [.s s] [] [.ag (pgO 0 (fx_ s))] [⟨3, 1, inR (fx_ s).frm⟩] := by
 have X1 := kf_ s
 have X2 := @lf_ s
 have P1 := @n5_ s
 have P2 := @i1_ s
 have P3 := @ln_ s
 have R := is_ s hs
 generalize (ck_ s).getD S0 = x at *
 generalize (ck_ s).isSome = ok at *
 refine ak_ (fn := Tryz.f33) [38] Tryz.func33 rfl rfl (by simp) fun C => ?_
 rw [aw_]
 simp only [Tryz.ntmps33, T7_, List.length_nil, Nat.reduceAdd, Nat.reduceSub, List.replicate_succ, List.replicate_zero, List.cons_append, List.nil_append, bk_]
 refine .seq (.rgn [] (by simp only [go_sem, seval, ai_, ab_, ad_, bb_]; rfl) ?_ ?_)
 ·(first | trivial | (simp; done) | (simpa using h17) | exact ⟨by simpa using h17, rfl⟩)
 refine .seq (.seq (.rgn [a3_ (of_ s hs)] (by simp only [go_sem, seval, ai_, ab_, ad_, bb_]; rfl) ?_ ?_))
 ·(first | trivial | (simp; done) | (simpa using h17) | exact ⟨by simpa using h17, rfl⟩)
 refine .condB (by simp only [go_sem, seval, ai_, ab_, ad_, bb_]; rfl) (by simp only [go_sem, seval, ai_, ab_, ad_, bb_]) (fun h9 => ?_) (fun h9 => ?_)
 ·refine .seq (.rgn [] (by simp only [go_sem, seval, ai_, ab_, ad_, bb_]; rfl) ?_ ?_)
  ·(first | trivial | (simp; done) | (simpa using h17) | exact ⟨by simpa using h17, rfl⟩)
  refine .can (Can.ownCell 12 3 38 3 1 (by simp only [go_sem, seval, ai_, ab_, ad_, bb_] <;> rfl) (by simp only [go_sem, seval, ai_, ab_, ad_, bb_] <;> rfl) (by simp only [go_sem, seval, ai_, ab_, ad_, bb_] <;> rfl) (by simp only [go_sem, seval, ai_, ab_, ad_, bb_] <;> rfl) (by simp only [go_sem, seval, ai_, ab_, ad_, bb_] <;> rfl)) ?_
  refine .ret ⟨.inr rfl, ?_⟩
  exact Out.mem' (by simp only [Tryz.results33]; rfl) (by simp only [av_, a5_, go_sem, seval, ai_, ab_, ad_, bb_]) (by simp only [a2_, rns, rn, go_sem, seval, ai_, ab_, ad_, bb_] <;> (rw [P1 (by simpa using h9)]; simp [Pg0])) (by simp) rfl (by decide) (by simp only [go_sem, seval, ai_, ab_, ad_, bb_]) (by simp only [ao_, go_sem, seval, ai_, ab_, ad_, bb_]) (by simp only [aj_, go_sem, seval, ai_, ab_, ad_, bb_] <;> (rw [P1 (by simpa using h9)]; simp [Pg0, inR]))
 ·refine .skip (.seq (.rgn [a3_ R] (by simp only [go_sem, seval, ai_, ab_, ad_, bb_]; rfl) ?_ ?_))
  ·(first | trivial | (simp; done) | (simpa using h17) | exact ⟨by simpa using h17, rfl⟩)
  refine .seq (.seq (.rgn [] (by simp only [go_sem, seval, ai_, ab_, ad_, bb_]; rfl) ?_ ?_))
  ·(first | trivial | (simp; done) | (simpa using h17) | exact ⟨by simpa using h17, rfl⟩)
  refine .condB (by simp only [go_sem, seval, ai_, ab_, ad_, bb_]; rfl) (by simp only [go_sem, seval, ai_, ab_, ad_, bb_]) (fun h17 => ?_) (fun h17 => ?_)
  ·refine .seq (.rgn [] (by simp only [go_sem, seval, ai_, ab_, ad_, bb_]; rfl) ?_ ?_)
   ·(first | trivial | (simp; done) | (simpa using h17) | exact ⟨by simpa using h17, rfl⟩)
   refine .can (Can.ownCell 12 3 38 3 1 (by simp only [go_sem, seval, ai_, ab_, ad_, bb_] <;> rfl) (by simp only [go_sem, seval, ai_, ab_, ad_, bb_] <;> rfl) (by simp only [go_sem, seval, ai_, ab_, ad_, bb_] <;> rfl) (by simp only [go_sem, seval, ai_, ab_, ad_, bb_] <;> rfl) (by simp only [go_sem, seval, ai_, ab_, ad_, bb_] <;> rfl)) ?_
   refine .ret ⟨.inr rfl, ?_⟩
   exact Out.mem' (by simp only [Tryz.results33]; rfl) (by simp only [av_, a5_, go_sem, seval, ai_, ab_, ad_, bb_]) (by simp only [a2_, rns, rn, go_sem, seval, ai_, ab_, ad_, bb_] <;> (rw [P2 (by simpa using h9) (by simpa using h17)]; simp)) (by simp) rfl (by decide) (by simp only [go_sem, seval, ai_, ab_, ad_, bb_]) (by simp only [ao_, go_sem, seval, ai_, ab_, ad_, bb_]) (by simp only [aj_, go_sem, seval, ai_, ab_, ad_, bb_] <;> (rw [P2 (by simpa using h9) (by simpa using h17)]; simp [inR]))
  ·refine .skip (.seq (.rgn [by_ (ok = true) (fun h => ady_ x (X2 h) X1)] (by simp only [go_sem, seval, ai_, ab_, ad_, bb_]; rfl) ?_ ?_))
   ·(first | trivial | (simp; done) | (simpa using h17) | exact ⟨by simpa using h17, rfl⟩)
   refine .seq (.rgn [s1_ [] [38] (ok = true) (fun h => uw_ (emF x) (by have := emFL (X2 h); omega))] (by simp only [go_sem, seval, ai_, ab_, ad_, bb_]; rfl) ?_ ?_)
   ·(first | trivial | (simp; done) | (simpa using h17) | exact ⟨by simpa using h17, rfl⟩)
   refine .ret ⟨.inr rfl, ?_⟩
   exact Out.mem' (by simp only [Tryz.results33]; rfl) (by simp only [av_, a5_, go_sem, seval, ai_, ab_, ad_, bb_]) (by simp only [a2_, rns, rn, go_sem, seval, ai_, ab_, ad_, bb_] <;> (rw [P3 (by simpa using h9) (by simpa using h17)])) (by simp) rfl (by decide) (by simp only [go_sem, seval, ai_, ab_, ad_, bb_]) (by simp only [ao_, go_sem, seval, ai_, ab_, ad_, bb_]) (by simp only [aj_, go_sem, seval, ai_, ab_, ad_, bb_] <;> (rw [P3 (by simpa using h9) (by simpa using h17)]))
theorem z8_ (p q : Pg) (hp : p.frm.length ≤ 1000000) (hq : q.frm.length ≤ 1000000) : ACall En 34 [.ag (pgO 0 p), .ag (pgC q)] [⟨3, 1, inR p.frm⟩] [.b (decide (p = q))] [⟨3, 1, inR p.frm⟩] := by
 have T := @ws_ p q
 refine ak_ (fn := Tryz.f34) [0] Tryz.func34 rfl rfl (by simp) fun C => ?_
 rw [aw_]
 simp only [Tryz.ntmps34, T7_, List.length_nil, Nat.reduceAdd, Nat.reduceSub, List.replicate_succ, List.replicate_zero, List.cons_append, List.nil_append, bk_]
 refine .seq (.rgn [] (by simp only [go_sem, seval, bb_, ag_, ab_, ad_, aj_, ao_]; rfl) ?_ ?_)
 ·(first | trivial | (simp; done) | (rw [T1_ (by simp [ad_])]; exact bd_ _))
 refine .seq (.seq (.rgn [] (by simp only [go_sem, seval, bb_, ag_, ab_, ad_, aj_, ao_]; rfl) ?_ ?_))
 ·(first | trivial | (simp; done) | (rw [T1_ (by simp [ad_])]; exact bd_ _))
 refine .condB (by simp only [go_sem, seval, bb_, ag_, ab_, ad_, aj_, ao_]; rfl) (by simp only [go_sem, seval, bb_, ag_, ab_, ad_, aj_, ao_]) (fun h9 => ?_) (fun h9 => ?_)
 ·refine .seq (.rgn [] (by simp only [go_sem, seval, bb_, ag_, ab_, ad_, aj_, ao_]; rfl) ?_ ?_)
  ·(first | trivial | (simp; done) | (rw [T1_ (by simp [ad_])]; exact bd_ _))
  refine .ret ⟨.inr rfl, ?_⟩
  exact Out.mem' (by simp only [Tryz.results34]; rfl) (by simp only [av_, a5_, go_sem, seval, bb_, ag_, ab_, ad_, aj_, ao_]) (by simp only [a2_, rns, rn, go_sem, seval, bb_, ag_, ab_, ad_, aj_, ao_] <;> (rw [decide_eq_false (fun e => by rw [e] at h9; simp at h9)])) (by simp) rfl (by decide) (by simp only [go_sem, seval, bb_, ag_, ab_, ad_, aj_, ao_]) (by simp only [ao_, go_sem, seval, bb_, ag_, ab_, ad_, aj_, ao_]) (by simp only [aj_, go_sem, seval, bb_, ag_, ab_, ad_, aj_, ao_] <;> (simp))
 ·refine .skip (.seq (.seq (.rgn [] (by simp only [go_sem, seval, bb_, ag_, ab_, ad_, aj_, ao_]; rfl) ?_ ?_)))
  ·(first | trivial | (simp; done) | (rw [T1_ (by simp [ad_])]; exact bd_ _))
  refine .condB (by simp only [go_sem, seval, bb_, ag_, ab_, ad_, aj_, ao_]; rfl) (by simp only [go_sem, seval, bb_, ag_, ab_, ad_, aj_, ao_]) (fun h14 => ?_) (fun h14 => ?_)
  ·refine .seq (.rgn [] (by simp only [go_sem, seval, bb_, ag_, ab_, ad_, aj_, ao_]; rfl) ?_ ?_)
   ·(first | trivial | (simp; done) | (rw [T1_ (by simp [ad_])]; exact bd_ _))
   refine .ret ⟨.inr rfl, ?_⟩
   exact Out.mem' (by simp only [Tryz.results34]; rfl) (by simp only [av_, a5_, go_sem, seval, bb_, ag_, ab_, ad_, aj_, ao_]) (by simp only [a2_, rns, rn, go_sem, seval, bb_, ag_, ab_, ad_, aj_, ao_] <;> (rw [decide_eq_false (fun e => by rw [e] at h14; simp at h14)])) (by simp) rfl (by decide) (by simp only [go_sem, seval, bb_, ag_, ab_, ad_, aj_, ao_]) (by simp only [ao_, go_sem, seval, bb_, ag_, ab_, ad_, aj_, ao_]) (by simp only [aj_, go_sem, seval, bb_, ag_, ab_, ad_, aj_, ao_] <;> (simp))
  ·refine .skip (.seq (.seq (.rgn [] (by simp only [go_sem, seval, bb_, ag_, ab_, ad_, aj_, ao_]; rfl) ?_ ?_)))
   ·(first | trivial | (simp; done) | (rw [T1_ (by simp [ad_])]; exact bd_ _))
   refine .condB (by simp only [go_sem, seval, bb_, ag_, ab_, ad_, aj_, ao_]; rfl) (by simp only [go_sem, seval, bb_, ag_, ab_, ad_, aj_, ao_]) (fun h19 => ?_) (fun h19 => ?_)
   ·refine .seq (.rgn [] (by simp only [go_sem, seval, bb_, ag_, ab_, ad_, aj_, ao_]; rfl) ?_ ?_)
    ·(first | trivial | (simp; done) | (rw [T1_ (by simp [ad_])]; exact bd_ _))
    refine .ret ⟨.inr rfl, ?_⟩
    exact Out.mem' (by simp only [Tryz.results34]; rfl) (by simp only [av_, a5_, go_sem, seval, bb_, ag_, ab_, ad_, aj_, ao_]) (by simp only [a2_, rns, rn, go_sem, seval, bb_, ag_, ab_, ad_, aj_, ao_] <;> (rw [decide_eq_false (fun e => by rw [e] at h19; simp at h19)])) (by simp) rfl (by decide) (by simp only [go_sem, seval, bb_, ag_, ab_, ad_, aj_, ao_]) (by simp only [ao_, go_sem, seval, bb_, ag_, ab_, ad_, aj_, ao_]) (by simp only [aj_, go_sem, seval, bb_, ag_, ab_, ad_, aj_, ao_] <;> (simp))
   ·refine .skip (.seq (.seq (.rgn [xr_ (or_ p.frm q.frm (by omega) (by omega))] (by simp only [go_sem, seval, bb_, ag_, ab_, ad_, aj_, ao_]; rfl) ?_ ?_)))
    ·(first | trivial | (simp; done) | (rw [T1_ (by simp [ad_])]; exact bd_ _))
    refine .condB (by simp only [go_sem, seval, bb_, ag_, ab_, ad_, aj_, ao_]; rfl) (by simp only [go_sem, seval, bb_, ag_, ab_, ad_, aj_, ao_]) (fun h25 => ?_) (fun h25 => ?_)
    ·refine .seq (.rgn [] (by simp only [go_sem, seval, bb_, ag_, ab_, ad_, aj_, ao_]; rfl) ?_ ?_)
     ·(first | trivial | (simp; done) | (rw [T1_ (by simp [ad_])]; exact bd_ _))
     refine .ret ⟨.inr rfl, ?_⟩
     exact Out.mem' (by simp only [Tryz.results34]; rfl) (by simp only [av_, a5_, go_sem, seval, bb_, ag_, ab_, ad_, aj_, ao_]) (by simp only [a2_, rns, rn, go_sem, seval, bb_, ag_, ab_, ad_, aj_, ao_] <;> (rw [decide_eq_false (fun e => by rw [e] at h25; simp at h25)])) (by simp) rfl (by decide) (by simp only [go_sem, seval, bb_, ag_, ab_, ad_, aj_, ao_]) (by simp only [ao_, go_sem, seval, bb_, ag_, ab_, ad_, aj_, ao_]) (by simp only [aj_, go_sem, seval, bb_, ag_, ab_, ad_, aj_, ao_] <;> (simp))
    ·refine .skip (.seq (.rgn [] (by simp only [go_sem, seval, bb_, ag_, ab_, ad_, aj_, ao_]; rfl) ?_ ?_))
     ·(first | trivial | (simp; done) | (rw [T1_ (by simp [ad_])]; exact bd_ _))
     refine .ret ⟨.inr rfl, ?_⟩
     exact Out.mem' (by simp only [Tryz.results34]; rfl) (by simp only [av_, a5_, go_sem, seval, bb_, ag_, ab_, ad_, aj_, ao_]) (by simp only [a2_, rns, rn, go_sem, seval, bb_, ag_, ab_, ad_, aj_, ao_] <;> (rw [decide_eq_true (T.2 ⟨by simpa using h9, by simpa using h14, by simpa using h19, by simpa using h25⟩)])) (by simp) rfl (by decide) (by simp only [go_sem, seval, bb_, ag_, ab_, ad_, aj_, ao_]) (by simp only [ao_, go_sem, seval, bb_, ag_, ab_, ad_, aj_, ao_]) (by simp only [aj_, go_sem, seval, bb_, ag_, ab_, ad_, aj_, ao_] <;> (simp))
theorem adw_ (p q : Pg) (hp : p.frm.length ≤ 1000000) (hq : q.frm.length ≤ 1000000) : ACall En 34 [.ag (pgC p), .ag (pgC q)] [] [.b (decide (p = q))] [] := by
 have T := @ws_ p q
 refine ak_ (fn := Tryz.f34) [] Tryz.func34 rfl rfl (by simp) fun C => ?_
 rw [aw_]
 simp only [Tryz.ntmps34, T7_, List.length_nil, Nat.reduceAdd, Nat.reduceSub, List.replicate_succ, List.replicate_zero, List.cons_append, List.nil_append, bk_]
 refine .seq (.rgn [] (by simp only [go_sem, seval, ag_, ab_, ad_]; rfl) ?_ ?_)
 ·first | trivial | simp
 refine .seq (.seq (.rgn [] (by simp only [go_sem, seval, ag_, ab_, ad_]; rfl) ?_ ?_))
 ·first | trivial | simp
 refine .condB (by simp only [go_sem, seval, ag_, ab_, ad_]; rfl) (by simp only [go_sem, seval, ag_, ab_, ad_]) (fun h9 => ?_) (fun h9 => ?_)
 ·refine .seq (.rgn [] (by simp only [go_sem, seval, ag_, ab_, ad_]; rfl) ?_ ?_)
  ·first | trivial | simp
  refine .ret ⟨.inr rfl, ?_⟩
  exact Out.plain (by simp only [Tryz.results34]; rfl) (by simp only [av_, a5_, go_sem, seval, ag_, ab_, ad_] <;> (split <;> rfl)) (by simp only [a2_, go_sem, seval, ag_, ab_, ad_] <;> (rw [decide_eq_false (fun e => by rw [e] at h9; simp at h9)])) (by simp only [go_sem, seval, ag_, ab_, ad_])
 ·refine .skip (.seq (.seq (.rgn [] (by simp only [go_sem, seval, ag_, ab_, ad_]; rfl) ?_ ?_)))
  ·first | trivial | simp
  refine .condB (by simp only [go_sem, seval, ag_, ab_, ad_]; rfl) (by simp only [go_sem, seval, ag_, ab_, ad_]) (fun h14 => ?_) (fun h14 => ?_)
  ·refine .seq (.rgn [] (by simp only [go_sem, seval, ag_, ab_, ad_]; rfl) ?_ ?_)
   ·first | trivial | simp
   refine .ret ⟨.inr rfl, ?_⟩
   exact Out.plain (by simp only [Tryz.results34]; rfl) (by simp only [av_, a5_, go_sem, seval, ag_, ab_, ad_] <;> (split <;> rfl)) (by simp only [a2_, go_sem, seval, ag_, ab_, ad_] <;> (rw [decide_eq_false (fun e => by rw [e] at h14; simp at h14)])) (by simp only [go_sem, seval, ag_, ab_, ad_])
  ·refine .skip (.seq (.seq (.rgn [] (by simp only [go_sem, seval, ag_, ab_, ad_]; rfl) ?_ ?_)))
   ·first | trivial | simp
   refine .condB (by simp only [go_sem, seval, ag_, ab_, ad_]; rfl) (by simp only [go_sem, seval, ag_, ab_, ad_]) (fun h19 => ?_) (fun h19 => ?_)
   ·refine .seq (.rgn [] (by simp only [go_sem, seval, ag_, ab_, ad_]; rfl) ?_ ?_)
    ·first | trivial | simp
    refine .ret ⟨.inr rfl, ?_⟩
    exact Out.plain (by simp only [Tryz.results34]; rfl) (by simp only [av_, a5_, go_sem, seval, ag_, ab_, ad_] <;> (split <;> rfl)) (by simp only [a2_, go_sem, seval, ag_, ab_, ad_] <;> (rw [decide_eq_false (fun e => by rw [e] at h19; simp at h19)])) (by simp only [go_sem, seval, ag_, ab_, ad_])
   ·refine .skip (.seq (.seq (.rgn [a3_ (or_ p.frm q.frm (by omega) (by omega))] (by simp only [go_sem, seval, ag_, ab_, ad_]; rfl) ?_ ?_)))
    ·first | trivial | simp
    refine .condB (by simp only [go_sem, seval, ag_, ab_, ad_]; rfl) (by simp only [go_sem, seval, ag_, ab_, ad_]) (fun h25 => ?_) (fun h25 => ?_)
    ·refine .seq (.rgn [] (by simp only [go_sem, seval, ag_, ab_, ad_]; rfl) ?_ ?_)
     ·first | trivial | simp
     refine .ret ⟨.inr rfl, ?_⟩
     exact Out.plain (by simp only [Tryz.results34]; rfl) (by simp only [av_, a5_, go_sem, seval, ag_, ab_, ad_] <;> (split <;> rfl)) (by simp only [a2_, go_sem, seval, ag_, ab_, ad_] <;> (rw [decide_eq_false (fun e => by rw [e] at h25; simp at h25)])) (by simp only [go_sem, seval, ag_, ab_, ad_])
    ·refine .skip (.seq (.rgn [] (by simp only [go_sem, seval, ag_, ab_, ad_]; rfl) ?_ ?_))
     ·first | trivial | simp
     refine .ret ⟨.inr rfl, ?_⟩
     exact Out.plain (by simp only [Tryz.results34]; rfl) (by simp only [av_, a5_, go_sem, seval, ag_, ab_, ad_] <;> (split <;> rfl)) (by simp only [a2_, go_sem, seval, ag_, ab_, ad_] <;> (rw [decide_eq_true (T.2 ⟨by simpa using h9, by simpa using h14, by simpa using h19, by simpa using h25⟩)])) (by simp only [go_sem, seval, ag_, ab_, ad_])
theorem w8_ (p : Pg) (k : Int) (hp : p.frm.length ≤ 1000000) (h0 : 0 ≤ k) (h1 : k ≤ 1000000) : ACall En 35 [.ag (pgO 0 p), .i .i64 k] [⟨3, 1, inR p.frm⟩] [.i .i64 (k + p.frm.length)] [⟨3, 1, inR (im_ k p.frm.length)⟩] := by
 refine ak_ (fn := Tryz.f35) [0] Tryz.func35 rfl rfl (by simp) fun C => ?_
 rw [aw_]
 simp only [Tryz.ntmps35, T7_, List.length_nil, Nat.reduceAdd, Nat.reduceSub, List.replicate_succ, List.replicate_zero, List.cons_append, List.nil_append, bk_]
 refine .seq (.rgn [] (by simp only [go_sem, seval, bb_, ab_, ad_, aj_, ao_]; rfl) ?_ ?_)
 ·first | trivial | simp
 refine .seq (.rgn [br_ [0] [] (wh_ p.frm k hp h0 h1)] (by simp only [go_sem, seval, bb_, ab_, ad_, aj_, ao_]; rfl) ?_ ?_)
 ·first | trivial | simp
 refine .seq (.rgn [] (by simp only [go_sem, seval, bb_, ab_, ad_, aj_, ao_]; rfl) ?_ ?_)
 ·first | trivial | simp
 refine .ret ⟨.inr rfl, ?_⟩
 exact Out.mem' (by simp only [Tryz.results35]; rfl) (by simp only [av_, a5_, go_sem, seval, bb_, ab_, ad_, aj_, ao_]) (by simp only [a2_, rns, rn, go_sem, seval, bb_, ab_, ad_, aj_, ao_] <;> (rfl)) (by simp) rfl (by decide) (by simp only [go_sem, seval, bb_, ab_, ad_, aj_, ao_]) (by simp only [ao_, go_sem, seval, bb_, ab_, ad_, aj_, ao_]) (by simp only [aj_, go_sem, seval, bb_, ab_, ad_, aj_, ao_] <;> (simp))
theorem om_ (p : Pg) (k : Int) (hp : p.frm.length ≤ 1000000) (h0 : 0 ≤ k) (h1 : k ≤ 1000000) : ACall En 36 [.ag (pgO 0 p), .i .i64 k] [⟨3, 1, inR (im_ k p.frm.length)⟩] [.i .i64 (k + p.frm.length)] [⟨3, 1, inR (im_ k p.frm.length)⟩] := by
 refine ak_ (fn := Tryz.f36) [0] Tryz.func36 rfl rfl (by simp) fun C => ?_
 rw [aw_]
 simp only [Tryz.ntmps36, T7_, List.length_nil, Nat.reduceAdd, Nat.reduceSub, List.replicate_succ, List.replicate_zero, List.cons_append, List.nil_append, bk_]
 refine .seq (.rgn [] (by simp only [go_sem, seval, bb_, ab_, ad_, aj_, ao_, ba_]; rfl) ?_ ?_)
 ·(first | trivial | (simp; done) | (rw [T1_ (by simp [ad_, ba_])]; exact bd_ _))
 refine .seq (.rgn [xr_ (xd_ p.frm.length k hp h0 h1)] (by simp only [go_sem, seval, bb_, ab_, ad_, aj_, ao_, ba_]; rfl) ?_ ?_)
 ·(first | trivial | (simp; done) | (rw [T1_ (by simp [ad_, ba_])]; exact bd_ _))
 refine .seq (.seq (.rgn [] (by simp only [go_sem, seval, bb_, ab_, ad_, aj_, ao_, ba_]; rfl) ?_ ?_))
 ·(first | trivial | (simp; done) | (rw [T1_ (by simp [ad_, ba_])]; exact bd_ _))
 refine .condB (by simp only [go_sem, seval, bb_, ab_, ad_, aj_, ao_, ba_]; rfl) (by simp only [go_sem, seval, bb_, ab_, ad_, aj_, ao_, ba_]) (fun h10 => ?_) (fun h10 => ?_)
 ·simp at h10; omega
 ·refine .skip (.seq (.rgn [] (by simp only [go_sem, seval, bb_, ab_, ad_, aj_, ao_, ba_]; rfl) ?_ ?_))
  ·(first | trivial | (simp; done) | (rw [T1_ (by simp [ad_, ba_])]; exact bd_ _))
  refine .ret ⟨.inr rfl, ?_⟩
  exact Out.mem' (by simp only [Tryz.results36]; rfl) (by simp only [av_, a5_, go_sem, seval, bb_, ab_, ad_, aj_, ao_, ba_]) (by simp only [a2_, rns, rn, go_sem, seval, bb_, ab_, ad_, aj_, ao_, ba_] <;> (rfl)) (by simp) rfl (by decide) (by simp only [go_sem, seval, bb_, ab_, ad_, aj_, ao_, ba_]) (by simp only [ao_, go_sem, seval, bb_, ab_, ad_, aj_, ao_, ba_]) (by simp only [aj_, go_sem, seval, bb_, ab_, ad_, aj_, ao_, ba_] <;> (simp))
end
end Go.Proofs.YtpikbndepapbhabGreatDoor
