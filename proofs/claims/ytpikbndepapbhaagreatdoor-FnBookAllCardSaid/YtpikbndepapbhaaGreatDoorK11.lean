/- Lines, drawn and torn. Conditions: none. -/
import Derived.Test.YtpikbndepapbhaaGreatDoorK10
import Derived.Test.YtpikbndepapbhaaGreatDoorK8
set_option linter.unusedVariables false
set_option linter.unusedSimpArgs false
namespace Go.Proofs.YtpikbndepapbhaaGreatDoor
section
set_option maxRecDepth 100000
set_option maxHeartbeats 4000000
theorem kd_ (s : Sl) (hs : d6_ s = true) : ACall En 94 [.ag (sC s)] [] [.s (d4_ s)] [] := by
 refine aj_ (fn := Tryz.f94) [] Tryz.func94 rfl rfl (by simp) fun C => ?_
 rw [a0_]
 simp only [Tryz.ntmps94, T7_, List.length_nil, Nat.reduceAdd, Nat.reduceSub, List.replicate_succ, List.replicate_zero, List.cons_append, List.nil_append, bq_]
 refine .seq (.rgn [] (by simp only [go_sem, seval, af_, aa_]; rfl) ?_ ?_)
 ·first | trivial | simp
 refine .seq (.seq (.rgn [a5_ (me_ s hs)] (by simp only [go_sem, seval, af_, aa_]; rfl) ?_ ?_))
 ·first | trivial | simp
 refine .condB (by simp only [go_sem, seval, af_, aa_]; rfl) (by simp only [go_sem, seval, af_, aa_]) (fun h5 => ?_) (fun h5 => ?_)
 ·refine .seq (.rgn [] (by simp only [go_sem, seval, af_, aa_]; rfl) ?_ ?_)
  ·first | trivial | simp
  refine .ret ⟨.inr rfl, ?_⟩
  exact Out.plain (by simp only [Tryz.results94]; rfl) (by simp only [a1_, a9_, go_sem, seval, af_, aa_] <;> (split <;> rfl)) (by simp only [a8_, go_sem, seval, af_, aa_] <;> (simp at h5; simp [d4_, h5])) (by simp only [go_sem, seval, af_, aa_])
 ·refine .skip (.seq (.rgn [cf_ (sok s = true) (fun h => ht_ s (de_ h) hs), cf_ (sok s = true) (fun h => g1_ (sw' s) (by have := (lm_ (de_ h)).1; omega) (by have := lt_ (de_ h); omega))] (by simp only [go_sem, seval, af_, aa_]; rfl) ?_ ?_))
  ·simp at h5; simp [h5]
  refine .ret ⟨.inr rfl, ?_⟩
  exact Out.plain (by simp only [Tryz.results94]; rfl) (by simp only [a1_, a9_, go_sem, seval, af_, aa_] <;> (split <;> rfl)) (by simp only [a8_, go_sem, seval, af_, aa_] <;> (simp at h5; simp [d4_, h5])) (by simp only [go_sem, seval, af_, aa_])
theorem n1_ (s : Sl) : (d4_ s).length ≤ 120 := by
 unfold d4_; split
 ·rename_i h; have := (i5_ h).1; omega
 ·simp
def ge_ : List Str := [[], [32], [49], [115, 97, 121, 32], [40], [120], [63], [58]]
def dT5 (b : Str) (p : Int) : Str × Int :=
 if d4_ (dl5 b p).1 = [] then (d4_ (dl5 b p).1, (dl5 b p).2)
 else if bx_ b (dl5 b p).2 2 = 0 then (d4_ (dl5 b p).1, (dl5 b p).2 + 1)
 else (x5_ b ((dl5 b p).2 + 1) ge_ (d4_ (dl5 b p).1), (dl5 b p).2 + 1 + 1 + 1 + 1)
theorem al6_ (b : Str) {p : Int} (hp : 0 ≤ p) (hp2 : p < 10000000) : p ≤ (dT5 b p).2 ∧ (dT5 b p).2 ≤ p + 800 ∧ (dT5 b p).1.length ≤ 300 := by
 obtain ⟨h1, h2, h3⟩ := afy_ b (p := p) hp (by omega)
 have k1 := n1_ (dl5 b p).1
 unfold dT5
 split
 ·exact ⟨h1, by dsimp only; omega, by dsimp only; omega⟩
 ·split
  ·exact ⟨by dsimp only; omega, by dsimp only; omega, by dsimp only; omega⟩
  ·have := abv_ (b := b) (p := (dl5 b p).2 + 1) (l := ge_) (s := d4_ (dl5 b p).1) 6 (by decide) (by decide) (by omega) (by omega)
   exact ⟨by dsimp only; omega, by dsimp only; omega, by dsimp only; omega⟩
theorem ad7_ (b : Str) (p : Int) (hb : b.length ≤ 2000) (hp : 0 ≤ p) (hp2 : p < 10000000) (h0 : (((d4_ (dl5 b p).1).length : Int) == 0) = false) : ACall En 93 [.pt 0 2 0 0] [rdB b p] [.s (dT5 b p).1] [rdB b (dT5 b p).2] := by
 obtain ⟨h1, h2, h3⟩ := afy_ b (p := p) hp (by omega)
 have k1 := n1_ (dl5 b p).1
 have T := kd_ (dl5 b p).1 h3
 have D := tk_ b p hb hp (by omega)
 have hd : dT5 b p = if d4_ (dl5 b p).1 = [] then (d4_ (dl5 b p).1, (dl5 b p).2) else if bx_ b (dl5 b p).2 2 = 0 then (d4_ (dl5 b p).1, (dl5 b p).2 + 1) else (x5_ b ((dl5 b p).2 + 1) ge_ (d4_ (dl5 b p).1), (dl5 b p).2 + 1 + 1 + 1 + 1) := rfl
 have hne : (((d4_ (dl5 b p).1).length : Int) == 0) = decide (d4_ (dl5 b p).1 = []) := by rw [Bool.eq_iff_iff]; simp
 generalize (dl5 b p).1 = x at *
 generalize (dl5 b p).2 = q at *
 generalize d4_ x = s at *
 refine aj_ (fn := Tryz.f93) [0] Tryz.func93 rfl rfl (by simp) fun C => ?_
 rw [a0_]
 simp only [Tryz.ntmps93, T7_, List.length_nil, Nat.reduceAdd, Nat.reduceSub, List.replicate_succ, List.replicate_zero, List.cons_append, List.nil_append, bq_]
 refine .seq (.rgn [] (by simp only [go_sem, seval, ah_, ap_, af_, h0]; rfl) ?_ ?_)
 ·(first | trivial | (simp; done) | (obtain ⟨q1, q2, q3, q4, q5, q6, q7⟩ := i0_ (b := b) (p := q + 1) h0 (by omega) (by omega) (by omega); have q8 := g8_ (b := b) (p := q + 1 + 1) (l := ge_) (by decide) (by omega) (by omega) 6 (by decide); rw [q3]; refine ⟨⟨⟨⟨⟨⟨q1, q2, Int.le_refl _, by simp⟩, by simp [ge_, bo_, ler, les, leV], by simp⟩, by omega⟩, by simp⟩, q4, q5, Int.le_refl _⟩, ?_⟩; simp only [T2_, List.length_drop, List.length_take] at q7 ⊢; omega))
 refine .seq (.rgn [bu_ [0] [] D, a5_ T] (by simp only [go_sem, seval, ah_, ap_, af_, h0]; rfl) ?_ ?_)
 ·(first | trivial | (simp; done) | (obtain ⟨q1, q2, q3, q4, q5, q6, q7⟩ := i0_ (b := b) (p := q + 1) h0 (by omega) (by omega) (by omega); have q8 := g8_ (b := b) (p := q + 1 + 1) (l := ge_) (by decide) (by omega) (by omega) 6 (by decide); rw [q3]; refine ⟨⟨⟨⟨⟨⟨q1, q2, Int.le_refl _, by simp⟩, by simp [ge_, bo_, ler, les, leV], by simp⟩, by omega⟩, by simp⟩, q4, q5, Int.le_refl _⟩, ?_⟩; simp only [T2_, List.length_drop, List.length_take] at q7 ⊢; omega))
 refine .seq (.seq (.rgn [bu_ [0] [] (d5_ b q 2 hb (by omega) (by omega))] (by simp only [go_sem, seval, ah_, ap_, af_, h0]; rfl) ?_ ?_))
 ·(first | trivial | (simp; done) | (obtain ⟨q1, q2, q3, q4, q5, q6, q7⟩ := i0_ (b := b) (p := q + 1) h0 (by omega) (by omega) (by omega); have q8 := g8_ (b := b) (p := q + 1 + 1) (l := ge_) (by decide) (by omega) (by omega) 6 (by decide); rw [q3]; refine ⟨⟨⟨⟨⟨⟨q1, q2, Int.le_refl _, by simp⟩, by simp [ge_, bo_, ler, les, leV], by simp⟩, by omega⟩, by simp⟩, q4, q5, Int.le_refl _⟩, ?_⟩; simp only [T2_, List.length_drop, List.length_take] at q7 ⊢; omega))
 refine .condB (by simp only [go_sem, seval, ah_, ap_, af_, h0]; rfl) (by simp only [go_sem, seval, ah_, ap_, af_, h0]) (fun h15 => ?_) (fun h15 => ?_)
 ·refine .seq (.rgn [] (by simp only [go_sem, seval, ah_, ap_, af_, h0]; rfl) ?_ ?_)
  ·(first | trivial | (simp; done) | (obtain ⟨q1, q2, q3, q4, q5, q6, q7⟩ := i0_ (b := b) (p := q + 1) h0 (by omega) (by omega) (by omega); have q8 := g8_ (b := b) (p := q + 1 + 1) (l := ge_) (by decide) (by omega) (by omega) 6 (by decide); rw [q3]; refine ⟨⟨⟨⟨⟨⟨q1, q2, Int.le_refl _, by simp⟩, by simp [ge_, bo_, ler, les, leV], by simp⟩, by omega⟩, by simp⟩, q4, q5, Int.le_refl _⟩, ?_⟩; simp only [T2_, List.length_drop, List.length_take] at q7 ⊢; omega))
  refine .ret ⟨.inr rfl, ?_⟩
  exact Out.mem' (by simp only [Tryz.results93]; rfl) (by simp only [a1_, a9_, go_sem, seval, ah_, ap_, af_, h0]) (by simp only [a8_, rns, rn, go_sem, seval, ah_, ap_, af_, h0] <;> (rw [h0] at hne; rw [hd, if_neg (of_decide_eq_false hne.symm), if_pos (by simpa using h15)])) (by simp) rfl (by decide) (by simp only [go_sem, seval, ah_, ap_, af_, h0]) (by simp only [ap_, go_sem, seval, ah_, ap_, af_, h0]) (by simp only [ah_, go_sem, seval, ah_, ap_, af_, h0] <;> (rw [h0] at hne; rw [hd, if_neg (of_decide_eq_false hne.symm), if_pos (by simpa using h15)]))
 ·refine .skip (.seq (.rgn [bu_ [0] [] (d5_ b (q + 1) s.length hb (by omega) (by omega))] (by simp only [go_sem, seval, ah_, ap_, af_, h0]; rfl) ?_ ?_))
  ·(first | trivial | (simp; done) | (obtain ⟨q1, q2, q3, q4, q5, q6, q7⟩ := i0_ (b := b) (p := q + 1) h0 (by omega) (by omega) (by omega); have q8 := g8_ (b := b) (p := q + 1 + 1) (l := ge_) (by decide) (by omega) (by omega) 6 (by decide); rw [q3]; refine ⟨⟨⟨⟨⟨⟨q1, q2, Int.le_refl _, by simp⟩, by simp [ge_, bo_, ler, les, leV], by simp⟩, by omega⟩, by simp⟩, q4, q5, Int.le_refl _⟩, ?_⟩; simp only [T2_, List.length_drop, List.length_take] at q7 ⊢; omega))
  refine .seq (.rgnD [bu_ [0] [] (p6_ b (q + 1 + 1) ge_ (by decide) hb (by omega) (by omega)), bu_ [0] [] (d5_ b (q + 1 + 1 + 1) 2 hb (by omega) (by omega))] enM (by simp only [go_sem, seval, ah_, ap_, af_, h0]; rfl) (by rfl) ?_ ?_)
  ·(first | trivial | (simp; done) | (obtain ⟨q1, q2, q3, q4, q5, q6, q7⟩ := i0_ (b := b) (p := q + 1) h0 (by omega) (by omega) (by omega); have q8 := g8_ (b := b) (p := q + 1 + 1) (l := ge_) (by decide) (by omega) (by omega) 6 (by decide); rw [q3]; refine ⟨⟨⟨⟨⟨⟨q1, q2, Int.le_refl _, by simp⟩, by simp [ge_, bo_, ler, les, leV], by simp⟩, by omega⟩, by simp⟩, q4, q5, Int.le_refl _⟩, ?_⟩; simp only [T2_, List.length_drop, List.length_take] at q7 ⊢; omega))
  refine .ret ⟨.inr rfl, ?_⟩
  exact Out.mem' (by simp only [Tryz.results93]; rfl) (by simp only [a1_, a9_, go_sem, seval, ah_, ap_, af_, h0]) (by simp only [a8_, rns, rn, go_sem, seval, ah_, ap_, af_, h0] <;> (rw [h0] at hne; rw [hd, if_neg (of_decide_eq_false hne.symm), if_neg (by simpa using h15)]; dsimp only; rw [x5_, (i0_ (b := b) (p := q + 1) h0 (by omega) (by omega) (by omega)).2.2.1, (i0_ (b := b) (p := q + 1) h0 (by omega) (by omega) (by omega)).2.2.2.2.2.1, List.take_length])) (by simp) rfl (by decide) (by simp only [go_sem, seval, ah_, ap_, af_, h0]) (by simp only [ap_, go_sem, seval, ah_, ap_, af_, h0]) (by simp only [ah_, go_sem, seval, ah_, ap_, af_, h0] <;> (rw [h0] at hne; rw [hd, if_neg (of_decide_eq_false hne.symm), if_neg (by simpa using h15)]))
theorem adv_ (b : Str) (p : Int) (hb : b.length ≤ 2000) (hp : 0 ≤ p) (hp2 : p < 10000000) (h0 : (((d4_ (dl5 b p).1).length : Int) == 0) = true) : ACall En 93 [.pt 0 2 0 0] [rdB b p] [.s (dT5 b p).1] [rdB b (dT5 b p).2] := by
 obtain ⟨h1, h2, h3⟩ := afy_ b (p := p) hp (by omega)
 have k1 := n1_ (dl5 b p).1
 have T := kd_ (dl5 b p).1 h3
 have D := tk_ b p hb hp (by omega)
 have hd : dT5 b p = if d4_ (dl5 b p).1 = [] then (d4_ (dl5 b p).1, (dl5 b p).2) else if bx_ b (dl5 b p).2 2 = 0 then (d4_ (dl5 b p).1, (dl5 b p).2 + 1) else (x5_ b ((dl5 b p).2 + 1) ge_ (d4_ (dl5 b p).1), (dl5 b p).2 + 1 + 1 + 1 + 1) := rfl
 have hne : (((d4_ (dl5 b p).1).length : Int) == 0) = decide (d4_ (dl5 b p).1 = []) := by rw [Bool.eq_iff_iff]; simp
 generalize (dl5 b p).1 = x at *
 generalize (dl5 b p).2 = q at *
 generalize d4_ x = s at *
 refine aj_ (fn := Tryz.f93) [0] Tryz.func93 rfl rfl (by simp) fun C => ?_
 rw [a0_]
 simp only [Tryz.ntmps93, T7_, List.length_nil, Nat.reduceAdd, Nat.reduceSub, List.replicate_succ, List.replicate_zero, List.cons_append, List.nil_append, bq_]
 refine .seq (.rgn [] (by simp only [go_sem, seval, ah_, ap_, af_, h0]; rfl) ?_ ?_)
 ·first | trivial | simp
 refine .seq (.rgn [bu_ [0] [] D, a5_ T] (by simp only [go_sem, seval, ah_, ap_, af_, h0]; rfl) ?_ ?_)
 ·first | trivial | simp
 refine .seq (.seq (.rgn [bu_ [0] [] (d5_ b q 2 hb (by omega) (by omega))] (by simp only [go_sem, seval, ah_, ap_, af_, h0]; rfl) ?_ ?_))
 ·first | trivial | simp
 refine .condB (by simp only [go_sem, seval, ah_, ap_, af_, h0]; rfl) (by simp only [go_sem, seval, ah_, ap_, af_, h0]) (fun h15 => ?_) (fun h15 => ?_)
 ·refine .seq (.rgn [] (by simp only [go_sem, seval, ah_, ap_, af_, h0]; rfl) ?_ ?_)
  ·first | trivial | simp
  refine .ret ⟨.inr rfl, ?_⟩
  exact Out.mem' (by simp only [Tryz.results93]; rfl) (by simp only [a1_, a9_, go_sem, seval, ah_, ap_, af_, h0]) (by simp only [a8_, rns, rn, go_sem, seval, ah_, ap_, af_, h0] <;> (rw [h0] at hne; rw [hd, if_pos (of_decide_eq_true hne.symm)])) (by simp) rfl (by decide) (by simp only [go_sem, seval, ah_, ap_, af_, h0]) (by simp only [ap_, go_sem, seval, ah_, ap_, af_, h0]) (by simp only [ah_, go_sem, seval, ah_, ap_, af_, h0] <;> (rw [h0] at hne; rw [hd, if_pos (of_decide_eq_true hne.symm)]))
 ·simp at h15
theorem ada_ (b : Str) (p : Int) (hb : b.length ≤ 2000) (hp : 0 ≤ p) (hp2 : p < 10000000) : ACall En 93 [.pt 0 2 0 0] [rdB b p] [.s (dT5 b p).1] [rdB b (dT5 b p).2] := by
 cases h0 : (((d4_ (dl5 b p).1).length : Int) == 0) with
 | true => exact adv_ b p hb hp hp2 h0
 | false => exact ad7_ b p hb hp hp2 h0
def dTo (b : Str) (p : Int) : Str × Int := if bx_ b p 5 = 0 then dT5 b (p + 1) else (d4_ (b9_ b (p + 1)).1, (b9_ b (p + 1)).2)
theorem ai9_ (b : Str) {p : Int} (hp : 0 ≤ p) (hp2 : p < 5000000) : p ≤ (dTo b p).2 ∧ (dTo b p).2 ≤ p + 1000 ∧ (dTo b p).1.length ≤ 300 := by
 obtain ⟨h1, h2, h3⟩ := al6_ b (p := p + 1) (by omega) (by omega)
 obtain ⟨q1, q2, _⟩ := k2_ b (p := p + 1) (by omega) (by omega)
 have k1 := n1_ (b9_ b (p + 1)).1
 unfold dTo
 split
 ·exact ⟨by omega, by omega, h3⟩
 ·exact ⟨by dsimp only; omega, by dsimp only; omega, by dsimp only; omega⟩
theorem aa9_ (b : Str) (p : Int) (hb : b.length ≤ 2000) (hp : 0 ≤ p) (hp2 : p < 5000000) : ACall En 63 [.pt 0 2 0 0] [rdB b p] [.s (dTo b p).1] [rdB b (dTo b p).2] := by
 have D := ada_ b (p + 1) hb (by omega) (by omega)
 have D2 := uo_ b (p + 1) hb (by omega) (by omega)
 obtain ⟨q1, q2, q3, _⟩ := k2_ b (p := p + 1) (by omega) (by omega)
 have T := kd_ (b9_ b (p + 1)).1 q3
 have hd : dTo b p = if bx_ b p 5 = 0 then dT5 b (p + 1) else (d4_ (b9_ b (p + 1)).1, (b9_ b (p + 1)).2) := rfl
 generalize dT5 b (p + 1) = u at *
 generalize b9_ b (p + 1) = v at *
 refine aj_ (fn := Tryz.f63) [0] Tryz.func63 rfl rfl (by simp) fun C => ?_
 rw [a0_]
 simp only [Tryz.ntmps63, T7_, List.length_nil, Nat.reduceAdd, Nat.reduceSub, List.replicate_succ, List.replicate_zero, List.cons_append, List.nil_append, bq_]
 refine .seq (.rgn [] (by simp only [go_sem, seval, ah_, ap_, af_]; rfl) ?_ ?_)
 ·first | trivial | simp
 refine .seq (.seq (.rgn [bu_ [0] [] (d5_ b p 5 hb hp (by omega))] (by simp only [go_sem, seval, ah_, ap_, af_]; rfl) ?_ ?_))
 ·first | trivial | simp
 refine .condB (by simp only [go_sem, seval, ah_, ap_, af_]; rfl) (by simp only [go_sem, seval, ah_, ap_, af_]) (fun h5 => ?_) (fun h5 => ?_)
 ·refine .seq (.rgn [bu_ [0] [] D] (by simp only [go_sem, seval, ah_, ap_, af_]; rfl) ?_ ?_)
  ·first | trivial | simp
  refine .ret ⟨.inr rfl, ?_⟩
  exact Out.mem' (by simp only [Tryz.results63]; rfl) (by simp only [a1_, a9_, go_sem, seval, ah_, ap_, af_]) (by simp only [a8_, rns, rn, go_sem, seval, ah_, ap_, af_] <;> (rw [hd, if_pos (by simpa using h5)])) (by simp) rfl (by decide) (by simp only [go_sem, seval, ah_, ap_, af_]) (by simp only [ap_, go_sem, seval, ah_, ap_, af_]) (by simp only [ah_, go_sem, seval, ah_, ap_, af_] <;> (rw [hd, if_pos (by simpa using h5)]))
 ·refine .skip (.seq (.rgn [bu_ [0] [] D2, a5_ T] (by simp only [go_sem, seval, ah_, ap_, af_]; rfl) ?_ ?_))
  ·first | trivial | simp
  refine .ret ⟨.inr rfl, ?_⟩
  exact Out.mem' (by simp only [Tryz.results63]; rfl) (by simp only [a1_, a9_, go_sem, seval, ah_, ap_, af_]) (by simp only [a8_, rns, rn, go_sem, seval, ah_, ap_, af_] <;> (rw [hd, if_neg (by simpa using h5)])) (by simp) rfl (by decide) (by simp only [go_sem, seval, ah_, ap_, af_]) (by simp only [ap_, go_sem, seval, ah_, ap_, af_]) (by simp only [ah_, go_sem, seval, ah_, ap_, af_] <;> (rw [hd, if_neg (by simpa using h5)]))
end
section
set_option maxRecDepth 100000
set_option maxHeartbeats 4000000
theorem yf_ {s : Str} (h : lnOk s) : il_ s = true := by
 have h1 := rd_ (w := 0) h.1 (by have := h.2; omega)
 have h2 := h.2
 unfold il_ tOk
 rw [h1, decide_eq_true (by omega)]
 have : lo_ s = false := by unfold lo_; rw [Bool.eq_false_iff]; intro q; exact acz_ h (by simpa using q)
 rw [this]; rfl
end
section
set_option maxRecDepth 100000
set_option maxHeartbeats 4000000
end
end Go.Proofs.YtpikbndepapbhaaGreatDoor
