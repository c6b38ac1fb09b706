/- Lines, drawn and torn. Conditions: none. -/
import Derived.Test.YtilppnadkfgnfaaGreatDoorK10
import Derived.Test.YtilppnadkfgnfaaGreatDoorK8
set_option linter.unusedVariables false
set_option linter.unusedSimpArgs false
namespace Go.Proofs.YtilppnadkfgnfaaGreatDoor
section
set_option maxRecDepth 100000
set_option maxHeartbeats 4000000
theorem kk_ (s : Sl) (hs : ep_ s = true) : ACall En 116 [.ag (sC s)] [] [.s (d7_ s)] [] := by
 refine al_ (fn := Tryz.f116) [] Tryz.func116 rfl rfl (by simp) fun C => ?_
 rw [ay_]
 simp only [Tryz.ntmps116, T7_, List.length_nil, Nat.reduceAdd, Nat.reduceSub, List.replicate_succ, List.replicate_zero, List.cons_append, List.nil_append, bp_]
 refine .seq (.rgn [] (by simp only [go_sem, seval, ak_, aa_]; rfl) ?_ ?_)
 ·first | trivial | simp
 refine .seq (.seq (.rgn [a4_ (m4_ s hs)] (by simp only [go_sem, seval, ak_, aa_]; rfl) ?_ ?_))
 ·first | trivial | simp
 refine .condB (by simp only [go_sem, seval, ak_, aa_]; rfl) (by simp only [go_sem, seval, ak_, aa_]) (fun h5 => ?_) (fun h5 => ?_)
 ·refine .seq (.rgn [] (by simp only [go_sem, seval, ak_, aa_]; rfl) ?_ ?_)
  ·first | trivial | simp
  refine .ret ⟨.inr rfl, ?_⟩
  exact Out.plain (by simp only [Tryz.results116]; rfl) (by simp only [az_, a7_, go_sem, seval, ak_, aa_] <;> (split <;> rfl)) (by simp only [a5_, go_sem, seval, ak_, aa_] <;> (simp at h5; simp [d7_, h5])) (by simp only [go_sem, seval, ak_, aa_])
 ·refine .skip (.seq (.rgn [cg_ (sok s = true) (fun h => hv_ s (c9_ h) hs), cg_ (sok s = true) (fun h => g5_ (sw' s) (by have := (k3_ (c9_ h)).1; omega) (by have := lb_ (c9_ h); omega))] (by simp only [go_sem, seval, ak_, aa_]; rfl) ?_ ?_))
  ·simp at h5; simp [h5]
  refine .ret ⟨.inr rfl, ?_⟩
  exact Out.plain (by simp only [Tryz.results116]; rfl) (by simp only [az_, a7_, go_sem, seval, ak_, aa_] <;> (split <;> rfl)) (by simp only [a5_, go_sem, seval, ak_, aa_] <;> (simp at h5; simp [d7_, h5])) (by simp only [go_sem, seval, ak_, aa_])
theorem n8_ (s : Sl) : (d7_ s).length ≤ 120 := by
 unfold d7_; split
 ·rename_i h; have := (hw_ h).1; omega
 ·simp
def gb_ : List Str := [[], [32], [49], [115, 97, 121, 32], [40], [120], [63], [58]]
def dT5 (b : Str) (p : Int) : Str × Int :=
 if d7_ (dl5 b p).1 = [] then (d7_ (dl5 b p).1, (dl5 b p).2)
 else if bo_ b (dl5 b p).2 2 = 0 then (d7_ (dl5 b p).1, (dl5 b p).2 + 1)
 else (xy_ b ((dl5 b p).2 + 1) gb_ (d7_ (dl5 b p).1), (dl5 b p).2 + 1 + 1 + 1 + 1)
theorem am5_ (b : Str) {p : Int} (hp : 0 ≤ p) (hp2 : p < 10000000) : p ≤ (dT5 b p).2 ∧ (dT5 b p).2 ≤ p + 800 ∧ (dT5 b p).1.length ≤ 300 := by
 obtain ⟨h1, h2, h3⟩ := acu_ b (p := p) hp (by omega)
 have k1 := n8_ (dl5 b p).1
 unfold dT5
 split
 ·exact ⟨h1, by dsimp only; omega, by dsimp only; omega⟩
 ·split
  ·exact ⟨by dsimp only; omega, by dsimp only; omega, by dsimp only; omega⟩
  ·have := ab4_ (b := b) (p := (dl5 b p).2 + 1) (l := gb_) (s := d7_ (dl5 b p).1) 6 (by decide) (by decide) (by omega) (by omega)
   exact ⟨by dsimp only; omega, by dsimp only; omega, by dsimp only; omega⟩
theorem afr_ (b : Str) (p : Int) (hb : b.length ≤ 2000) (hp : 0 ≤ p) (hp2 : p < 10000000) (h0 : (((d7_ (dl5 b p).1).length : Int) == 0) = false) : ACall En 115 [.pt 0 2 0 0] [rdB b p] [.s (dT5 b p).1] [rdB b (dT5 b p).2] := by
 obtain ⟨h1, h2, h3⟩ := acu_ b (p := p) hp (by omega)
 have k1 := n8_ (dl5 b p).1
 have T := kk_ (dl5 b p).1 h3
 have D := we_ b p hb hp (by omega)
 have hd : dT5 b p = if d7_ (dl5 b p).1 = [] then (d7_ (dl5 b p).1, (dl5 b p).2) else if bo_ b (dl5 b p).2 2 = 0 then (d7_ (dl5 b p).1, (dl5 b p).2 + 1) else (xy_ b ((dl5 b p).2 + 1) gb_ (d7_ (dl5 b p).1), (dl5 b p).2 + 1 + 1 + 1 + 1) := rfl
 have hne : (((d7_ (dl5 b p).1).length : Int) == 0) = decide (d7_ (dl5 b p).1 = []) := by rw [Bool.eq_iff_iff]; simp
 generalize (dl5 b p).1 = x at *
 generalize (dl5 b p).2 = q at *
 generalize d7_ x = s at *
 refine al_ (fn := Tryz.f115) [0] Tryz.func115 rfl rfl (by simp) fun C => ?_
 rw [ay_]
 simp only [Tryz.ntmps115, T7_, List.length_nil, Nat.reduceAdd, Nat.reduceSub, List.replicate_succ, List.replicate_zero, List.cons_append, List.nil_append, bp_]
 refine .seq (.rgn [] (by simp only [go_sem, seval, aj_, ao_, ak_, h0]; rfl) ?_ ?_)
 ·(first | trivial | (simp; done) | (obtain ⟨q1, q2, q3, q4, q5, q6, q7⟩ := jb_ (b := b) (p := q + 1) h0 (by omega) (by omega) (by omega); have q8 := ha_ (b := b) (p := q + 1 + 1) (l := gb_) (by decide) (by omega) (by omega) 6 (by decide); rw [q3]; refine ⟨⟨⟨⟨⟨⟨q1, q2, Int.le_refl _, by simp⟩, by simp [gb_, bn_, ler, les, leV], by simp⟩, by omega⟩, by simp⟩, q4, q5, Int.le_refl _⟩, ?_⟩; simp only [T2_, List.length_drop, List.length_take] at q7 ⊢; omega))
 refine .seq (.rgn [bu_ [0] [] D, a4_ T] (by simp only [go_sem, seval, aj_, ao_, ak_, h0]; rfl) ?_ ?_)
 ·(first | trivial | (simp; done) | (obtain ⟨q1, q2, q3, q4, q5, q6, q7⟩ := jb_ (b := b) (p := q + 1) h0 (by omega) (by omega) (by omega); have q8 := ha_ (b := b) (p := q + 1 + 1) (l := gb_) (by decide) (by omega) (by omega) 6 (by decide); rw [q3]; refine ⟨⟨⟨⟨⟨⟨q1, q2, Int.le_refl _, by simp⟩, by simp [gb_, bn_, ler, les, leV], by simp⟩, by omega⟩, by simp⟩, q4, q5, Int.le_refl _⟩, ?_⟩; simp only [T2_, List.length_drop, List.length_take] at q7 ⊢; omega))
 refine .seq (.seq (.rgn [bu_ [0] [] (dr_ b q 2 hb (by omega) (by omega))] (by simp only [go_sem, seval, aj_, ao_, ak_, h0]; rfl) ?_ ?_))
 ·(first | trivial | (simp; done) | (obtain ⟨q1, q2, q3, q4, q5, q6, q7⟩ := jb_ (b := b) (p := q + 1) h0 (by omega) (by omega) (by omega); have q8 := ha_ (b := b) (p := q + 1 + 1) (l := gb_) (by decide) (by omega) (by omega) 6 (by decide); rw [q3]; refine ⟨⟨⟨⟨⟨⟨q1, q2, Int.le_refl _, by simp⟩, by simp [gb_, bn_, ler, les, leV], by simp⟩, by omega⟩, by simp⟩, q4, q5, Int.le_refl _⟩, ?_⟩; simp only [T2_, List.length_drop, List.length_take] at q7 ⊢; omega))
 refine .condB (by simp only [go_sem, seval, aj_, ao_, ak_, h0]; rfl) (by simp only [go_sem, seval, aj_, ao_, ak_, h0]) (fun h15 => ?_) (fun h15 => ?_)
 ·refine .seq (.rgn [] (by simp only [go_sem, seval, aj_, ao_, ak_, h0]; rfl) ?_ ?_)
  ·(first | trivial | (simp; done) | (obtain ⟨q1, q2, q3, q4, q5, q6, q7⟩ := jb_ (b := b) (p := q + 1) h0 (by omega) (by omega) (by omega); have q8 := ha_ (b := b) (p := q + 1 + 1) (l := gb_) (by decide) (by omega) (by omega) 6 (by decide); rw [q3]; refine ⟨⟨⟨⟨⟨⟨q1, q2, Int.le_refl _, by simp⟩, by simp [gb_, bn_, ler, les, leV], by simp⟩, by omega⟩, by simp⟩, q4, q5, Int.le_refl _⟩, ?_⟩; simp only [T2_, List.length_drop, List.length_take] at q7 ⊢; omega))
  refine .ret ⟨.inr rfl, ?_⟩
  exact Out.mem' (by simp only [Tryz.results115]; rfl) (by simp only [az_, a7_, go_sem, seval, aj_, ao_, ak_, h0]) (by simp only [a5_, rns, rn, go_sem, seval, aj_, ao_, ak_, h0] <;> (rw [h0] at hne; rw [hd, if_neg (of_decide_eq_false hne.symm), if_pos (by simpa using h15)])) (by simp) rfl (by decide) (by simp only [go_sem, seval, aj_, ao_, ak_, h0]) (by simp only [ao_, go_sem, seval, aj_, ao_, ak_, h0]) (by simp only [aj_, go_sem, seval, aj_, ao_, ak_, h0] <;> (rw [h0] at hne; rw [hd, if_neg (of_decide_eq_false hne.symm), if_pos (by simpa using h15)]))
 ·refine .skip (.seq (.rgn [bu_ [0] [] (dr_ b (q + 1) s.length hb (by omega) (by omega))] (by simp only [go_sem, seval, aj_, ao_, ak_, h0]; rfl) ?_ ?_))
  ·(first | trivial | (simp; done) | (obtain ⟨q1, q2, q3, q4, q5, q6, q7⟩ := jb_ (b := b) (p := q + 1) h0 (by omega) (by omega) (by omega); have q8 := ha_ (b := b) (p := q + 1 + 1) (l := gb_) (by decide) (by omega) (by omega) 6 (by decide); rw [q3]; refine ⟨⟨⟨⟨⟨⟨q1, q2, Int.le_refl _, by simp⟩, by simp [gb_, bn_, ler, les, leV], by simp⟩, by omega⟩, by simp⟩, q4, q5, Int.le_refl _⟩, ?_⟩; simp only [T2_, List.length_drop, List.length_take] at q7 ⊢; omega))
  refine .seq (.rgnD [bu_ [0] [] (qw_ b (q + 1 + 1) gb_ (by decide) hb (by omega) (by omega)), bu_ [0] [] (dr_ b (q + 1 + 1 + 1) 2 hb (by omega) (by omega))] enM (by simp only [go_sem, seval, aj_, ao_, ak_, h0]; rfl) (by rfl) ?_ ?_)
  ·(first | trivial | (simp; done) | (obtain ⟨q1, q2, q3, q4, q5, q6, q7⟩ := jb_ (b := b) (p := q + 1) h0 (by omega) (by omega) (by omega); have q8 := ha_ (b := b) (p := q + 1 + 1) (l := gb_) (by decide) (by omega) (by omega) 6 (by decide); rw [q3]; refine ⟨⟨⟨⟨⟨⟨q1, q2, Int.le_refl _, by simp⟩, by simp [gb_, bn_, ler, les, leV], by simp⟩, by omega⟩, by simp⟩, q4, q5, Int.le_refl _⟩, ?_⟩; simp only [T2_, List.length_drop, List.length_take] at q7 ⊢; omega))
  refine .ret ⟨.inr rfl, ?_⟩
  exact Out.mem' (by simp only [Tryz.results115]; rfl) (by simp only [az_, a7_, go_sem, seval, aj_, ao_, ak_, h0]) (by simp only [a5_, rns, rn, go_sem, seval, aj_, ao_, ak_, h0] <;> (rw [h0] at hne; rw [hd, if_neg (of_decide_eq_false hne.symm), if_neg (by simpa using h15)]; dsimp only; rw [xy_, (jb_ (b := b) (p := q + 1) h0 (by omega) (by omega) (by omega)).2.2.1, (jb_ (b := b) (p := q + 1) h0 (by omega) (by omega) (by omega)).2.2.2.2.2.1, List.take_length])) (by simp) rfl (by decide) (by simp only [go_sem, seval, aj_, ao_, ak_, h0]) (by simp only [ao_, go_sem, seval, aj_, ao_, ak_, h0]) (by simp only [aj_, go_sem, seval, aj_, ao_, ak_, h0] <;> (rw [h0] at hne; rw [hd, if_neg (of_decide_eq_false hne.symm), if_neg (by simpa using h15)]))
theorem aeb_ (b : Str) (p : Int) (hb : b.length ≤ 2000) (hp : 0 ≤ p) (hp2 : p < 10000000) (h0 : (((d7_ (dl5 b p).1).length : Int) == 0) = true) : ACall En 115 [.pt 0 2 0 0] [rdB b p] [.s (dT5 b p).1] [rdB b (dT5 b p).2] := by
 obtain ⟨h1, h2, h3⟩ := acu_ b (p := p) hp (by omega)
 have k1 := n8_ (dl5 b p).1
 have T := kk_ (dl5 b p).1 h3
 have D := we_ b p hb hp (by omega)
 have hd : dT5 b p = if d7_ (dl5 b p).1 = [] then (d7_ (dl5 b p).1, (dl5 b p).2) else if bo_ b (dl5 b p).2 2 = 0 then (d7_ (dl5 b p).1, (dl5 b p).2 + 1) else (xy_ b ((dl5 b p).2 + 1) gb_ (d7_ (dl5 b p).1), (dl5 b p).2 + 1 + 1 + 1 + 1) := rfl
 have hne : (((d7_ (dl5 b p).1).length : Int) == 0) = decide (d7_ (dl5 b p).1 = []) := by rw [Bool.eq_iff_iff]; simp
 generalize (dl5 b p).1 = x at *
 generalize (dl5 b p).2 = q at *
 generalize d7_ x = s at *
 refine al_ (fn := Tryz.f115) [0] Tryz.func115 rfl rfl (by simp) fun C => ?_
 rw [ay_]
 simp only [Tryz.ntmps115, T7_, List.length_nil, Nat.reduceAdd, Nat.reduceSub, List.replicate_succ, List.replicate_zero, List.cons_append, List.nil_append, bp_]
 refine .seq (.rgn [] (by simp only [go_sem, seval, aj_, ao_, ak_, h0]; rfl) ?_ ?_)
 ·first | trivial | simp
 refine .seq (.rgn [bu_ [0] [] D, a4_ T] (by simp only [go_sem, seval, aj_, ao_, ak_, h0]; rfl) ?_ ?_)
 ·first | trivial | simp
 refine .seq (.seq (.rgn [bu_ [0] [] (dr_ b q 2 hb (by omega) (by omega))] (by simp only [go_sem, seval, aj_, ao_, ak_, h0]; rfl) ?_ ?_))
 ·first | trivial | simp
 refine .condB (by simp only [go_sem, seval, aj_, ao_, ak_, h0]; rfl) (by simp only [go_sem, seval, aj_, ao_, ak_, h0]) (fun h15 => ?_) (fun h15 => ?_)
 ·refine .seq (.rgn [] (by simp only [go_sem, seval, aj_, ao_, ak_, h0]; rfl) ?_ ?_)
  ·first | trivial | simp
  refine .ret ⟨.inr rfl, ?_⟩
  exact Out.mem' (by simp only [Tryz.results115]; rfl) (by simp only [az_, a7_, go_sem, seval, aj_, ao_, ak_, h0]) (by simp only [a5_, rns, rn, go_sem, seval, aj_, ao_, ak_, h0] <;> (rw [h0] at hne; rw [hd, if_pos (of_decide_eq_true hne.symm)])) (by simp) rfl (by decide) (by simp only [go_sem, seval, aj_, ao_, ak_, h0]) (by simp only [ao_, go_sem, seval, aj_, ao_, ak_, h0]) (by simp only [aj_, go_sem, seval, aj_, ao_, ak_, h0] <;> (rw [h0] at hne; rw [hd, if_pos (of_decide_eq_true hne.symm)]))
 ·simp at h15
theorem acr_ (b : Str) (p : Int) (hb : b.length ≤ 2000) (hp : 0 ≤ p) (hp2 : p < 10000000) : ACall En 115 [.pt 0 2 0 0] [rdB b p] [.s (dT5 b p).1] [rdB b (dT5 b p).2] := by
 cases h0 : (((d7_ (dl5 b p).1).length : Int) == 0) with
 | true => exact aeb_ b p hb hp hp2 h0
 | false => exact afr_ b p hb hp hp2 h0
def dTo (b : Str) (p : Int) : Str × Int := if bo_ b p 5 = 0 then dT5 b (p + 1) else (d7_ (b9_ b (p + 1)).1, (b9_ b (p + 1)).2)
theorem ajc_ (b : Str) {p : Int} (hp : 0 ≤ p) (hp2 : p < 5000000) : p ≤ (dTo b p).2 ∧ (dTo b p).2 ≤ p + 1000 ∧ (dTo b p).1.length ≤ 300 := by
 obtain ⟨h1, h2, h3⟩ := am5_ b (p := p + 1) (by omega) (by omega)
 obtain ⟨q1, q2, _⟩ := ld_ b (p := p + 1) (by omega) (by omega)
 have k1 := n8_ (b9_ b (p + 1)).1
 unfold dTo
 split
 ·exact ⟨by omega, by omega, h3⟩
 ·exact ⟨by dsimp only; omega, by dsimp only; omega, by dsimp only; omega⟩
theorem aap_ (b : Str) (p : Int) (hb : b.length ≤ 2000) (hp : 0 ≤ p) (hp2 : p < 5000000) : ACall En 86 [.pt 0 2 0 0] [rdB b p] [.s (dTo b p).1] [rdB b (dTo b p).2] := by
 have D := acr_ b (p + 1) hb (by omega) (by omega)
 have D2 := uv_ b (p + 1) hb (by omega) (by omega)
 obtain ⟨q1, q2, q3, _⟩ := ld_ b (p := p + 1) (by omega) (by omega)
 have T := kk_ (b9_ b (p + 1)).1 q3
 have hd : dTo b p = if bo_ b p 5 = 0 then dT5 b (p + 1) else (d7_ (b9_ b (p + 1)).1, (b9_ b (p + 1)).2) := rfl
 generalize dT5 b (p + 1) = u at *
 generalize b9_ b (p + 1) = v at *
 refine al_ (fn := Tryz.f86) [0] Tryz.func86 rfl rfl (by simp) fun C => ?_
 rw [ay_]
 simp only [Tryz.ntmps86, T7_, List.length_nil, Nat.reduceAdd, Nat.reduceSub, List.replicate_succ, List.replicate_zero, List.cons_append, List.nil_append, bp_]
 refine .seq (.rgn [] (by simp only [go_sem, seval, aj_, ao_, ak_]; rfl) ?_ ?_)
 ·first | trivial | simp
 refine .seq (.seq (.rgn [bu_ [0] [] (dr_ b p 5 hb hp (by omega))] (by simp only [go_sem, seval, aj_, ao_, ak_]; rfl) ?_ ?_))
 ·first | trivial | simp
 refine .condB (by simp only [go_sem, seval, aj_, ao_, ak_]; rfl) (by simp only [go_sem, seval, aj_, ao_, ak_]) (fun h5 => ?_) (fun h5 => ?_)
 ·refine .seq (.rgn [bu_ [0] [] D] (by simp only [go_sem, seval, aj_, ao_, ak_]; rfl) ?_ ?_)
  ·first | trivial | simp
  refine .ret ⟨.inr rfl, ?_⟩
  exact Out.mem' (by simp only [Tryz.results86]; rfl) (by simp only [az_, a7_, go_sem, seval, aj_, ao_, ak_]) (by simp only [a5_, rns, rn, go_sem, seval, aj_, ao_, ak_] <;> (rw [hd, if_pos (by simpa using h5)])) (by simp) rfl (by decide) (by simp only [go_sem, seval, aj_, ao_, ak_]) (by simp only [ao_, go_sem, seval, aj_, ao_, ak_]) (by simp only [aj_, go_sem, seval, aj_, ao_, ak_] <;> (rw [hd, if_pos (by simpa using h5)]))
 ·refine .skip (.seq (.rgn [bu_ [0] [] D2, a4_ T] (by simp only [go_sem, seval, aj_, ao_, ak_]; rfl) ?_ ?_))
  ·first | trivial | simp
  refine .ret ⟨.inr rfl, ?_⟩
  exact Out.mem' (by simp only [Tryz.results86]; rfl) (by simp only [az_, a7_, go_sem, seval, aj_, ao_, ak_]) (by simp only [a5_, rns, rn, go_sem, seval, aj_, ao_, ak_] <;> (rw [hd, if_neg (by simpa using h5)])) (by simp) rfl (by decide) (by simp only [go_sem, seval, aj_, ao_, ak_]) (by simp only [ao_, go_sem, seval, aj_, ao_, ak_]) (by simp only [aj_, go_sem, seval, aj_, ao_, ak_] <;> (rw [hd, if_neg (by simpa using h5)]))
end
section
set_option maxRecDepth 100000
set_option maxHeartbeats 4000000
end
section
set_option maxRecDepth 100000
set_option maxHeartbeats 4000000
end
end Go.Proofs.YtilppnadkfgnfaaGreatDoor
