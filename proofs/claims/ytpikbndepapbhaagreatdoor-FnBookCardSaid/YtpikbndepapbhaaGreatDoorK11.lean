/- Lines, drawn and torn. Conditions: none. -/
import Derived.Test.YtpikbndepapbhaaGreatDoorK10
import Derived.Test.YtpikbndepapbhaaGreatDoorK8
set_option linter.unusedVariables false
set_option linter.unusedSimpArgs false
namespace Go.Proofs.YtpikbndepapbhaaGreatDoor
section
set_option maxRecDepth 100000
set_option maxHeartbeats 4000000
theorem kq_ (s : Sl) (hs : ez_ s = true) : ACall En 94 [.ag (sC s)] [] [.s (el_ s)] [] := by
 refine al_ (fn := Tryz.f94) [] Tryz.func94 rfl rfl (by simp) fun C => ?_
 rw [av_]
 simp only [Tryz.ntmps94, T7_, List.length_nil, Nat.reduceAdd, Nat.reduceSub, List.replicate_succ, List.replicate_zero, List.cons_append, List.nil_append, bt_]
 refine .seq (.rgn [] (by simp only [go_sem, seval, aj_, aa_]; rfl) ?_ ?_)
 ·first | trivial | simp
 refine .seq (.seq (.rgn [a3_ (mm_ s hs)] (by simp only [go_sem, seval, aj_, aa_]; rfl) ?_ ?_))
 ·first | trivial | simp
 refine .condB (by simp only [go_sem, seval, aj_, aa_]; rfl) (by simp only [go_sem, seval, aj_, aa_]) (fun h5 => ?_) (fun h5 => ?_)
 ·refine .seq (.rgn [] (by simp only [go_sem, seval, aj_, aa_]; rfl) ?_ ?_)
  ·first | trivial | simp
  refine .ret ⟨.inr rfl, ?_⟩
  exact Out.plain (by simp only [Tryz.results94]; rfl) (by simp only [ax_, a6_, go_sem, seval, aj_, aa_] <;> (split <;> rfl)) (by simp only [a4_, go_sem, seval, aj_, aa_] <;> (simp at h5; simp [el_, h5])) (by simp only [go_sem, seval, aj_, aa_])
 ·refine .skip (.seq (.rgn [cm_ (sok s = true) (fun h => ii_ s (do_ h) hs), cm_ (sok s = true) (fun h => he_ (sw' s) (by have := (l8_ (do_ h)).1; omega) (by have := lh_ (do_ h); omega))] (by simp only [go_sem, seval, aj_, aa_]; rfl) ?_ ?_))
  ·simp at h5; simp [h5]
  refine .ret ⟨.inr rfl, ?_⟩
  exact Out.plain (by simp only [Tryz.results94]; rfl) (by simp only [ax_, a6_, go_sem, seval, aj_, aa_] <;> (split <;> rfl)) (by simp only [a4_, go_sem, seval, aj_, aa_] <;> (simp at h5; simp [el_, h5])) (by simp only [go_sem, seval, aj_, aa_])
theorem nw_ (s : Sl) : (el_ s).length ≤ 120 := by
 unfold el_; split
 ·rename_i h; have := (jq_ h).1; omega
 ·simp
def gh_ : List Str := [[], [32], [49], [115, 97, 121, 32], [40], [120], [63], [58]]
def dT5 (b : Str) (p : Int) : Str × Int :=
 if el_ (dl5 b p).1 = [] then (el_ (dl5 b p).1, (dl5 b p).2)
 else if br_ b (dl5 b p).2 2 = 0 then (el_ (dl5 b p).1, (dl5 b p).2 + 1)
 else (xv_ b ((dl5 b p).2 + 1) gh_ (el_ (dl5 b p).1), (dl5 b p).2 + 1 + 1 + 1 + 1)
theorem amr_ (b : Str) {p : Int} (hp : 0 ≤ p) (hp2 : p < 10000000) : p ≤ (dT5 b p).2 ∧ (dT5 b p).2 ≤ p + 800 ∧ (dT5 b p).1.length ≤ 300 := by
 obtain ⟨h1, h2, h3⟩ := abt_ b (p := p) hp (by omega)
 have k1 := nw_ (dl5 b p).1
 unfold dT5
 split
 ·exact ⟨h1, by dsimp only; omega, by dsimp only; omega⟩
 ·split
  ·exact ⟨by dsimp only; omega, by dsimp only; omega, by dsimp only; omega⟩
  ·have := adh_ (b := b) (p := (dl5 b p).2 + 1) (l := gh_) (s := el_ (dl5 b p).1) 6 (by decide) (by decide) (by omega) (by omega)
   exact ⟨by dsimp only; omega, by dsimp only; omega, by dsimp only; omega⟩
theorem afu_ (b : Str) (p : Int) (hb : b.length ≤ 2000) (hp : 0 ≤ p) (hp2 : p < 10000000) (h0 : (((el_ (dl5 b p).1).length : Int) == 0) = false) : ACall En 93 [.pt 0 2 0 0] [rdB b p] [.s (dT5 b p).1] [rdB b (dT5 b p).2] := by
 obtain ⟨h1, h2, h3⟩ := abt_ b (p := p) hp (by omega)
 have k1 := nw_ (dl5 b p).1
 have T := kq_ (dl5 b p).1 h3
 have D := tx_ b p hb hp (by omega)
 have hd : dT5 b p = if el_ (dl5 b p).1 = [] then (el_ (dl5 b p).1, (dl5 b p).2) else if br_ b (dl5 b p).2 2 = 0 then (el_ (dl5 b p).1, (dl5 b p).2 + 1) else (xv_ b ((dl5 b p).2 + 1) gh_ (el_ (dl5 b p).1), (dl5 b p).2 + 1 + 1 + 1 + 1) := rfl
 have hne : (((el_ (dl5 b p).1).length : Int) == 0) = decide (el_ (dl5 b p).1 = []) := by rw [Bool.eq_iff_iff]; simp
 generalize (dl5 b p).1 = x at *
 generalize (dl5 b p).2 = q at *
 generalize el_ x = s at *
 refine al_ (fn := Tryz.f93) [0] Tryz.func93 rfl rfl (by simp) fun C => ?_
 rw [av_]
 simp only [Tryz.ntmps93, T7_, List.length_nil, Nat.reduceAdd, Nat.reduceSub, List.replicate_succ, List.replicate_zero, List.cons_append, List.nil_append, bt_]
 refine .seq (.rgn [] (by simp only [go_sem, seval, ag_, ak_, aj_, h0]; rfl) ?_ ?_)
 ·(first | trivial | (simp; done) | (obtain ⟨q1, q2, q3, q4, q5, q6, q7⟩ := jw_ (b := b) (p := q + 1) h0 (by omega) (by omega) (by omega); have q8 := hd_ (b := b) (p := q + 1 + 1) (l := gh_) (by decide) (by omega) (by omega) 6 (by decide); rw [q3]; refine ⟨⟨⟨⟨⟨⟨q1, q2, Int.le_refl _, by simp⟩, by simp [gh_, bm_, ler, les, leV], by simp⟩, by omega⟩, by simp⟩, q4, q5, Int.le_refl _⟩, ?_⟩; simp only [T2_, List.length_drop, List.length_take] at q7 ⊢; omega))
 refine .seq (.rgn [bw_ [0] [] D, a3_ T] (by simp only [go_sem, seval, ag_, ak_, aj_, h0]; rfl) ?_ ?_)
 ·(first | trivial | (simp; done) | (obtain ⟨q1, q2, q3, q4, q5, q6, q7⟩ := jw_ (b := b) (p := q + 1) h0 (by omega) (by omega) (by omega); have q8 := hd_ (b := b) (p := q + 1 + 1) (l := gh_) (by decide) (by omega) (by omega) 6 (by decide); rw [q3]; refine ⟨⟨⟨⟨⟨⟨q1, q2, Int.le_refl _, by simp⟩, by simp [gh_, bm_, ler, les, leV], by simp⟩, by omega⟩, by simp⟩, q4, q5, Int.le_refl _⟩, ?_⟩; simp only [T2_, List.length_drop, List.length_take] at q7 ⊢; omega))
 refine .seq (.seq (.rgn [bw_ [0] [] (dv_ b q 2 hb (by omega) (by omega))] (by simp only [go_sem, seval, ag_, ak_, aj_, h0]; rfl) ?_ ?_))
 ·(first | trivial | (simp; done) | (obtain ⟨q1, q2, q3, q4, q5, q6, q7⟩ := jw_ (b := b) (p := q + 1) h0 (by omega) (by omega) (by omega); have q8 := hd_ (b := b) (p := q + 1 + 1) (l := gh_) (by decide) (by omega) (by omega) 6 (by decide); rw [q3]; refine ⟨⟨⟨⟨⟨⟨q1, q2, Int.le_refl _, by simp⟩, by simp [gh_, bm_, ler, les, leV], by simp⟩, by omega⟩, by simp⟩, q4, q5, Int.le_refl _⟩, ?_⟩; simp only [T2_, List.length_drop, List.length_take] at q7 ⊢; omega))
 refine .condB (by simp only [go_sem, seval, ag_, ak_, aj_, h0]; rfl) (by simp only [go_sem, seval, ag_, ak_, aj_, h0]) (fun h15 => ?_) (fun h15 => ?_)
 ·refine .seq (.rgn [] (by simp only [go_sem, seval, ag_, ak_, aj_, h0]; rfl) ?_ ?_)
  ·(first | trivial | (simp; done) | (obtain ⟨q1, q2, q3, q4, q5, q6, q7⟩ := jw_ (b := b) (p := q + 1) h0 (by omega) (by omega) (by omega); have q8 := hd_ (b := b) (p := q + 1 + 1) (l := gh_) (by decide) (by omega) (by omega) 6 (by decide); rw [q3]; refine ⟨⟨⟨⟨⟨⟨q1, q2, Int.le_refl _, by simp⟩, by simp [gh_, bm_, ler, les, leV], by simp⟩, by omega⟩, by simp⟩, q4, q5, Int.le_refl _⟩, ?_⟩; simp only [T2_, List.length_drop, List.length_take] at q7 ⊢; omega))
  refine .ret ⟨.inr rfl, ?_⟩
  exact Out.mem' (by simp only [Tryz.results93]; rfl) (by simp only [ax_, a6_, go_sem, seval, ag_, ak_, aj_, h0]) (by simp only [a4_, rns, rn, go_sem, seval, ag_, ak_, aj_, h0] <;> (rw [h0] at hne; rw [hd, if_neg (of_decide_eq_false hne.symm), if_pos (by simpa using h15)])) (by simp) rfl (by decide) (by simp only [go_sem, seval, ag_, ak_, aj_, h0]) (by simp only [ak_, go_sem, seval, ag_, ak_, aj_, h0]) (by simp only [ag_, go_sem, seval, ag_, ak_, aj_, h0] <;> (rw [h0] at hne; rw [hd, if_neg (of_decide_eq_false hne.symm), if_pos (by simpa using h15)]))
 ·refine .skip (.seq (.rgn [bw_ [0] [] (dv_ b (q + 1) s.length hb (by omega) (by omega))] (by simp only [go_sem, seval, ag_, ak_, aj_, h0]; rfl) ?_ ?_))
  ·(first | trivial | (simp; done) | (obtain ⟨q1, q2, q3, q4, q5, q6, q7⟩ := jw_ (b := b) (p := q + 1) h0 (by omega) (by omega) (by omega); have q8 := hd_ (b := b) (p := q + 1 + 1) (l := gh_) (by decide) (by omega) (by omega) 6 (by decide); rw [q3]; refine ⟨⟨⟨⟨⟨⟨q1, q2, Int.le_refl _, by simp⟩, by simp [gh_, bm_, ler, les, leV], by simp⟩, by omega⟩, by simp⟩, q4, q5, Int.le_refl _⟩, ?_⟩; simp only [T2_, List.length_drop, List.length_take] at q7 ⊢; omega))
  refine .seq (.rgnD [bw_ [0] [] (qo_ b (q + 1 + 1) gh_ (by decide) hb (by omega) (by omega)), bw_ [0] [] (dv_ b (q + 1 + 1 + 1) 2 hb (by omega) (by omega))] enM (by simp only [go_sem, seval, ag_, ak_, aj_, h0]; rfl) (by rfl) ?_ ?_)
  ·(first | trivial | (simp; done) | (obtain ⟨q1, q2, q3, q4, q5, q6, q7⟩ := jw_ (b := b) (p := q + 1) h0 (by omega) (by omega) (by omega); have q8 := hd_ (b := b) (p := q + 1 + 1) (l := gh_) (by decide) (by omega) (by omega) 6 (by decide); rw [q3]; refine ⟨⟨⟨⟨⟨⟨q1, q2, Int.le_refl _, by simp⟩, by simp [gh_, bm_, ler, les, leV], by simp⟩, by omega⟩, by simp⟩, q4, q5, Int.le_refl _⟩, ?_⟩; simp only [T2_, List.length_drop, List.length_take] at q7 ⊢; omega))
  refine .ret ⟨.inr rfl, ?_⟩
  exact Out.mem' (by simp only [Tryz.results93]; rfl) (by simp only [ax_, a6_, go_sem, seval, ag_, ak_, aj_, h0]) (by simp only [a4_, rns, rn, go_sem, seval, ag_, ak_, aj_, h0] <;> (rw [h0] at hne; rw [hd, if_neg (of_decide_eq_false hne.symm), if_neg (by simpa using h15)]; dsimp only; rw [xv_, (jw_ (b := b) (p := q + 1) h0 (by omega) (by omega) (by omega)).2.2.1, (jw_ (b := b) (p := q + 1) h0 (by omega) (by omega) (by omega)).2.2.2.2.2.1, List.take_length])) (by simp) rfl (by decide) (by simp only [go_sem, seval, ag_, ak_, aj_, h0]) (by simp only [ak_, go_sem, seval, ag_, ak_, aj_, h0]) (by simp only [ag_, go_sem, seval, ag_, ak_, aj_, h0] <;> (rw [h0] at hne; rw [hd, if_neg (of_decide_eq_false hne.symm), if_neg (by simpa using h15)]))
theorem ad1_ (b : Str) (p : Int) (hb : b.length ≤ 2000) (hp : 0 ≤ p) (hp2 : p < 10000000) (h0 : (((el_ (dl5 b p).1).length : Int) == 0) = true) : ACall En 93 [.pt 0 2 0 0] [rdB b p] [.s (dT5 b p).1] [rdB b (dT5 b p).2] := by
 obtain ⟨h1, h2, h3⟩ := abt_ b (p := p) hp (by omega)
 have k1 := nw_ (dl5 b p).1
 have T := kq_ (dl5 b p).1 h3
 have D := tx_ b p hb hp (by omega)
 have hd : dT5 b p = if el_ (dl5 b p).1 = [] then (el_ (dl5 b p).1, (dl5 b p).2) else if br_ b (dl5 b p).2 2 = 0 then (el_ (dl5 b p).1, (dl5 b p).2 + 1) else (xv_ b ((dl5 b p).2 + 1) gh_ (el_ (dl5 b p).1), (dl5 b p).2 + 1 + 1 + 1 + 1) := rfl
 have hne : (((el_ (dl5 b p).1).length : Int) == 0) = decide (el_ (dl5 b p).1 = []) := by rw [Bool.eq_iff_iff]; simp
 generalize (dl5 b p).1 = x at *
 generalize (dl5 b p).2 = q at *
 generalize el_ x = s at *
 refine al_ (fn := Tryz.f93) [0] Tryz.func93 rfl rfl (by simp) fun C => ?_
 rw [av_]
 simp only [Tryz.ntmps93, T7_, List.length_nil, Nat.reduceAdd, Nat.reduceSub, List.replicate_succ, List.replicate_zero, List.cons_append, List.nil_append, bt_]
 refine .seq (.rgn [] (by simp only [go_sem, seval, ag_, ak_, aj_, h0]; rfl) ?_ ?_)
 ·first | trivial | simp
 refine .seq (.rgn [bw_ [0] [] D, a3_ T] (by simp only [go_sem, seval, ag_, ak_, aj_, h0]; rfl) ?_ ?_)
 ·first | trivial | simp
 refine .seq (.seq (.rgn [bw_ [0] [] (dv_ b q 2 hb (by omega) (by omega))] (by simp only [go_sem, seval, ag_, ak_, aj_, h0]; rfl) ?_ ?_))
 ·first | trivial | simp
 refine .condB (by simp only [go_sem, seval, ag_, ak_, aj_, h0]; rfl) (by simp only [go_sem, seval, ag_, ak_, aj_, h0]) (fun h15 => ?_) (fun h15 => ?_)
 ·refine .seq (.rgn [] (by simp only [go_sem, seval, ag_, ak_, aj_, h0]; rfl) ?_ ?_)
  ·first | trivial | simp
  refine .ret ⟨.inr rfl, ?_⟩
  exact Out.mem' (by simp only [Tryz.results93]; rfl) (by simp only [ax_, a6_, go_sem, seval, ag_, ak_, aj_, h0]) (by simp only [a4_, rns, rn, go_sem, seval, ag_, ak_, aj_, h0] <;> (rw [h0] at hne; rw [hd, if_pos (of_decide_eq_true hne.symm)])) (by simp) rfl (by decide) (by simp only [go_sem, seval, ag_, ak_, aj_, h0]) (by simp only [ak_, go_sem, seval, ag_, ak_, aj_, h0]) (by simp only [ag_, go_sem, seval, ag_, ak_, aj_, h0] <;> (rw [h0] at hne; rw [hd, if_pos (of_decide_eq_true hne.symm)]))
 ·simp at h15
theorem aei_ (b : Str) (p : Int) (hb : b.length ≤ 2000) (hp : 0 ≤ p) (hp2 : p < 10000000) : ACall En 93 [.pt 0 2 0 0] [rdB b p] [.s (dT5 b p).1] [rdB b (dT5 b p).2] := by
 cases h0 : (((el_ (dl5 b p).1).length : Int) == 0) with
 | true => exact ad1_ b p hb hp hp2 h0
 | false => exact afu_ b p hb hp hp2 h0
def dTo (b : Str) (p : Int) : Str × Int := if br_ b p 5 = 0 then dT5 b (p + 1) else (el_ (cn_ b (p + 1)).1, (cn_ b (p + 1)).2)
theorem af5_ (b : Str) {p : Int} (hp : 0 ≤ p) (hp2 : p < 5000000) : p ≤ (dTo b p).2 ∧ (dTo b p).2 ≤ p + 1000 ∧ (dTo b p).1.length ≤ 300 := by
 obtain ⟨h1, h2, h3⟩ := amr_ b (p := p + 1) (by omega) (by omega)
 obtain ⟨q1, q2, _⟩ := k0_ b (p := p + 1) (by omega) (by omega)
 have k1 := nw_ (cn_ b (p + 1)).1
 unfold dTo
 split
 ·exact ⟨by omega, by omega, h3⟩
 ·exact ⟨by dsimp only; omega, by dsimp only; omega, by dsimp only; omega⟩
theorem r0_ (b : Str) (p : Int) (hb : b.length ≤ 2000) (hp : 0 ≤ p) (hp2 : p < 5000000) : ACall En 63 [.pt 0 2 0 0] [rdB b p] [.s (dTo b p).1] [rdB b (dTo b p).2] := by
 have D := aei_ b (p + 1) hb (by omega) (by omega)
 have D2 := v6_ b (p + 1) hb (by omega) (by omega)
 obtain ⟨q1, q2, q3, _⟩ := k0_ b (p := p + 1) (by omega) (by omega)
 have T := kq_ (cn_ b (p + 1)).1 q3
 have hd : dTo b p = if br_ b p 5 = 0 then dT5 b (p + 1) else (el_ (cn_ b (p + 1)).1, (cn_ b (p + 1)).2) := rfl
 generalize dT5 b (p + 1) = u at *
 generalize cn_ b (p + 1) = v at *
 refine al_ (fn := Tryz.f63) [0] Tryz.func63 rfl rfl (by simp) fun C => ?_
 rw [av_]
 simp only [Tryz.ntmps63, T7_, List.length_nil, Nat.reduceAdd, Nat.reduceSub, List.replicate_succ, List.replicate_zero, List.cons_append, List.nil_append, bt_]
 refine .seq (.rgn [] (by simp only [go_sem, seval, ag_, ak_, aj_]; rfl) ?_ ?_)
 ·first | trivial | simp
 refine .seq (.seq (.rgn [bw_ [0] [] (dv_ b p 5 hb hp (by omega))] (by simp only [go_sem, seval, ag_, ak_, aj_]; rfl) ?_ ?_))
 ·first | trivial | simp
 refine .condB (by simp only [go_sem, seval, ag_, ak_, aj_]; rfl) (by simp only [go_sem, seval, ag_, ak_, aj_]) (fun h5 => ?_) (fun h5 => ?_)
 ·refine .seq (.rgn [bw_ [0] [] D] (by simp only [go_sem, seval, ag_, ak_, aj_]; rfl) ?_ ?_)
  ·first | trivial | simp
  refine .ret ⟨.inr rfl, ?_⟩
  exact Out.mem' (by simp only [Tryz.results63]; rfl) (by simp only [ax_, a6_, go_sem, seval, ag_, ak_, aj_]) (by simp only [a4_, rns, rn, go_sem, seval, ag_, ak_, aj_] <;> (rw [hd, if_pos (by simpa using h5)])) (by simp) rfl (by decide) (by simp only [go_sem, seval, ag_, ak_, aj_]) (by simp only [ak_, go_sem, seval, ag_, ak_, aj_]) (by simp only [ag_, go_sem, seval, ag_, ak_, aj_] <;> (rw [hd, if_pos (by simpa using h5)]))
 ·refine .skip (.seq (.rgn [bw_ [0] [] D2, a3_ T] (by simp only [go_sem, seval, ag_, ak_, aj_]; rfl) ?_ ?_))
  ·first | trivial | simp
  refine .ret ⟨.inr rfl, ?_⟩
  exact Out.mem' (by simp only [Tryz.results63]; rfl) (by simp only [ax_, a6_, go_sem, seval, ag_, ak_, aj_]) (by simp only [a4_, rns, rn, go_sem, seval, ag_, ak_, aj_] <;> (rw [hd, if_neg (by simpa using h5)])) (by simp) rfl (by decide) (by simp only [go_sem, seval, ag_, ak_, aj_]) (by simp only [ak_, go_sem, seval, ag_, ak_, aj_]) (by simp only [ag_, go_sem, seval, ag_, ak_, aj_] <;> (rw [hd, if_neg (by simpa using h5)]))
end
section
set_option maxRecDepth 100000
set_option maxHeartbeats 4000000
end
section
set_option maxRecDepth 100000
set_option maxHeartbeats 4000000
end
end Go.Proofs.YtpikbndepapbhaaGreatDoor
