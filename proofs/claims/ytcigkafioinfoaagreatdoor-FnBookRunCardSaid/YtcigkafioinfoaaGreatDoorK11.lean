/- Lines, drawn and torn. Conditions: none. -/
import Derived.Test.YtcigkafioinfoaaGreatDoorK10
import Derived.Test.YtcigkafioinfoaaGreatDoorK8
set_option linter.unusedVariables false
set_option linter.unusedSimpArgs false
namespace Go.Proofs.YtcigkafioinfoaaGreatDoor
section
set_option maxRecDepth 100000
set_option maxHeartbeats 4000000
theorem kp_ (s : Sl) (hs : ea_ s = true) : ACall En 228 [.ag (sC s)] [] [.s (ec_ s)] [] := by
 refine aj_ (fn := Tryz.f228) [] Tryz.func228 rfl rfl (by simp) fun C => ?_
 rw [ay_]
 simp only [Tryz.ntmps228, T7_, List.length_nil, Nat.reduceAdd, Nat.reduceSub, List.replicate_succ, List.replicate_zero, List.cons_append, List.nil_append, bu_]
 refine .seq (.rgn [] (by simp only [go_sem, seval, ag_, aa_]; rfl) ?_ ?_)
 ·first | trivial | simp
 refine .seq (.seq (.rgn [a8_ (m3_ s hs)] (by simp only [go_sem, seval, ag_, aa_]; rfl) ?_ ?_))
 ·first | trivial | simp
 refine .condB (by simp only [go_sem, seval, ag_, aa_]; rfl) (by simp only [go_sem, seval, ag_, aa_]) (fun h5 => ?_) (fun h5 => ?_)
 ·refine .seq (.rgn [] (by simp only [go_sem, seval, ag_, aa_]; rfl) ?_ ?_)
  ·first | trivial | simp
  refine .ret ⟨.inr rfl, ?_⟩
  exact Out.plain (by simp only [Tryz.results228]; rfl) (by simp only [az_, bc_, go_sem, seval, ag_, aa_] <;> (split <;> rfl)) (by simp only [bb_, go_sem, seval, ag_, aa_] <;> (simp at h5; simp [ec_, h5])) (by simp only [go_sem, seval, ag_, aa_])
 ·refine .skip (.seq (.rgn [ce_ (sok s = true) (fun h => h6_ s (dk_ h) hs), ce_ (sok s = true) (fun h => g7_ (sw' s) (by have := (k5_ (dk_ h)).1; omega) (by have := li_ (dk_ h); omega))] (by simp only [go_sem, seval, ag_, aa_]; rfl) ?_ ?_))
  ·simp at h5; simp [h5]
  refine .ret ⟨.inr rfl, ?_⟩
  exact Out.plain (by simp only [Tryz.results228]; rfl) (by simp only [az_, bc_, go_sem, seval, ag_, aa_] <;> (split <;> rfl)) (by simp only [bb_, go_sem, seval, ag_, aa_] <;> (simp at h5; simp [ec_, h5])) (by simp only [go_sem, seval, ag_, aa_])
theorem ob_ (s : Sl) : (ec_ s).length ≤ 120 := by
 unfold ec_; split
 ·rename_i h; have := (jb_ h).1; omega
 ·simp
def gh_ : List Str := [[], [32], [49], [115, 97, 121, 32], [40], [120], [63], [58]]
def dT5 (b : Str) (p : Int) : Str × Int :=
 if ec_ (dl5 b p).1 = [] then (ec_ (dl5 b p).1, (dl5 b p).2)
 else if br_ b (dl5 b p).2 2 = 0 then (ec_ (dl5 b p).1, (dl5 b p).2 + 1)
 else (yp_ b ((dl5 b p).2 + 1) gh_ (ec_ (dl5 b p).1), (dl5 b p).2 + 1 + 1 + 1 + 1)
theorem ani_ (b : Str) {p : Int} (hp : 0 ≤ p) (hp2 : p < 10000000) : p ≤ (dT5 b p).2 ∧ (dT5 b p).2 ≤ p + 800 ∧ (dT5 b p).1.length ≤ 300 := by
 obtain ⟨h1, h2, h3⟩ := adt_ b (p := p) hp (by omega)
 have k1 := ob_ (dl5 b p).1
 unfold dT5
 split
 ·exact ⟨h1, by dsimp only; omega, by dsimp only; omega⟩
 ·split
  ·exact ⟨by dsimp only; omega, by dsimp only; omega, by dsimp only; omega⟩
  ·have := afg_ (b := b) (p := (dl5 b p).2 + 1) (l := gh_) (s := ec_ (dl5 b p).1) 6 (by decide) (by decide) (by omega) (by omega)
   exact ⟨by dsimp only; omega, by dsimp only; omega, by dsimp only; omega⟩
theorem ac5_ (b : Str) (p : Int) (hb : b.length ≤ 2000) (hp : 0 ≤ p) (hp2 : p < 10000000) (h0 : (((ec_ (dl5 b p).1).length : Int) == 0) = false) : ACall En 227 [.pt 0 2 0 0] [rdB b p] [.s (dT5 b p).1] [rdB b (dT5 b p).2] := by
 obtain ⟨h1, h2, h3⟩ := adt_ b (p := p) hp (by omega)
 have k1 := ob_ (dl5 b p).1
 have T := kp_ (dl5 b p).1 h3
 have D := xv_ b p hb hp (by omega)
 have hd : dT5 b p = if ec_ (dl5 b p).1 = [] then (ec_ (dl5 b p).1, (dl5 b p).2) else if br_ b (dl5 b p).2 2 = 0 then (ec_ (dl5 b p).1, (dl5 b p).2 + 1) else (yp_ b ((dl5 b p).2 + 1) gh_ (ec_ (dl5 b p).1), (dl5 b p).2 + 1 + 1 + 1 + 1) := rfl
 have hne : (((ec_ (dl5 b p).1).length : Int) == 0) = decide (ec_ (dl5 b p).1 = []) := by rw [Bool.eq_iff_iff]; simp
 generalize (dl5 b p).1 = x at *
 generalize (dl5 b p).2 = q at *
 generalize ec_ x = s at *
 refine aj_ (fn := Tryz.f227) [0] Tryz.func227 rfl rfl (by simp) fun C => ?_
 rw [ay_]
 simp only [Tryz.ntmps227, T7_, List.length_nil, Nat.reduceAdd, Nat.reduceSub, List.replicate_succ, List.replicate_zero, List.cons_append, List.nil_append, bu_]
 refine .seq (.rgn [] (by simp only [go_sem, seval, ai_, ao_, ag_, h0]; rfl) ?_ ?_)
 ·(first | trivial | (simp; done) | (obtain ⟨q1, q2, q3, q4, q5, q6, q7⟩ := jm_ (b := b) (p := q + 1) h0 (by omega) (by omega) (by omega); have q8 := hc_ (b := b) (p := q + 1 + 1) (l := gh_) (by decide) (by omega) (by omega) 6 (by decide); rw [q3]; refine ⟨⟨⟨⟨⟨⟨q1, q2, Int.le_refl _, by simp⟩, by simp [gh_, bo_, ler, les, leV], by simp⟩, by omega⟩, by simp⟩, q4, q5, Int.le_refl _⟩, ?_⟩; simp only [T2_, List.length_drop, List.length_take] at q7 ⊢; omega))
 refine .seq (.rgn [bx_ [0] [] D, a8_ T] (by simp only [go_sem, seval, ai_, ao_, ag_, h0]; rfl) ?_ ?_)
 ·(first | trivial | (simp; done) | (obtain ⟨q1, q2, q3, q4, q5, q6, q7⟩ := jm_ (b := b) (p := q + 1) h0 (by omega) (by omega) (by omega); have q8 := hc_ (b := b) (p := q + 1 + 1) (l := gh_) (by decide) (by omega) (by omega) 6 (by decide); rw [q3]; refine ⟨⟨⟨⟨⟨⟨q1, q2, Int.le_refl _, by simp⟩, by simp [gh_, bo_, ler, les, leV], by simp⟩, by omega⟩, by simp⟩, q4, q5, Int.le_refl _⟩, ?_⟩; simp only [T2_, List.length_drop, List.length_take] at q7 ⊢; omega))
 refine .seq (.seq (.rgn [bx_ [0] [] (dx_ b q 2 hb (by omega) (by omega))] (by simp only [go_sem, seval, ai_, ao_, ag_, h0]; rfl) ?_ ?_))
 ·(first | trivial | (simp; done) | (obtain ⟨q1, q2, q3, q4, q5, q6, q7⟩ := jm_ (b := b) (p := q + 1) h0 (by omega) (by omega) (by omega); have q8 := hc_ (b := b) (p := q + 1 + 1) (l := gh_) (by decide) (by omega) (by omega) 6 (by decide); rw [q3]; refine ⟨⟨⟨⟨⟨⟨q1, q2, Int.le_refl _, by simp⟩, by simp [gh_, bo_, ler, les, leV], by simp⟩, by omega⟩, by simp⟩, q4, q5, Int.le_refl _⟩, ?_⟩; simp only [T2_, List.length_drop, List.length_take] at q7 ⊢; omega))
 refine .condB (by simp only [go_sem, seval, ai_, ao_, ag_, h0]; rfl) (by simp only [go_sem, seval, ai_, ao_, ag_, h0]) (fun h15 => ?_) (fun h15 => ?_)
 ·refine .seq (.rgn [] (by simp only [go_sem, seval, ai_, ao_, ag_, h0]; rfl) ?_ ?_)
  ·(first | trivial | (simp; done) | (obtain ⟨q1, q2, q3, q4, q5, q6, q7⟩ := jm_ (b := b) (p := q + 1) h0 (by omega) (by omega) (by omega); have q8 := hc_ (b := b) (p := q + 1 + 1) (l := gh_) (by decide) (by omega) (by omega) 6 (by decide); rw [q3]; refine ⟨⟨⟨⟨⟨⟨q1, q2, Int.le_refl _, by simp⟩, by simp [gh_, bo_, ler, les, leV], by simp⟩, by omega⟩, by simp⟩, q4, q5, Int.le_refl _⟩, ?_⟩; simp only [T2_, List.length_drop, List.length_take] at q7 ⊢; omega))
  refine .ret ⟨.inr rfl, ?_⟩
  exact Out.mem' (by simp only [Tryz.results227]; rfl) (by simp only [az_, bc_, go_sem, seval, ai_, ao_, ag_, h0]) (by simp only [bb_, rns, rn, go_sem, seval, ai_, ao_, ag_, h0] <;> (rw [h0] at hne; rw [hd, if_neg (of_decide_eq_false hne.symm), if_pos (by simpa using h15)])) (by simp) rfl (by decide) (by simp only [go_sem, seval, ai_, ao_, ag_, h0]) (by simp only [ao_, go_sem, seval, ai_, ao_, ag_, h0]) (by simp only [ai_, go_sem, seval, ai_, ao_, ag_, h0] <;> (rw [h0] at hne; rw [hd, if_neg (of_decide_eq_false hne.symm), if_pos (by simpa using h15)]))
 ·refine .skip (.seq (.rgn [bx_ [0] [] (dx_ b (q + 1) s.length hb (by omega) (by omega))] (by simp only [go_sem, seval, ai_, ao_, ag_, h0]; rfl) ?_ ?_))
  ·(first | trivial | (simp; done) | (obtain ⟨q1, q2, q3, q4, q5, q6, q7⟩ := jm_ (b := b) (p := q + 1) h0 (by omega) (by omega) (by omega); have q8 := hc_ (b := b) (p := q + 1 + 1) (l := gh_) (by decide) (by omega) (by omega) 6 (by decide); rw [q3]; refine ⟨⟨⟨⟨⟨⟨q1, q2, Int.le_refl _, by simp⟩, by simp [gh_, bo_, ler, les, leV], by simp⟩, by omega⟩, by simp⟩, q4, q5, Int.le_refl _⟩, ?_⟩; simp only [T2_, List.length_drop, List.length_take] at q7 ⊢; omega))
  refine .seq (.rgnD [bx_ [0] [] (qy_ b (q + 1 + 1) gh_ (by decide) hb (by omega) (by omega)), bx_ [0] [] (dx_ b (q + 1 + 1 + 1) 2 hb (by omega) (by omega))] enM (by simp only [go_sem, seval, ai_, ao_, ag_, h0]; rfl) (by rfl) ?_ ?_)
  ·(first | trivial | (simp; done) | (obtain ⟨q1, q2, q3, q4, q5, q6, q7⟩ := jm_ (b := b) (p := q + 1) h0 (by omega) (by omega) (by omega); have q8 := hc_ (b := b) (p := q + 1 + 1) (l := gh_) (by decide) (by omega) (by omega) 6 (by decide); rw [q3]; refine ⟨⟨⟨⟨⟨⟨q1, q2, Int.le_refl _, by simp⟩, by simp [gh_, bo_, ler, les, leV], by simp⟩, by omega⟩, by simp⟩, q4, q5, Int.le_refl _⟩, ?_⟩; simp only [T2_, List.length_drop, List.length_take] at q7 ⊢; omega))
  refine .ret ⟨.inr rfl, ?_⟩
  exact Out.mem' (by simp only [Tryz.results227]; rfl) (by simp only [az_, bc_, go_sem, seval, ai_, ao_, ag_, h0]) (by simp only [bb_, rns, rn, go_sem, seval, ai_, ao_, ag_, h0] <;> (rw [h0] at hne; rw [hd, if_neg (of_decide_eq_false hne.symm), if_neg (by simpa using h15)]; dsimp only; rw [yp_, (jm_ (b := b) (p := q + 1) h0 (by omega) (by omega) (by omega)).2.2.1, (jm_ (b := b) (p := q + 1) h0 (by omega) (by omega) (by omega)).2.2.2.2.2.1, List.take_length])) (by simp) rfl (by decide) (by simp only [go_sem, seval, ai_, ao_, ag_, h0]) (by simp only [ao_, go_sem, seval, ai_, ao_, ag_, h0]) (by simp only [ai_, go_sem, seval, ai_, ao_, ag_, h0] <;> (rw [h0] at hne; rw [hd, if_neg (of_decide_eq_false hne.symm), if_neg (by simpa using h15)]))
theorem ahk_ (b : Str) (p : Int) (hb : b.length ≤ 2000) (hp : 0 ≤ p) (hp2 : p < 10000000) (h0 : (((ec_ (dl5 b p).1).length : Int) == 0) = true) : ACall En 227 [.pt 0 2 0 0] [rdB b p] [.s (dT5 b p).1] [rdB b (dT5 b p).2] := by
 obtain ⟨h1, h2, h3⟩ := adt_ b (p := p) hp (by omega)
 have k1 := ob_ (dl5 b p).1
 have T := kp_ (dl5 b p).1 h3
 have D := xv_ b p hb hp (by omega)
 have hd : dT5 b p = if ec_ (dl5 b p).1 = [] then (ec_ (dl5 b p).1, (dl5 b p).2) else if br_ b (dl5 b p).2 2 = 0 then (ec_ (dl5 b p).1, (dl5 b p).2 + 1) else (yp_ b ((dl5 b p).2 + 1) gh_ (ec_ (dl5 b p).1), (dl5 b p).2 + 1 + 1 + 1 + 1) := rfl
 have hne : (((ec_ (dl5 b p).1).length : Int) == 0) = decide (ec_ (dl5 b p).1 = []) := by rw [Bool.eq_iff_iff]; simp
 generalize (dl5 b p).1 = x at *
 generalize (dl5 b p).2 = q at *
 generalize ec_ x = s at *
 refine aj_ (fn := Tryz.f227) [0] Tryz.func227 rfl rfl (by simp) fun C => ?_
 rw [ay_]
 simp only [Tryz.ntmps227, T7_, List.length_nil, Nat.reduceAdd, Nat.reduceSub, List.replicate_succ, List.replicate_zero, List.cons_append, List.nil_append, bu_]
 refine .seq (.rgn [] (by simp only [go_sem, seval, ai_, ao_, ag_, h0]; rfl) ?_ ?_)
 ·first | trivial | simp
 refine .seq (.rgn [bx_ [0] [] D, a8_ T] (by simp only [go_sem, seval, ai_, ao_, ag_, h0]; rfl) ?_ ?_)
 ·first | trivial | simp
 refine .seq (.seq (.rgn [bx_ [0] [] (dx_ b q 2 hb (by omega) (by omega))] (by simp only [go_sem, seval, ai_, ao_, ag_, h0]; rfl) ?_ ?_))
 ·first | trivial | simp
 refine .condB (by simp only [go_sem, seval, ai_, ao_, ag_, h0]; rfl) (by simp only [go_sem, seval, ai_, ao_, ag_, h0]) (fun h15 => ?_) (fun h15 => ?_)
 ·refine .seq (.rgn [] (by simp only [go_sem, seval, ai_, ao_, ag_, h0]; rfl) ?_ ?_)
  ·first | trivial | simp
  refine .ret ⟨.inr rfl, ?_⟩
  exact Out.mem' (by simp only [Tryz.results227]; rfl) (by simp only [az_, bc_, go_sem, seval, ai_, ao_, ag_, h0]) (by simp only [bb_, rns, rn, go_sem, seval, ai_, ao_, ag_, h0] <;> (rw [h0] at hne; rw [hd, if_pos (of_decide_eq_true hne.symm)])) (by simp) rfl (by decide) (by simp only [go_sem, seval, ai_, ao_, ag_, h0]) (by simp only [ao_, go_sem, seval, ai_, ao_, ag_, h0]) (by simp only [ai_, go_sem, seval, ai_, ao_, ag_, h0] <;> (rw [h0] at hne; rw [hd, if_pos (of_decide_eq_true hne.symm)]))
 ·simp at h15
theorem aea_ (b : Str) (p : Int) (hb : b.length ≤ 2000) (hp : 0 ≤ p) (hp2 : p < 10000000) : ACall En 227 [.pt 0 2 0 0] [rdB b p] [.s (dT5 b p).1] [rdB b (dT5 b p).2] := by
 cases h0 : (((ec_ (dl5 b p).1).length : Int) == 0) with
 | true => exact ahk_ b p hb hp hp2 h0
 | false => exact ac5_ b p hb hp hp2 h0
def dTo (b : Str) (p : Int) : Str × Int := if br_ b p 5 = 0 then dT5 b (p + 1) else (ec_ (cg_ b (p + 1)).1, (cg_ b (p + 1)).2)
theorem akt_ (b : Str) {p : Int} (hp : 0 ≤ p) (hp2 : p < 5000000) : p ≤ (dTo b p).2 ∧ (dTo b p).2 ≤ p + 1000 ∧ (dTo b p).1.length ≤ 300 := by
 obtain ⟨h1, h2, h3⟩ := ani_ b (p := p + 1) (by omega) (by omega)
 obtain ⟨q1, q2, _⟩ := lj_ b (p := p + 1) (by omega) (by omega)
 have k1 := ob_ (cg_ b (p + 1)).1
 unfold dTo
 split
 ·exact ⟨by omega, by omega, h3⟩
 ·exact ⟨by dsimp only; omega, by dsimp only; omega, by dsimp only; omega⟩
theorem aby_ (b : Str) (p : Int) (hb : b.length ≤ 2000) (hp : 0 ≤ p) (hp2 : p < 5000000) : ACall En 183 [.pt 0 2 0 0] [rdB b p] [.s (dTo b p).1] [rdB b (dTo b p).2] := by
 have D := aea_ b (p + 1) hb (by omega) (by omega)
 have D2 := xe_ b (p + 1) hb (by omega) (by omega)
 obtain ⟨q1, q2, q3, _⟩ := lj_ b (p := p + 1) (by omega) (by omega)
 have T := kp_ (cg_ b (p + 1)).1 q3
 have hd : dTo b p = if br_ b p 5 = 0 then dT5 b (p + 1) else (ec_ (cg_ b (p + 1)).1, (cg_ b (p + 1)).2) := rfl
 generalize dT5 b (p + 1) = u at *
 generalize cg_ b (p + 1) = v at *
 refine aj_ (fn := Tryz.f183) [0] Tryz.func183 rfl rfl (by simp) fun C => ?_
 rw [ay_]
 simp only [Tryz.ntmps183, T7_, List.length_nil, Nat.reduceAdd, Nat.reduceSub, List.replicate_succ, List.replicate_zero, List.cons_append, List.nil_append, bu_]
 refine .seq (.rgn [] (by simp only [go_sem, seval, ai_, ao_, ag_]; rfl) ?_ ?_)
 ·first | trivial | simp
 refine .seq (.seq (.rgn [bx_ [0] [] (dx_ b p 5 hb hp (by omega))] (by simp only [go_sem, seval, ai_, ao_, ag_]; rfl) ?_ ?_))
 ·first | trivial | simp
 refine .condB (by simp only [go_sem, seval, ai_, ao_, ag_]; rfl) (by simp only [go_sem, seval, ai_, ao_, ag_]) (fun h5 => ?_) (fun h5 => ?_)
 ·refine .seq (.rgn [bx_ [0] [] D] (by simp only [go_sem, seval, ai_, ao_, ag_]; rfl) ?_ ?_)
  ·first | trivial | simp
  refine .ret ⟨.inr rfl, ?_⟩
  exact Out.mem' (by simp only [Tryz.results183]; rfl) (by simp only [az_, bc_, go_sem, seval, ai_, ao_, ag_]) (by simp only [bb_, rns, rn, go_sem, seval, ai_, ao_, ag_] <;> (rw [hd, if_pos (by simpa using h5)])) (by simp) rfl (by decide) (by simp only [go_sem, seval, ai_, ao_, ag_]) (by simp only [ao_, go_sem, seval, ai_, ao_, ag_]) (by simp only [ai_, go_sem, seval, ai_, ao_, ag_] <;> (rw [hd, if_pos (by simpa using h5)]))
 ·refine .skip (.seq (.rgn [bx_ [0] [] D2, a8_ T] (by simp only [go_sem, seval, ai_, ao_, ag_]; rfl) ?_ ?_))
  ·first | trivial | simp
  refine .ret ⟨.inr rfl, ?_⟩
  exact Out.mem' (by simp only [Tryz.results183]; rfl) (by simp only [az_, bc_, go_sem, seval, ai_, ao_, ag_]) (by simp only [bb_, rns, rn, go_sem, seval, ai_, ao_, ag_] <;> (rw [hd, if_neg (by simpa using h5)])) (by simp) rfl (by decide) (by simp only [go_sem, seval, ai_, ao_, ag_]) (by simp only [ao_, go_sem, seval, ai_, ao_, ag_]) (by simp only [ai_, go_sem, seval, ai_, ao_, ag_] <;> (rw [hd, if_neg (by simpa using h5)]))
end
section
set_option maxRecDepth 100000
set_option maxHeartbeats 4000000
end
section
set_option maxRecDepth 100000
set_option maxHeartbeats 4000000
end
end Go.Proofs.YtcigkafioinfoaaGreatDoor
