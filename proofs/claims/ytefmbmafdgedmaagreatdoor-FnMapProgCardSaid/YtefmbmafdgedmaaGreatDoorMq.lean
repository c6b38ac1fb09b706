/- Programs: lists of lines; whether they are ok; what they are turned into. Conditions: none. -/
import Derived.Test.YtefmbmafdgedmaaGreatDoorMo
import Derived.Test.YtefmbmafdgedmaaGreatDoorMx
import Derived.Test.YtefmbmafdgedmaaGreatDoorMl
set_option linter.unusedVariables false
set_option linter.unusedSimpArgs false
namespace Go.Proofs.YtefmbmafdgedmaaGreatDoor
section
set_option maxRecDepth 100000
set_option maxHeartbeats 4000000
theorem vw_ (s : Sl) (hs : d7_ s = true) : ACall En 88 [.ag (sC s)] [] [.b (!sok s)] [] := by
 refine ap_ (fn := Tryz.f88) [] Tryz.func88 rfl rfl (by simp) fun C => ?_
 rw [a0_]
 simp only [Tryz.ntmps88, List.length_cons, List.length_nil, Nat.reduceAdd, Nat.reduceSub, List.replicate_succ, List.replicate_zero, List.cons_append, List.nil_append, bq_]
 refine .seq (.rgn [] (by simp only [go_sem, seval, ae_]; rfl) ?_ ?_)
 ·first | trivial | simp
 refine .seq (.rgn [a5_ (v0_ s hs)] (by simp only [go_sem, seval, ae_]; rfl) ?_ ?_)
 ·first | trivial | simp
 refine .ret ⟨.inr rfl, ?_⟩
 exact Out.plain (by simp only [Tryz.results88]; rfl) (by simp only [a1_, bc_, go_sem, seval, ae_] <;> (split <;> rfl)) (by simp only [ba_, go_sem, seval, ae_] <;> (rfl)) (by simp only [go_sem, seval, ae_])
theorem adp_ (l : List Sl) (hs : kt_ l = true) (hl : l.length < 4611686018427387904) : ACall En 140 [.sl false (sR l), .fn (.func 88) [] []] [] [.i .i64 (td_ (fun s => !sok s) l)] [] := by
 refine ap_ (fn := Tryz.f140) [] Tryz.func140 rfl rfl (by simp) fun C => ?_
 rw [a0_]
 simp only [Tryz.ntmps140, List.length_cons, List.length_nil, Nat.reduceAdd, Nat.reduceSub, List.replicate_succ, List.replicate_zero, List.cons_append, List.nil_append, bq_]
 refine .seq (.rgn [] (by simp only [go_sem, seval, am_, ai_, ae_]; rfl) ?_ ?_)
 ·first | trivial | simp
 refine .seq (.seq (.rgn [] (by simp only [go_sem, seval, am_, ai_, ae_]; rfl) ?_ ?_))
 ·first | trivial | simp
 refine .block (.loopK (fun k : Nat => ⟨[.sl false (sR l), .fn (.func 88) [] [], .no, .no, .no, .no, .no, .i .i64 l.length, .i .i64 k, .no, .no, .no, .no, .no, .no, .no, .no, .no, .no], a6_ [], us []⟩) (fun k : Nat => k ≤ l.length ∧ (l.take k).any (fun s => !sok s) = false) (fun k : Nat => l.length - k) (0) ?_ ?_ (fun k hI => ?_))
 ·simp
 ·exact Can.weak (Weak.lit (by simp only [go_sem, seval, am_, ai_, ae_, aw_, leV, at_, au_, V.inn, us, true_or, or_true] <;> (simp)) (by simp only [go_sem, seval, am_, ai_, ae_, aw_, leV, at_, au_, V.inn, us, true_or, or_true]) (by simp only [go_sem, seval, am_, ai_, ae_, aw_, leV, at_, au_, V.inn, us, true_or, or_true]))
 refine .seq (.rgn [] (by simp only [go_sem, seval, am_, ai_, ae_]; rfl) ?_ ?_)
 ·first | trivial | simp
 refine .seq (.condB (by simp only [go_sem, seval, am_, ai_, ae_]; rfl) (by simp only [go_sem, seval, am_, ai_, ae_]) (fun h9 => ?_) (fun h9 => ?_))
 ·refine .skip (.seq (.block (.seq (.rgn [] (by simp only [go_sem, seval, am_, ai_, ae_]; rfl) ?_ ?_))))
  ·first | trivial | simp
  refine .seq (.rgn [dg_ (k < l.length) (fun h => vw_ (l.getD k S0) (ik_ hs h))] (by simp only [go_sem, seval, am_, ai_, ae_, lw_ (show k < l.length by simpa using h9)]; rfl) ?_ ?_)
  ·simp only [decide_eq_true_eq] at h9; simp; omega
  refine .condB (by simp only [go_sem, seval, am_, ai_, ae_]; rfl) (by simp only [go_sem, seval, am_, ai_, ae_]) (fun h16 => ?_) (fun h16 => ?_)
  ·refine .seq (.rgn [] (by simp only [go_sem, seval, am_, ai_, ae_]; rfl) ?_ ?_)
   ·first | trivial | simp
   refine .ret ⟨.inr rfl, ?_⟩
   exact Out.plain (by simp only [Tryz.results140]; rfl) (by simp only [a1_, bc_, go_sem, seval, am_, ai_, ae_] <;> (split <;> rfl)) (by simp only [ba_, go_sem, seval, am_, ai_, ae_] <;> (simp at h9; rw [abs_ (d := S0) h9 hI.2 h16])) (by simp only [go_sem, seval, am_, ai_, ae_])
  ·refine .skip (.rgn [] (by simp only [go_sem, seval, am_, ai_, ae_]; rfl) ?_ ?_)
   ·first | trivial | simp
   refine Exists.intro (k + 1) ⟨?_, ?_, ?_⟩
   ·simp at h9; refine ⟨by omega, ?_⟩; rw [rv_ (d := S0) h9, hI.2, h16]; rfl
   ·simp at h9; omega
   exact Can.weak (Weak.lit (by simp only [go_sem, seval, am_, ai_, ae_, aw_, leV, at_, au_, V.inn, us, true_or, or_true] <;> (rw [a7_ (by omega) (by omega)]; simp)) (by simp only [go_sem, seval, am_, ai_, ae_, aw_, leV, at_, au_, V.inn, us, true_or, or_true]) (by simp only [go_sem, seval, am_, ai_, ae_, aw_, leV, at_, au_, V.inn, us, true_or, or_true]))
 ·refine .exit (.seq (.rgn [] (by simp only [go_sem, seval, am_, ai_, ae_]; rfl) ?_ ?_))
  ·first | trivial | simp
  refine .ret ⟨.inr rfl, ?_⟩
  exact Out.plain (by simp only [Tryz.results140]; rfl) (by simp only [a1_, bc_, go_sem, seval, am_, ai_, ae_] <;> (split <;> rfl)) (by simp only [ba_, go_sem, seval, am_, ai_, ae_] <;> (simp at h9; have h0 := hI.2; rw [List.take_of_length_le h9] at h0; rw [vs_ h0])) (by simp only [go_sem, seval, am_, ai_, ae_])
theorem p4_ (l : List Sl) (hs : kt_ l = true) (hl : l.length < 4611686018427387904) : ACall En 87 [.sl false (sR l), .fn (.func 88) [] []] [] [.b (l.any fun s => !sok s)] [] := by
 refine ap_ (fn := Tryz.f87) [] Tryz.func87 rfl rfl (by simp) fun C => ?_
 rw [a0_]
 simp only [Tryz.ntmps87, List.length_cons, List.length_nil, Nat.reduceAdd, Nat.reduceSub, List.replicate_succ, List.replicate_zero, List.cons_append, List.nil_append, bq_]
 refine .seq (.rgn [] (by simp only [go_sem, seval, ai_]; rfl) ?_ ?_)
 ·first | trivial | simp
 refine .seq (.rgn [a5_ (adp_ l hs hl)] (by simp only [go_sem, seval, ai_]; rfl) ?_ ?_)
 ·first | trivial | simp
 refine .ret ⟨.inr rfl, ?_⟩
 exact Out.plain (by simp only [Tryz.results87]; rfl) (by simp only [a1_, bc_, go_sem, seval, ai_] <;> (split <;> rfl)) (by simp only [ba_, go_sem, seval, ai_] <;> (rw [acf_])) (by simp only [go_sem, seval, ai_])
def pok (l : List Sl) : Bool := decide (1 ≤ l.length) && decide (l.length ≤ 16) && l.all sok
theorem un_ (l : List Sl) : (l.any fun s => !sok s) = !l.all sok := by rw [List.any_eq_not_all_not]; simp
theorem b0_ {l : List Sl} (h : pok l = true) : 1 ≤ l.length ∧ l.length ≤ 16 ∧ ∀ k, k < l.length → sok (l.getD k S0) = true := by
 simp only [pok, Bool.and_eq_true, decide_eq_true_eq, List.all_eq_true] at h
 exact ⟨h.1.1, h.1.2, fun k hk => h.2 _ (bh_ hk)⟩
theorem od_ (l : List Sl) (hs : kt_ l = true) (hl : l.length < 4611686018427387904) : ACall En 39 [.sl false (sR l)] [] [.b (pok l)] [] := by
 refine ap_ (fn := Tryz.f39) [] Tryz.func39 rfl rfl (by simp) fun C => ?_
 rw [a0_]
 simp only [Tryz.ntmps39, List.length_cons, List.length_nil, Nat.reduceAdd, Nat.reduceSub, List.replicate_succ, List.replicate_zero, List.cons_append, List.nil_append, bq_]
 refine .seq (.rgn [] (by simp only [go_sem, seval, am_, ai_]; rfl) ?_ ?_)
 ·first | trivial | simp
 refine .seq (.rgn [a5_ (s6_ l.length 1 16), a5_ (p4_ l hs hl)] (by simp only [go_sem, seval, am_, ai_]; rfl) ?_ ?_)
 ·first | trivial | simp
 refine .ret ⟨.inr rfl, ?_⟩
 exact Out.plain (by simp only [Tryz.results39]; rfl) (by simp only [a1_, bc_, go_sem, seval, am_, ai_] <;> (split <;> rfl)) (by simp only [ba_, go_sem, seval, am_, ai_] <;> (rw [un_]; simp only [pok, Bool.not_not, f5_]; rfl)) (by simp only [go_sem, seval, am_, ai_])
theorem oj_ (l : List Sl) (hs : kt_ l = true) (hl : l.length < 4611686018427387904) : ACall En 15 [.sl false (sR l)] [] [.b (pok l)] [] := by
 refine ap_ (fn := Tryz.f15) [] Tryz.func15 rfl rfl (by simp) fun C => ?_
 rw [a0_]
 simp only [Tryz.ntmps15, List.length_cons, List.length_nil, Nat.reduceAdd, Nat.reduceSub, List.replicate_succ, List.replicate_zero, List.cons_append, List.nil_append, bq_]
 refine .seq (.rgn [] (by simp only [go_sem, seval, am_, ai_, ae_]; rfl) ?_ ?_)
 ·first | trivial | simp
 refine .seq (.seq (.rgn [] (by simp only [go_sem, seval, am_, ai_, ae_]; rfl) ?_ ?_))
 ·first | trivial | simp
 refine .block (.loopK (fun k : Nat => ⟨[.sl false (sR l), .no, .no, .i .i64 k, .no, .no, .no, .no, .no, .no, .no, .no, .no, .no, .no, .no, .no, .no, .no, .no, .no, .no, .no, .no], a6_ [], us []⟩) (fun k : Nat => k ≤ l.length ∧ (l.take k).any (fun s => !sok s) = false) (fun k : Nat => l.length - k) (0) ?_ ?_ (fun k hI => ?_))
 ·simp
 ·exact Can.weak (Weak.lit (by simp only [go_sem, seval, am_, ai_, ae_, aw_, leV, at_, au_, V.inn, us, true_or, or_true] <;> (simp)) (by simp only [go_sem, seval, am_, ai_, ae_, aw_, leV, at_, au_, V.inn, us, true_or, or_true]) (by simp only [go_sem, seval, am_, ai_, ae_, aw_, leV, at_, au_, V.inn, us, true_or, or_true]))
 refine .seq (.seq (.rgn [] (by simp only [go_sem, seval, am_, ai_, ae_]; rfl) ?_ ?_))
 ·first | trivial | simp
 refine .condB (by simp only [go_sem, seval, am_, ai_, ae_]; rfl) (by simp only [go_sem, seval, am_, ai_, ae_]) (fun h7 => ?_) (fun h7 => ?_)
 ·refine .skip (.seq (.block (.seq (.rgn [dg_ (k < l.length) (fun h => on_ (l.getD k S0) (ik_ hs h))] (by simp only [go_sem, seval, am_, ai_, ae_, lw_ (show k < l.length by simpa using h7)]; rfl) ?_ ?_))))
  ·simp only [decide_eq_true_eq] at h7; simp; omega
  refine .condB (by simp only [go_sem, seval, am_, ai_, ae_]; rfl) (by simp only [go_sem, seval, am_, ai_, ae_]) (fun h15 => ?_) (fun h15 => ?_)
  ·refine .seq (.rgn [] (by simp only [go_sem, seval, am_, ai_, ae_]; rfl) ?_ ?_)
   ·first | trivial | simp
   refine .ret ⟨.inr rfl, ?_⟩
   exact Out.plain (by simp only [Tryz.results15]; rfl) (by simp only [a1_, bc_, go_sem, seval, am_, ai_, ae_] <;> (split <;> rfl)) (by simp only [ba_, go_sem, seval, am_, ai_, ae_] <;> (simp only [decide_eq_true_eq] at h7; have : l.all sok = false := (by rw [List.all_eq_false]; exact ⟨_, bh_ (d := S0) (show k < l.length by omega), by simpa using h15⟩); simp [pok, this])) (by simp only [go_sem, seval, am_, ai_, ae_])
  ·refine .skip (.rgn [] (by simp only [go_sem, seval, am_, ai_, ae_]; rfl) ?_ ?_)
   ·first | trivial | simp
   refine Exists.intro (k + 1) ⟨?_, ?_, ?_⟩
   ·simp at h7; refine ⟨by omega, ?_⟩; rw [rv_ (d := S0) h7, hI.2, h15]; rfl
   ·simp at h7; omega
   exact Can.weak (Weak.lit (by simp only [go_sem, seval, am_, ai_, ae_, aw_, leV, at_, au_, V.inn, us, true_or, or_true] <;> (rw [a7_ (by omega) (by omega)]; simp)) (by simp only [go_sem, seval, am_, ai_, ae_, aw_, leV, at_, au_, V.inn, us, true_or, or_true]) (by simp only [go_sem, seval, am_, ai_, ae_, aw_, leV, at_, au_, V.inn, us, true_or, or_true]))
 ·refine .exit (.seq (.rgn [] (by simp only [go_sem, seval, am_, ai_, ae_]; rfl) ?_ ?_))
  ·first | trivial | simp
  refine .ret ⟨.inr rfl, ?_⟩
  exact Out.plain (by simp only [Tryz.results15]; rfl) (by simp only [a1_, bc_, go_sem, seval, am_, ai_, ae_] <;> (split <;> rfl)) (by simp only [ba_, go_sem, seval, am_, ai_, ae_] <;> (simp only [decide_eq_false_iff_not] at h7; have h0 := hI.2; rw [List.take_of_length_le (by omega), un_] at h0; simp only [Bool.not_eq_false'] at h0; simp only [pok, h0, Bool.and_true, f5_, ge_iff_le]; rfl)) (by simp only [go_sem, seval, am_, ai_, ae_])
def dz_ (l : List Str) : Str := [(10 : UInt8)].intercalate l
theorem pd_ (s x : Str) (l : List Str) : dz_ (s :: x :: l) = s ++ 10 :: dz_ (x :: l) := by simp [dz_, List.intercalate]
theorem s9_ (s : Str) : dz_ [s] = s := by simp [dz_, List.intercalate]
theorem zb_ : dz_ [] = [] := rfl
theorem zf_ : ∀ l : List Str, l ≠ [] → (dz_ l).length + 1 = (l.map List.length).sum + l.length
 | [], h => absurd rfl h
 | [s], _ => by rw [s9_]; simp
 | s :: x :: l, _ => by
  have := zf_ (x :: l) (by simp)
  rw [pd_]
  simp only [List.length_append, List.length_cons, List.map_cons, List.sum_cons] at this ⊢
  omega
theorem ade_ {l : List Str} {k : Nat} (h : ∀ s ∈ l, s.length ≤ k) : (dz_ l).length ≤ l.length * (k + 1) := by
 by_cases hl : l = []
 ·subst hl; simp [zb_]
 ·have h1 := zf_ l hl
  have h2 := s8_ h
  rw [Nat.mul_add]; omega
theorem sc_ (l : List Str) (hb : (dz_ l).length ≤ 1000000000000) (hn : l.length ≤ 1000000000000) : ACall En 48 [.sl false (b1_ l)] [] [.s (dz_ l)] [] := by
 refine ap_ (fn := Tryz.f48) [] Tryz.func48 rfl rfl (by simp) fun C => ?_
 rw [a0_]
 simp only [Tryz.ntmps48, List.length_cons, List.length_nil, Nat.reduceAdd, Nat.reduceSub, List.replicate_succ, List.replicate_zero, List.cons_append, List.nil_append, bq_]
 refine .seq (.rgn [] (by simp only [go_sem, seval]; rfl) ?_ ?_)
 ·first | trivial | simp
 refine .seq (.rgn [a5_ (ww_ l [10] hb hn)] (by simp only [go_sem, seval]; rfl) ?_ ?_)
 ·first | trivial | simp
 refine .ret ⟨.inr rfl, ?_⟩
 exact Out.plain (by simp only [Tryz.results48]; rfl) (by simp only [a1_, bc_, go_sem, seval] <;> (split <;> rfl)) (by simp only [ba_, go_sem, seval] <;> (rfl)) (by simp only [go_sem, seval])
def f2_ (l : List Sl) : Str := if pok l then dz_ (l.map emT) else []
theorem pu_ {s : Sl} (h : sok s = true) : (emT s).length ≤ 120 := by
 unfold emT; rw [if_pos h]; exact (g8_ (lc_ h)).1
theorem o6_ {l : List Sl} (h : pok l = true) : (dz_ (l.map emT)).length ≤ 2000 ∧ (l.map emT).length ≤ 16 := by
 obtain ⟨h1, h2, h3⟩ := b0_ h
 have := ade_ (l := l.map emT) (k := 120) fun s hs => by
  obtain ⟨x, hx, rfl⟩ := List.mem_map.1 hs
  obtain ⟨k, hk⟩ := List.mem_iff_getElem?.1 hx
  have h4 := h3 k (List.getElem?_eq_some_iff.1 hk).1
  rw [List.getD_eq_getElem?_getD, hk] at h4
  exact pu_ h4
 rw [List.length_map] at this ⊢
 omega
theorem y5_ (s : Sl) (h : sok s = true) (hs : d7_ s = true) : ACall En 40 [.ag (sC s)] [] [.s (emT s), .sl false (inR (emF s))] [] := by
 have := (ad7_ s (df_ h) hs).frz1 (rs' := [.s (emT s), .sl false (inR (emF s))]) (by simp [fp_, frz, as_, List.take_of_length_le, emT, emF, h])
 exact this
theorem p5_ (l : List Sl) (hs : kt_ l = true) (hl : l.length < 4611686018427387904) : ACall En 14 [.sl false (sR l)] [] [.s (f2_ l)] [] := by
 have hp : ∀ k, b4_ (eb_ (b1_ (l.map emT)) [.s []] k) = true := fun k => hm_ (aa_ _) rfl
 have hll : (b1_ (l.map emT)).length = l.length := by simp [b1_]
 refine ap_ (fn := Tryz.f14) [] Tryz.func14 rfl rfl (by simp) fun C => ?_
 rw [a0_]
 simp only [Tryz.ntmps14, List.length_cons, List.length_nil, Nat.reduceAdd, Nat.reduceSub, List.replicate_succ, List.replicate_zero, List.cons_append, List.nil_append, bq_]
 refine .seq (.rgn [] (by simp only [go_sem, seval, am_, ai_, ae_, aa_, ag_, hp, hll, az_, a3_]; rfl) ?_ ?_)
 ·first | trivial | simp
 refine .seq (.seq (.rgn [a5_ (od_ l hs hl)] (by simp only [go_sem, seval, am_, ai_, ae_, aa_, ag_, hp, hll, az_, a3_]; rfl) ?_ ?_))
 ·first | trivial | simp
 refine .condB (by simp only [go_sem, seval, am_, ai_, ae_, aa_, ag_, hp, hll, az_, a3_]; rfl) (by simp only [go_sem, seval, am_, ai_, ae_, aa_, ag_, hp, hll, az_, a3_]) (fun h8 => ?_) (fun h8 => ?_)
 ·refine .seq (.rgn [] (by simp only [go_sem, seval, am_, ai_, ae_, aa_, ag_, hp, hll, az_, a3_]; rfl) ?_ ?_)
  ·first | trivial | simp
  refine .ret ⟨.inr rfl, ?_⟩
  exact Out.plain (by simp only [Tryz.results14]; rfl) (by simp only [a1_, bc_, go_sem, seval, am_, ai_, ae_, aa_, ag_, hp, hll, az_, a3_] <;> (split <;> rfl)) (by simp only [ba_, go_sem, seval, am_, ai_, ae_, aa_, ag_, hp, hll, az_, a3_] <;> (simp at h8; simp [f2_, h8])) (by simp only [go_sem, seval, am_, ai_, ae_, aa_, ag_, hp, hll, az_, a3_])
 ·refine .skip (.seq (.rgn [] (by simp only [go_sem, seval, am_, ai_, ae_, aa_, ag_, hp, hll, az_, a3_]; rfl) ?_ ?_))
  ·simp only [Bool.not_eq_false'] at h8; have := (b0_ h8).2.1; omega
  refine .seq (.seq (.rgn [] (by simp only [go_sem, seval, am_, ai_, ae_, aa_, ag_, hp, hll, az_, a3_]; rfl) ?_ ?_))
  ·first | trivial | simp
  refine .block (.loopK (fun k : Nat => ⟨[.no, .no, .no, .ow 21 1 0 l.length, .no, .no, .no, .no, .no, .no, .no, .no, .sl false (sR l), .i .i64 l.length, .i .i64 k, .no, .no, .no, .no, .no, .no, .no, .no, .no, .no, .no, .no, .no, .no, .no], a6_ [(21, ⟨9, 1, eb_ (b1_ (l.map emT)) [.s []] k⟩)], us [21]⟩) (fun k : Nat => k ≤ l.length ∧ pok l = true) (fun k : Nat => l.length - k) (0) ?_ ?_ (fun k hI => ?_))
  ·exact ⟨by simp, by simpa using h8⟩
  ·exact Can.weak (Weak.lit (by simp only [go_sem, seval, am_, ai_, ae_, aa_, ag_, hp, hll, az_, a3_, aw_, leV, at_, au_, V.inn, us, true_or, or_true] <;> (simp)) (by simp only [go_sem, seval, am_, ai_, ae_, aa_, ag_, hp, hll, az_, a3_, aw_, leV, at_, au_, V.inn, us, true_or, or_true]) (by simp only [go_sem, seval, am_, ai_, ae_, aa_, ag_, hp, hll, az_, a3_, aw_, leV, at_, au_, V.inn, us, true_or, or_true] <;> (simp [ht_, hll])))
  refine .seq (.rgn [] (by simp only [go_sem, seval, am_, ai_, ae_, aa_, ag_, hp, hll, az_, a3_]; rfl) ?_ ?_)
  ·first | trivial | simp
  refine .seq (.condB (by simp only [go_sem, seval, am_, ai_, ae_, aa_, ag_, hp, hll, az_, a3_]; rfl) (by simp only [go_sem, seval, am_, ai_, ae_, aa_, ag_, hp, hll, az_, a3_]) (fun h15 => ?_) (fun h15 => ?_))
  ·refine .skip (.seq (.block (.seq (.rgn [] (by simp only [go_sem, seval, am_, ai_, ae_, aa_, ag_, hp, hll, az_, a3_, lw_ (show k < l.length by simpa using h15)]; rfl) ?_ ?_))))
   ·simp only [decide_eq_true_eq] at h15; simp; omega
   refine .rgn [dg_ (k < l.length ∧ sok (l.getD k S0) = true) (fun h => y5_ (l.getD k S0) h.2 (ik_ hs h.1))] (by simp only [go_sem, seval, am_, ai_, ae_, aa_, ag_, hp, hll, az_, a3_]; rfl) ?_ ?_
   ·simp only [decide_eq_true_eq] at h15; have hk : k < l.length := (by omega); exact ⟨⟨⟨hk, (b0_ hI.2).2.2 k hk⟩, by omega⟩, hk⟩
   refine .rgn [] (by simp only [go_sem, seval, am_, ai_, ae_, aa_, ag_, hp, hll, az_, a3_]; rfl) ?_ ?_
   ·first | trivial | simp
   refine Exists.intro (k + 1) ⟨?_, ?_, ?_⟩
   ·simp at h15; exact ⟨by omega, hI.2⟩
   ·simp at h15; omega
   exact Can.weak (Weak.lit (by simp only [go_sem, seval, am_, ai_, ae_, aa_, ag_, hp, hll, az_, a3_, aw_, leV, at_, au_, V.inn, us, true_or, or_true] <;> (rw [a7_ (by omega) (by omega)]; simp)) (by simp only [go_sem, seval, am_, ai_, ae_, aa_, ag_, hp, hll, az_, a3_, aw_, leV, at_, au_, V.inn, us, true_or, or_true]) (by simp only [go_sem, seval, am_, ai_, ae_, aa_, ag_, hp, hll, az_, a3_, aw_, leV, at_, au_, V.inn, us, true_or, or_true] <;> ((simp only [decide_eq_true_eq] at h15); rw [← ha_ (by rw [hll]; omega), gh_ (by rw [List.length_map]; omega)]; simp [List.getD_eq_getElem?_getD, List.getElem?_eq_getElem (show k < l.length by omega)])))
  ·refine .exit (.seq (.rgn [sj_ (pok l = true) (fun h => sc_ (l.map emT) (by have := (o6_ h).1; omega) (by have := (o6_ h).2; omega))] (by simp only [go_sem, seval, am_, ai_, ae_, aa_, ag_, hp, hll, az_, a3_]; rfl) ?_ ?_))
   ·simp only [decide_eq_false_iff_not] at h15; refine ⟨?_, hI.2⟩; rw [ja_ (by rw [hll]; omega), List.take_of_length_le (by rw [hll]; exact Nat.le_refl _)]; exact bo_ _
   refine .ret ⟨.inr rfl, ?_⟩
   exact Out.plain (by simp only [Tryz.results14]; rfl) (by simp only [a1_, bc_, go_sem, seval, am_, ai_, ae_, aa_, ag_, hp, hll, az_, a3_] <;> (split <;> rfl)) (by simp only [ba_, go_sem, seval, am_, ai_, ae_, aa_, ag_, hp, hll, az_, a3_] <;> (simp at h8; simp [f2_, h8])) (by simp only [go_sem, seval, am_, ai_, ae_, aa_, ag_, hp, hll, az_, a3_])
end
section
set_option maxRecDepth 100000
set_option maxHeartbeats 4000000
/-! lists -/
end
section
open Go.ChangeShapes Go.WideShapes Go.ChangeAt Go.RowKit
set_option maxRecDepth 100000
section
variable {H : Type} {enc : TypeId × Value → H} {W : World}
end
end
end Go.Proofs.YtefmbmafdgedmaaGreatDoor
