/- Programs: lists of lines; whether they are ok; what they are turned into. Conditions: none. -/
import Derived.Test.YtpikbndepapbhaaGreatDoorKo
import Derived.Test.YtpikbndepapbhaaGreatDoorKx
set_option linter.unusedVariables false
set_option linter.unusedSimpArgs false
namespace Go.Proofs.YtpikbndepapbhaaGreatDoor
section
set_option maxRecDepth 100000
set_option maxHeartbeats 4000000
theorem aal_ (s : Sl) (hs : d6_ s = true) : ACall En 83 [.ag (sC s)] [] [.b (!sok s)] [] := by
 refine aj_ (fn := Tryz.f83) [] Tryz.func83 rfl rfl (by simp) fun C => ?_
 rw [a0_]
 simp only [Tryz.ntmps83, T7_, List.length_nil, Nat.reduceAdd, Nat.reduceSub, List.replicate_succ, List.replicate_zero, List.cons_append, List.nil_append, bq_]
 refine .seq (.rgn [] (by simp only [go_sem, seval, af_]; rfl) ?_ ?_)
 ·first | trivial | simp
 refine .seq (.rgn [a5_ (l6_ s hs)] (by simp only [go_sem, seval, af_]; rfl) ?_ ?_)
 ·first | trivial | simp
 refine .ret ⟨.inr rfl, ?_⟩
 exact Out.plain (by simp only [Tryz.results83]; rfl) (by simp only [a1_, a9_, go_sem, seval, af_] <;> (split <;> rfl)) (by simp only [a8_, go_sem, seval, af_] <;> (rfl)) (by simp only [go_sem, seval, af_])
theorem aj2_ (l : List Sl) (hs : t0_ l = true) (hl : l.length < 4611686018427387904) : ACall En 119 [.sl false (sR l), .fn (.func 83) [] []] [] [.i .i64 (vh_ (fun s => !sok s) l)] [] := by
 refine aj_ (fn := Tryz.f119) [] Tryz.func119 rfl rfl (by simp) fun C => ?_
 rw [a0_]
 simp only [Tryz.ntmps119, T7_, List.length_nil, Nat.reduceAdd, Nat.reduceSub, List.replicate_succ, List.replicate_zero, List.cons_append, List.nil_append, bq_]
 refine .seq (.rgn [] (by simp only [go_sem, seval, a6_, az_, af_]; rfl) ?_ ?_)
 ·first | trivial | simp
 refine .seq (.seq (.rgn [] (by simp only [go_sem, seval, a6_, az_, af_]; rfl) ?_ ?_))
 ·first | trivial | simp
 refine .block (.loopK (fun k : Nat => ⟨[.sl false (sR l), .fn (.func 83) [] [], .no, .no, .no, .no, .no, .i .i64 l.length, .i .i64 k, .no, .no, .no, .no, .no, .no, .no, .no, .no, .no], bg_ [], us []⟩) (fun k : Nat => k ≤ l.length ∧ (l.take k).any (fun s => !sok s) = false) (fun k : Nat => l.length - k) (0) ?_ ?_ (fun k hI => ?_))
 ·simp
 ·exact Can.weak (Weak.lit (by simp only [go_sem, seval, a6_, az_, af_, av_, leV, at_, au_, V.inn, us, T9_, Ta_] <;> (simp)) (by simp only [go_sem, seval, a6_, az_, af_, av_, leV, at_, au_, V.inn, us, T9_, Ta_]) (by simp only [go_sem, seval, a6_, az_, af_, av_, leV, at_, au_, V.inn, us, T9_, Ta_]))
 refine .seq (.rgn [] (by simp only [go_sem, seval, a6_, az_, af_]; rfl) ?_ ?_)
 ·first | trivial | simp
 refine .seq (.condB (by simp only [go_sem, seval, a6_, az_, af_]; rfl) (by simp only [go_sem, seval, a6_, az_, af_]) (fun h9 => ?_) (fun h9 => ?_))
 ·refine .skip (.seq (.block (.seq (.rgn [] (by simp only [go_sem, seval, a6_, az_, af_]; rfl) ?_ ?_))))
  ·first | trivial | simp
  refine .seq (.rgn [cf_ (k < l.length) (fun h => aal_ (l.getD k S0) (rv_ hs h))] (by simp only [go_sem, seval, a6_, az_, af_, w5_ (show k < l.length by simpa using h9)]; rfl) ?_ ?_)
  ·simp only [T3_] at h9; simp; omega
  refine .condB (by simp only [go_sem, seval, a6_, az_, af_]; rfl) (by simp only [go_sem, seval, a6_, az_, af_]) (fun h16 => ?_) (fun h16 => ?_)
  ·refine .seq (.rgn [] (by simp only [go_sem, seval, a6_, az_, af_]; rfl) ?_ ?_)
   ·first | trivial | simp
   refine .ret ⟨.inr rfl, ?_⟩
   exact Out.plain (by simp only [Tryz.results119]; rfl) (by simp only [a1_, a9_, go_sem, seval, a6_, az_, af_] <;> (split <;> rfl)) (by simp only [a8_, go_sem, seval, a6_, az_, af_] <;> (simp at h9; rw [zr_ (d := S0) h9 hI.2 h16])) (by simp only [go_sem, seval, a6_, az_, af_])
  ·refine .skip (.rgn [] (by simp only [go_sem, seval, a6_, az_, af_]; rfl) ?_ ?_)
   ·first | trivial | simp
   refine Exists.intro (k + 1) ⟨?_, ?_, ?_⟩
   ·simp at h9; refine ⟨by omega, ?_⟩; rw [t3_ (d := S0) h9, hI.2, h16]; rfl
   ·simp at h9; omega
   exact Can.weak (Weak.lit (by simp only [go_sem, seval, a6_, az_, af_, av_, leV, at_, au_, V.inn, us, T9_, Ta_] <;> (rw [bh_ (by omega) (by omega)]; simp)) (by simp only [go_sem, seval, a6_, az_, af_, av_, leV, at_, au_, V.inn, us, T9_, Ta_]) (by simp only [go_sem, seval, a6_, az_, af_, av_, leV, at_, au_, V.inn, us, T9_, Ta_]))
 ·refine .exit (.seq (.rgn [] (by simp only [go_sem, seval, a6_, az_, af_]; rfl) ?_ ?_))
  ·first | trivial | simp
  refine .ret ⟨.inr rfl, ?_⟩
  exact Out.plain (by simp only [Tryz.results119]; rfl) (by simp only [a1_, a9_, go_sem, seval, a6_, az_, af_] <;> (split <;> rfl)) (by simp only [a8_, go_sem, seval, a6_, az_, af_] <;> (simp at h9; have h0 := hI.2; rw [T1_ h9] at h0; rw [ri_ h0])) (by simp only [go_sem, seval, a6_, az_, af_])
theorem ve_ (l : List Sl) (hs : t0_ l = true) (hl : l.length < 4611686018427387904) : ACall En 82 [.sl false (sR l), .fn (.func 83) [] []] [] [.b (l.any fun s => !sok s)] [] := by
 refine aj_ (fn := Tryz.f82) [] Tryz.func82 rfl rfl (by simp) fun C => ?_
 rw [a0_]
 simp only [Tryz.ntmps82, T7_, List.length_nil, Nat.reduceAdd, Nat.reduceSub, List.replicate_succ, List.replicate_zero, List.cons_append, List.nil_append, bq_]
 refine .seq (.rgn [] (by simp only [go_sem, seval, az_]; rfl) ?_ ?_)
 ·first | trivial | simp
 refine .seq (.rgn [a5_ (aj2_ l hs hl)] (by simp only [go_sem, seval, az_]; rfl) ?_ ?_)
 ·first | trivial | simp
 refine .ret ⟨.inr rfl, ?_⟩
 exact Out.plain (by simp only [Tryz.results82]; rfl) (by simp only [a1_, a9_, go_sem, seval, az_] <;> (split <;> rfl)) (by simp only [a8_, go_sem, seval, az_] <;> (rw [zf_])) (by simp only [go_sem, seval, az_])
def pok (l : List Sl) : Bool := decide (1 ≤ l.length) && decide (l.length ≤ 16) && l.all sok
theorem aig_ (l : List Sl) : (l.any fun s => !sok s) = !l.all sok := by rw [List.any_eq_not_all_not]; simp
theorem c7_ {l : List Sl} (h : pok l = true) : 1 ≤ l.length ∧ l.length ≤ 16 ∧ ∀ k, k < l.length → sok (l.getD k S0) = true := by
 simp only [pok, T5_, T3_, List.all_eq_true] at h
 exact ⟨h.1.1, h.1.2, fun k hk => h.2 _ (bk_ hk)⟩
theorem mf_ (l : List Sl) (hs : t0_ l = true) (hl : l.length < 4611686018427387904) : ACall En 46 [.sl false (sR l)] [] [.b (pok l)] [] := by
 refine aj_ (fn := Tryz.f46) [] Tryz.func46 rfl rfl (by simp) fun C => ?_
 rw [a0_]
 simp only [Tryz.ntmps46, T7_, List.length_nil, Nat.reduceAdd, Nat.reduceSub, List.replicate_succ, List.replicate_zero, List.cons_append, List.nil_append, bq_]
 refine .seq (.rgn [] (by simp only [go_sem, seval, a6_, az_]; rfl) ?_ ?_)
 ·first | trivial | simp
 refine .seq (.rgn [a5_ (in_a l.length 1 16), a5_ (ve_ l hs hl)] (by simp only [go_sem, seval, a6_, az_]; rfl) ?_ ?_)
 ·first | trivial | simp
 refine .ret ⟨.inr rfl, ?_⟩
 exact Out.plain (by simp only [Tryz.results46]; rfl) (by simp only [a1_, a9_, go_sem, seval, a6_, az_] <;> (split <;> rfl)) (by simp only [a8_, go_sem, seval, a6_, az_] <;> (rw [aig_]; simp only [pok, Bool.not_not, hv_]; rfl)) (by simp only [go_sem, seval, a6_, az_])
def cj_ (l : List Str) : Str := [(10 : UInt8)].intercalate l
theorem ie_ (s x : Str) (l : List Str) : cj_ (s :: x :: l) = s ++ 10 :: cj_ (x :: l) := by simp [cj_, List.intercalate]
theorem l2_ (s : Str) : cj_ [s] = s := by simp [cj_, List.intercalate]
theorem n7_ : cj_ [] = [] := rfl
theorem th_ : ∀ l : List Str, l ≠ [] → (cj_ l).length + 1 = (l.map List.length).sum + l.length
 | [], h => absurd rfl h
 | [s], _ => by rw [l2_]; simp
 | s :: x :: l, _ => by
  have := th_ (x :: l) (by simp)
  rw [ie_]
  simp only [T2_, T7_, List.map_cons, List.sum_cons] at this ⊢
  omega
theorem yn_ {l : List Str} {k : Nat} (h : ∀ s ∈ l, s.length ≤ k) : (cj_ l).length ≤ l.length * (k + 1) := by
 by_cases hl : l = []
 ·subst hl; simp [n7_]
 ·have h1 := th_ l hl
  have h2 := w1_ h
  rw [Nat.mul_add]; omega
theorem y8_ : ∀ (l : List Str) (s : Str), cj_ (l ++ [s]) = (if l = [] then [] else cj_ l ++ [10]) ++ s
 | [], s => by simp [l2_]
 | [x], s => by simp [ie_, l2_]
 | x :: y :: l, s => by
  have := y8_ (y :: l) s
  simp only [List.cons_append] at this ⊢
  rw [ie_, ie_, this]
  simp
theorem zc_ {l : List Str} {k : Nat} (h : k < l.length) : cj_ (l.take (k + 1)) = (if 0 < k then cj_ (l.take k) ++ [10] else []) ++ l.getD k [] := by
 have e : l.take (k + 1) = l.take k ++ [l.getD k []] := by
  rw [List.take_add_one, T6_ h, T8_, T6_ h]; rfl
 rw [e, y8_]
 congr 1
 cases k with
 | zero => simp
 | succ k =>
  have : l.take (k + 1) ≠ [] := by
   intro e0
   have := congrArg List.length e0
   rw [List.length_take] at this
   simp only [List.length_nil] at this
   omega
  rw [if_neg this, if_pos (by omega)]
theorem ae1_ {l : List Str} (k : Nat) : (cj_ (l.take k)).length ≤ (cj_ l).length := by
 by_cases h : l.take k = []
 ·rw [h]; simp [n7_]
 ·have h1 := th_ _ h
  have h2 := th_ l (fun e => h (by rw [e]; simp))
  have e : (l.map List.length).sum = ((l.take k).map List.length).sum + ((l.drop k).map List.length).sum := by
   conv => lhs; rw [← List.take_append_drop k l]
   rw [List.map_append, List.sum_append]
  have e2 : l.length = (l.take k).length + (l.drop k).length := by rw [← T2_, List.take_append_drop]
  omega
theorem m4_ (l : List Str) (hb : (cj_ l).length ≤ 1000000000000) (hn : l.length ≤ 1000000000000) : ACall En 38 [.sl false (bo_ l)] [] [.s (cj_ l)] [] := by
 refine aj_ (fn := Tryz.f38) [] Tryz.func38 rfl rfl (by simp) fun C => ?_
 rw [a0_]
 simp only [Tryz.ntmps38, T7_, List.length_nil, Nat.reduceAdd, Nat.reduceSub, List.replicate_succ, List.replicate_zero, List.cons_append, List.nil_append, bq_]
 refine .seq (.rgn [] (by simp only [go_sem, seval]; rfl) ?_ ?_)
 ·first | trivial | simp
 refine .seq (.rgn [a5_ (adq_ l [10] hb hn)] (by simp only [go_sem, seval]; rfl) ?_ ?_)
 ·first | trivial | simp
 refine .ret ⟨.inr rfl, ?_⟩
 exact Out.plain (by simp only [Tryz.results38]; rfl) (by simp only [a1_, a9_, go_sem, seval] <;> (split <;> rfl)) (by simp only [a8_, go_sem, seval] <;> (rfl)) (by simp only [go_sem, seval])
theorem wa_ (l : List Str) (hl : l.length < 1099511627776) (hb : (cj_ l).length < 1099511627776) : ACall En 74 [.sl false (bo_ l)] [] [.s (cj_ l)] [] := by
 refine aj_ (fn := Tryz.f74) [] Tryz.func74 rfl rfl (by simp) fun C => ?_
 rw [a0_]
 simp only [Tryz.ntmps74, T7_, List.length_nil, Nat.reduceAdd, Nat.reduceSub, List.replicate_succ, List.replicate_zero, List.cons_append, List.nil_append, bq_]
 refine .seq (.rgn [] (by simp only [go_sem, seval, ab_, aa_]; rfl) ?_ ?_)
 ·first | trivial | simp
 refine .seq (.rgn [] (by simp only [go_sem, seval, ab_, aa_]; rfl) ?_ ?_)
 ·first | trivial | simp
 refine .seq (.seq (.rgn [] (by simp only [go_sem, seval, ab_, aa_]; rfl) ?_ ?_))
 ·first | trivial | simp
 refine .block (.loopK (fun k : Nat => ⟨[.sl false (bo_ l), .no, .no, .s (cj_ (l.take k)), .i .i64 k, .no, .no, .no, .no, .no, .no, .no, .no, .no, .no, .no, .no, .no, .no, .no, .no, .no], bg_ [], us []⟩) (fun k : Nat => k ≤ l.length) (fun k : Nat => l.length - k) (0) ?_ ?_ (fun k hI => ?_))
 ·simp
 ·exact Can.weak (Weak.lit (by simp only [go_sem, seval, ab_, aa_, av_, leV, at_, au_, V.inn, us, T9_, Ta_] <;> (simp [n7_])) (by simp only [go_sem, seval, ab_, aa_, av_, leV, at_, au_, V.inn, us, T9_, Ta_]) (by simp only [go_sem, seval, ab_, aa_, av_, leV, at_, au_, V.inn, us, T9_, Ta_]))
 refine .seq (.seq (.rgn [] (by simp only [go_sem, seval, ab_, aa_]; rfl) ?_ ?_))
 ·first | trivial | simp
 refine .condB (by simp only [go_sem, seval, ab_, aa_]; rfl) (by simp only [go_sem, seval, ab_, aa_]) (fun h8 => ?_) (fun h8 => ?_)
 ·refine .skip (.seq (.block (.seqJ (fun q : Str => ⟨[.sl false (bo_ l), .no, .no, .s q, .i .i64 k, .no, .no, .no, .no, .no, .no, .no, .no, .no, .no, .no, .no, .no, .no, .no, .no, .no], bg_ [], us []⟩) (fun q : Str => q = if 0 < k then cj_ (l.take k) ++ [10] else []) ?_ (fun q hJ => ?_))))
  ·refine .seq (.rgn [] (by simp only [go_sem, seval, ab_, aa_]; rfl) ?_ ?_)
   ·first | trivial | simp
   refine .condB (by simp only [go_sem, seval, ab_, aa_]; rfl) (by simp only [go_sem, seval, ab_, aa_]) (fun h12 => ?_) (fun h12 => ?_)
   ·refine .rgn [] (by simp only [go_sem, seval, ab_, aa_]; rfl) ?_ ?_
    ·have q := ae1_ (l := l) k; simp; omega
    refine Exists.intro (cj_ (l.take k) ++ [10]) ⟨?_, ?_⟩
    ·simp at h12; simp [h12]
    exact Can.weak (Weak.lit (by simp only [go_sem, seval, ab_, aa_, av_, leV, at_, au_, V.inn, us, T9_, Ta_] <;> ((simp at h12; subst h12; simp [n7_]))) (by simp only [go_sem, seval, ab_, aa_, av_, leV, at_, au_, V.inn, us, T9_, Ta_]) (by simp only [go_sem, seval, ab_, aa_, av_, leV, at_, au_, V.inn, us, T9_, Ta_]))
   ·refine .skip ?_
    refine Exists.intro ([]) ⟨?_, ?_⟩
    ·simp at h12; simp [h12]
    exact Can.weak (Weak.lit (by simp only [go_sem, seval, ab_, aa_, av_, leV, at_, au_, V.inn, us, T9_, Ta_] <;> ((simp at h12; subst h12; simp [n7_]))) (by simp only [go_sem, seval, ab_, aa_, av_, leV, at_, au_, V.inn, us, T9_, Ta_]) (by simp only [go_sem, seval, ab_, aa_, av_, leV, at_, au_, V.inn, us, T9_, Ta_]))
  refine .rgn [] (by simp only [go_sem, seval, ab_, aa_, b8_ (show k < l.length by simpa using h8)]; rfl) ?_ ?_
  ·have q1 := ae1_ (l := l) (k + 1); rw [zc_ (by simpa using h8), ← hJ, T2_] at q1; refine ⟨⟨by omega, by simpa using h8⟩, by omega⟩
  refine .rgn [] (by simp only [go_sem, seval, ab_, aa_]; rfl) ?_ ?_
  ·first | trivial | simp
  refine Exists.intro (k + 1) ⟨?_, ?_, ?_⟩
  ·simp at h8; omega
  ·simp at h8; omega
  exact Can.weak (Weak.lit (by simp only [go_sem, seval, ab_, aa_, av_, leV, at_, au_, V.inn, us, T9_, Ta_] <;> (rw [bh_ (by simp at h8; omega) (by simp at h8; omega)]; refine ⟨?_, by simp⟩; first | (rw [hJ, zc_ (by simpa using h8)]; done))) (by simp only [go_sem, seval, ab_, aa_, av_, leV, at_, au_, V.inn, us, T9_, Ta_]) (by simp only [go_sem, seval, ab_, aa_, av_, leV, at_, au_, V.inn, us, T9_, Ta_]))
 ·refine .exit (.seq (.rgn [] (by simp only [go_sem, seval, ab_, aa_]; rfl) ?_ ?_))
  ·first | trivial | simp
  refine .ret ⟨.inr rfl, ?_⟩
  exact Out.plain (by simp only [Tryz.results74]; rfl) (by simp only [a1_, a9_, go_sem, seval, ab_, aa_] <;> (split <;> rfl)) (by simp only [a8_, go_sem, seval, ab_, aa_] <;> (simp at h8; rw [T1_ h8])) (by simp only [go_sem, seval, ab_, aa_])
def op_ (l : List Sl) : Str := if pok l then cj_ (l.map emT) else []
theorem wt_ {s : Sl} (h : sok s = true) : (emT s).length ≤ 120 := by
 unfold emT; rw [if_pos h]; exact (lj_ (su_ h)).1
theorem zw_ {l : List Sl} (h : pok l = true) : (cj_ (l.map emT)).length ≤ 2000 ∧ (l.map emT).length ≤ 16 := by
 obtain ⟨h1, h2, h3⟩ := c7_ h
 have := yn_ (l := l.map emT) (k := 120) fun s hs => by
  obtain ⟨x, hx, rfl⟩ := List.mem_map.1 hs
  obtain ⟨k, hk⟩ := List.mem_iff_getElem?.1 hx
  have h4 := h3 k (List.getElem?_eq_some_iff.1 hk).1
  rw [T8_, hk] at h4
  exact wt_ h4
 rw [List.length_map] at this ⊢
 omega
theorem w6_ (s : Sl) (h : sok s = true) (hs : d6_ s = true) : ACall En 57 [.ag (sC s)] [] [.s (emT s), .sl false (inR (emF s))] [] := by
 have := (ajr_ s (de_ h) hs).frz1 (rs' := [.s (emT s), .sl false (inR (emF s))]) (by simp [gd_, frz, ai_, T1_, emT, emF, h])
 exact this
theorem vs_ (l : List Sl) (hs : t0_ l = true) (hl : l.length < 4611686018427387904) : ACall En 21 [.sl false (sR l)] [] [.s (op_ l)] [] := by
 have hp : ∀ k, b5_ (d7_ (bo_ (l.map emT)) [.s []] k) = true := fun k => fy_ (aa_ _) rfl
 have hll : (bo_ (l.map emT)).length = l.length := by simp [bo_]
 refine aj_ (fn := Tryz.f21) [] Tryz.func21 rfl rfl (by simp) fun C => ?_
 rw [a0_]
 simp only [Tryz.ntmps21, T7_, List.length_nil, Nat.reduceAdd, Nat.reduceSub, List.replicate_succ, List.replicate_zero, List.cons_append, List.nil_append, bq_]
 refine .seq (.rgn [] (by simp only [go_sem, seval, a6_, az_, af_, aa_, ac_, hp, hll, as_, aw_]; rfl) ?_ ?_)
 ·first | trivial | simp
 refine .seq (.seq (.rgn [a5_ (mf_ l hs hl)] (by simp only [go_sem, seval, a6_, az_, af_, aa_, ac_, hp, hll, as_, aw_]; rfl) ?_ ?_))
 ·first | trivial | simp
 refine .condB (by simp only [go_sem, seval, a6_, az_, af_, aa_, ac_, hp, hll, as_, aw_]; rfl) (by simp only [go_sem, seval, a6_, az_, af_, aa_, ac_, hp, hll, as_, aw_]) (fun h8 => ?_) (fun h8 => ?_)
 ·refine .seq (.rgn [] (by simp only [go_sem, seval, a6_, az_, af_, aa_, ac_, hp, hll, as_, aw_]; rfl) ?_ ?_)
  ·first | trivial | simp
  refine .ret ⟨.inr rfl, ?_⟩
  exact Out.plain (by simp only [Tryz.results21]; rfl) (by simp only [a1_, a9_, go_sem, seval, a6_, az_, af_, aa_, ac_, hp, hll, as_, aw_] <;> (split <;> rfl)) (by simp only [a8_, go_sem, seval, a6_, az_, af_, aa_, ac_, hp, hll, as_, aw_] <;> (simp at h8; simp [op_, h8])) (by simp only [go_sem, seval, a6_, az_, af_, aa_, ac_, hp, hll, as_, aw_])
 ·refine .skip (.seq (.rgn [] (by simp only [go_sem, seval, a6_, az_, af_, aa_, ac_, hp, hll, as_, aw_]; rfl) ?_ ?_))
  ·simp only [Bool.not_eq_false'] at h8; have := (c7_ h8).2.1; omega
  refine .seq (.seq (.rgn [] (by simp only [go_sem, seval, a6_, az_, af_, aa_, ac_, hp, hll, as_, aw_]; rfl) ?_ ?_))
  ·first | trivial | simp
  refine .block (.loopK (fun k : Nat => ⟨[.no, .no, .no, .ow 21 1 0 l.length, .no, .no, .no, .no, .no, .no, .no, .no, .sl false (sR l), .i .i64 l.length, .i .i64 k, .no, .no, .no, .no, .no, .no, .no, .no, .no, .no, .no, .no, .no, .no, .no], bg_ [(21, ⟨9, 1, d7_ (bo_ (l.map emT)) [.s []] k⟩)], us [21]⟩) (fun k : Nat => k ≤ l.length ∧ pok l = true) (fun k : Nat => l.length - k) (0) ?_ ?_ (fun k hI => ?_))
  ·exact ⟨by simp, by simpa using h8⟩
  ·exact Can.weak (Weak.lit (by simp only [go_sem, seval, a6_, az_, af_, aa_, ac_, hp, hll, as_, aw_, av_, leV, at_, au_, V.inn, us, T9_, Ta_] <;> (simp)) (by simp only [go_sem, seval, a6_, az_, af_, aa_, ac_, hp, hll, as_, aw_, av_, leV, at_, au_, V.inn, us, T9_, Ta_]) (by simp only [go_sem, seval, a6_, az_, af_, aa_, ac_, hp, hll, as_, aw_, av_, leV, at_, au_, V.inn, us, T9_, Ta_] <;> (simp [fo_, hll])))
  refine .seq (.rgn [] (by simp only [go_sem, seval, a6_, az_, af_, aa_, ac_, hp, hll, as_, aw_]; rfl) ?_ ?_)
  ·first | trivial | simp
  refine .seq (.condB (by simp only [go_sem, seval, a6_, az_, af_, aa_, ac_, hp, hll, as_, aw_]; rfl) (by simp only [go_sem, seval, a6_, az_, af_, aa_, ac_, hp, hll, as_, aw_]) (fun h15 => ?_) (fun h15 => ?_))
  ·refine .skip (.seq (.block (.seq (.rgn [] (by simp only [go_sem, seval, a6_, az_, af_, aa_, ac_, hp, hll, as_, aw_, w5_ (show k < l.length by simpa using h15)]; rfl) ?_ ?_))))
   ·simp only [T3_] at h15; simp; omega
   refine .rgn [cf_ (k < l.length ∧ sok (l.getD k S0) = true) (fun h => w6_ (l.getD k S0) h.2 (rv_ hs h.1))] (by simp only [go_sem, seval, a6_, az_, af_, aa_, ac_, hp, hll, as_, aw_]; rfl) ?_ ?_
   ·simp only [T3_] at h15; have hk : k < l.length := (by omega); exact ⟨⟨⟨hk, (c7_ hI.2).2.2 k hk⟩, by omega⟩, hk⟩
   refine .rgn [] (by simp only [go_sem, seval, a6_, az_, af_, aa_, ac_, hp, hll, as_, aw_]; rfl) ?_ ?_
   ·first | trivial | simp
   refine Exists.intro (k + 1) ⟨?_, ?_, ?_⟩
   ·simp at h15; exact ⟨by omega, hI.2⟩
   ·simp at h15; omega
   exact Can.weak (Weak.lit (by simp only [go_sem, seval, a6_, az_, af_, aa_, ac_, hp, hll, as_, aw_, av_, leV, at_, au_, V.inn, us, T9_, Ta_] <;> (rw [bh_ (by omega) (by omega)]; simp)) (by simp only [go_sem, seval, a6_, az_, af_, aa_, ac_, hp, hll, as_, aw_, av_, leV, at_, au_, V.inn, us, T9_, Ta_]) (by simp only [go_sem, seval, a6_, az_, af_, aa_, ac_, hp, hll, as_, aw_, av_, leV, at_, au_, V.inn, us, T9_, Ta_] <;> ((simp only [T3_] at h15); rw [← f9_ (by rw [hll]; omega), b8_ (by rw [List.length_map]; omega)]; simp [T8_, T6_ (show k < l.length by omega)])))
  ·refine .exit (.seq (.rgn [rz_ (pok l = true) (fun h => m4_ (l.map emT) (by have := (zw_ h).1; omega) (by have := (zw_ h).2; omega))] (by simp only [go_sem, seval, a6_, az_, af_, aa_, ac_, hp, hll, as_, aw_]; rfl) ?_ ?_))
   ·simp only [T4_] at h15; refine ⟨?_, hI.2⟩; rw [g4_ (by rw [hll]; omega), T1_ (by rw [hll]; exact Nat.le_refl _)]; exact be_ _
   refine .ret ⟨.inr rfl, ?_⟩
   exact Out.plain (by simp only [Tryz.results21]; rfl) (by simp only [a1_, a9_, go_sem, seval, a6_, az_, af_, aa_, ac_, hp, hll, as_, aw_] <;> (split <;> rfl)) (by simp only [a8_, go_sem, seval, a6_, az_, af_, aa_, ac_, hp, hll, as_, aw_] <;> (simp at h8; simp [op_, h8])) (by simp only [go_sem, seval, a6_, az_, af_, aa_, ac_, hp, hll, as_, aw_])
end
end Go.Proofs.YtpikbndepapbhaaGreatDoor
