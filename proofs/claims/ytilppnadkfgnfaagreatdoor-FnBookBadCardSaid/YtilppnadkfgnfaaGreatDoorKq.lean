/- Programs: lists of lines; whether they are ok; what they are turned into. Conditions: none. -/
import Derived.Test.YtilppnadkfgnfaaGreatDoorKo
import Derived.Test.YtilppnadkfgnfaaGreatDoorKx
set_option linter.unusedVariables false
set_option linter.unusedSimpArgs false
namespace Go.Proofs.YtilppnadkfgnfaaGreatDoor
section
set_option maxRecDepth 100000
set_option maxHeartbeats 4000000
def pok (l : List Sl) : Bool := decide (1 ≤ l.length) && decide (l.length ≤ 16) && l.all sok
theorem vo_ {l : List Sl} (h : pok l = true) : 1 ≤ l.length ∧ l.length ≤ 16 ∧ ∀ k, k < l.length → sok (l.getD k S0) = true := by
 simp only [pok, T5_, T3_, List.all_eq_true] at h
 exact ⟨h.1.1, h.1.2, fun k hk => h.2 _ (bj_ hk)⟩
def cb_ (l : List Str) : Str := [(10 : UInt8)].intercalate l
theorem jv_ (s x : Str) (l : List Str) : cb_ (s :: x :: l) = s ++ 10 :: cb_ (x :: l) := by simp [cb_, List.intercalate]
theorem qp_ (s : Str) : cb_ [s] = s := by simp [cb_, List.intercalate]
theorem kf_ : cb_ [] = [] := rfl
theorem tg_ : ∀ l : List Str, l ≠ [] → (cb_ l).length + 1 = (l.map List.length).sum + l.length
 | [], h => absurd rfl h
 | [s], _ => by rw [qp_]; simp
 | s :: x :: l, _ => by
  have := tg_ (x :: l) (by simp)
  rw [jv_]
  simp only [T2_, T7_, List.map_cons, List.sum_cons] at this ⊢
  omega
theorem pj_ {l : List Str} {k : Nat} (h : ∀ s ∈ l, s.length ≤ k) : (cb_ l).length ≤ l.length * (k + 1) := by
 by_cases hl : l = []
 ·subst hl; simp [kf_]
 ·have h1 := tg_ l hl
  have h2 := xo_ h
  rw [Nat.mul_add]; omega
theorem y7_ : ∀ (l : List Str) (s : Str), cb_ (l ++ [s]) = (if l = [] then [] else cb_ l ++ [10]) ++ s
 | [], s => by simp [qp_]
 | [x], s => by simp [jv_, qp_]
 | x :: y :: l, s => by
  have := y7_ (y :: l) s
  simp only [List.cons_append] at this ⊢
  rw [jv_, jv_, this]
  simp
theorem zd_ {l : List Str} {k : Nat} (h : k < l.length) : cb_ (l.take (k + 1)) = (if 0 < k then cb_ (l.take k) ++ [10] else []) ++ l.getD k [] := by
 have e : l.take (k + 1) = l.take k ++ [l.getD k []] := by
  rw [List.take_add_one, T6_ h, T8_, T6_ h]; rfl
 rw [e, y7_]
 congr 1
 cases k with
 | zero => simp
 | succ k =>
  have : l.take (k + 1) ≠ [] := by
   intro e0
   have := congrArg List.length e0
   rw [List.length_take] at this
   simp only [List.length_nil] at this
   omega
  rw [if_neg this, if_pos (by omega)]
theorem ae9_ {l : List Str} (k : Nat) : (cb_ (l.take k)).length ≤ (cb_ l).length := by
 by_cases h : l.take k = []
 ·rw [h]; simp [kf_]
 ·have h1 := tg_ _ h
  have h2 := tg_ l (fun e => h (by rw [e]; simp))
  have e : (l.map List.length).sum = ((l.take k).map List.length).sum + ((l.drop k).map List.length).sum := by
   conv => lhs; rw [← List.take_append_drop k l]
   rw [List.map_append, List.sum_append]
  have e2 : l.length = (l.take k).length + (l.drop k).length := by rw [← T2_, List.take_append_drop]
  omega
theorem wj_ (l : List Str) (hb : (cb_ l).length ≤ 1000000000000) (hn : l.length ≤ 1000000000000) : ACall En 49 [.sl false (bn_ l)] [] [.s (cb_ l)] [] := by
 refine al_ (fn := Tryz.f49) [] Tryz.func49 rfl rfl (by simp) fun C => ?_
 rw [ay_]
 simp only [Tryz.ntmps49, T7_, List.length_nil, Nat.reduceAdd, Nat.reduceSub, List.replicate_succ, List.replicate_zero, List.cons_append, List.nil_append, bp_]
 refine .seq (.rgn [] (by simp only [go_sem, seval]; rfl) ?_ ?_)
 ·first | trivial | simp
 refine .seq (.rgn [a4_ (af6_ l [10] hb hn)] (by simp only [go_sem, seval]; rfl) ?_ ?_)
 ·first | trivial | simp
 refine .ret ⟨.inr rfl, ?_⟩
 exact Out.plain (by simp only [Tryz.results49]; rfl) (by simp only [az_, a7_, go_sem, seval] <;> (split <;> rfl)) (by simp only [a5_, go_sem, seval] <;> (rfl)) (by simp only [go_sem, seval])
theorem jn_ (l : List Str) (hl : l.length < 1099511627776) (hb : (cb_ l).length < 1099511627776) : ACall En 70 [.sl false (bn_ l)] [] [.s (cb_ l)] [] := by
 refine al_ (fn := Tryz.f70) [] Tryz.func70 rfl rfl (by simp) fun C => ?_
 rw [ay_]
 simp only [Tryz.ntmps70, T7_, List.length_nil, Nat.reduceAdd, Nat.reduceSub, List.replicate_succ, List.replicate_zero, List.cons_append, List.nil_append, bp_]
 refine .seq (.rgn [] (by simp only [go_sem, seval, ab_, aa_]; rfl) ?_ ?_)
 ·first | trivial | simp
 refine .seq (.rgn [] (by simp only [go_sem, seval, ab_, aa_]; rfl) ?_ ?_)
 ·first | trivial | simp
 refine .seq (.seq (.rgn [] (by simp only [go_sem, seval, ab_, aa_]; rfl) ?_ ?_))
 ·first | trivial | simp
 refine .block (.loopK (fun k : Nat => ⟨[.sl false (bn_ l), .no, .no, .s (cb_ (l.take k)), .i .i64 k, .no, .no, .no, .no, .no, .no, .no, .no, .no, .no, .no, .no, .no, .no, .no, .no, .no], bc_ [], us []⟩) (fun k : Nat => k ≤ l.length) (fun k : Nat => l.length - k) (0) ?_ ?_ (fun k hI => ?_))
 ·simp
 ·exact Can.weak (Weak.lit (by simp only [go_sem, seval, ab_, aa_, as_, leV, aq_, ar_, V.inn, us, T9_, Ta_] <;> (simp [kf_])) (by simp only [go_sem, seval, ab_, aa_, as_, leV, aq_, ar_, V.inn, us, T9_, Ta_]) (by simp only [go_sem, seval, ab_, aa_, as_, leV, aq_, ar_, V.inn, us, T9_, Ta_]))
 refine .seq (.seq (.rgn [] (by simp only [go_sem, seval, ab_, aa_]; rfl) ?_ ?_))
 ·first | trivial | simp
 refine .condB (by simp only [go_sem, seval, ab_, aa_]; rfl) (by simp only [go_sem, seval, ab_, aa_]) (fun h8 => ?_) (fun h8 => ?_)
 ·refine .skip (.seq (.block (.seqJ (fun q : Str => ⟨[.sl false (bn_ l), .no, .no, .s q, .i .i64 k, .no, .no, .no, .no, .no, .no, .no, .no, .no, .no, .no, .no, .no, .no, .no, .no, .no], bc_ [], us []⟩) (fun q : Str => q = if 0 < k then cb_ (l.take k) ++ [10] else []) ?_ (fun q hJ => ?_))))
  ·refine .seq (.rgn [] (by simp only [go_sem, seval, ab_, aa_]; rfl) ?_ ?_)
   ·first | trivial | simp
   refine .condB (by simp only [go_sem, seval, ab_, aa_]; rfl) (by simp only [go_sem, seval, ab_, aa_]) (fun h12 => ?_) (fun h12 => ?_)
   ·refine .rgn [] (by simp only [go_sem, seval, ab_, aa_]; rfl) ?_ ?_
    ·have q := ae9_ (l := l) k; simp; omega
    refine Exists.intro (cb_ (l.take k) ++ [10]) ⟨?_, ?_⟩
    ·simp at h12; simp [h12]
    exact Can.weak (Weak.lit (by simp only [go_sem, seval, ab_, aa_, as_, leV, aq_, ar_, V.inn, us, T9_, Ta_] <;> ((simp at h12; subst h12; simp [kf_]))) (by simp only [go_sem, seval, ab_, aa_, as_, leV, aq_, ar_, V.inn, us, T9_, Ta_]) (by simp only [go_sem, seval, ab_, aa_, as_, leV, aq_, ar_, V.inn, us, T9_, Ta_]))
   ·refine .skip ?_
    refine Exists.intro ([]) ⟨?_, ?_⟩
    ·simp at h12; simp [h12]
    exact Can.weak (Weak.lit (by simp only [go_sem, seval, ab_, aa_, as_, leV, aq_, ar_, V.inn, us, T9_, Ta_] <;> ((simp at h12; subst h12; simp [kf_]))) (by simp only [go_sem, seval, ab_, aa_, as_, leV, aq_, ar_, V.inn, us, T9_, Ta_]) (by simp only [go_sem, seval, ab_, aa_, as_, leV, aq_, ar_, V.inn, us, T9_, Ta_]))
  refine .rgn [] (by simp only [go_sem, seval, ab_, aa_, b6_ (show k < l.length by simpa using h8)]; rfl) ?_ ?_
  ·have q1 := ae9_ (l := l) (k + 1); rw [zd_ (by simpa using h8), ← hJ, T2_] at q1; refine ⟨⟨by omega, by simpa using h8⟩, by omega⟩
  refine .rgn [] (by simp only [go_sem, seval, ab_, aa_]; rfl) ?_ ?_
  ·first | trivial | simp
  refine Exists.intro (k + 1) ⟨?_, ?_, ?_⟩
  ·simp at h8; omega
  ·simp at h8; omega
  exact Can.weak (Weak.lit (by simp only [go_sem, seval, ab_, aa_, as_, leV, aq_, ar_, V.inn, us, T9_, Ta_] <;> (rw [bf_ (by simp at h8; omega) (by simp at h8; omega)]; refine ⟨?_, by simp⟩; first | (rw [hJ, zd_ (by simpa using h8)]; done))) (by simp only [go_sem, seval, ab_, aa_, as_, leV, aq_, ar_, V.inn, us, T9_, Ta_]) (by simp only [go_sem, seval, ab_, aa_, as_, leV, aq_, ar_, V.inn, us, T9_, Ta_]))
 ·refine .exit (.seq (.rgn [] (by simp only [go_sem, seval, ab_, aa_]; rfl) ?_ ?_))
  ·first | trivial | simp
  refine .ret ⟨.inr rfl, ?_⟩
  exact Out.plain (by simp only [Tryz.results70]; rfl) (by simp only [az_, a7_, go_sem, seval, ab_, aa_] <;> (split <;> rfl)) (by simp only [a5_, go_sem, seval, ab_, aa_] <;> (simp at h8; rw [T1_ h8])) (by simp only [go_sem, seval, ab_, aa_])
theorem ak2_ {s : Sl} (h : sok s = true) : (emT s).length ≤ 120 := by
 unfold emT; rw [if_pos h]; exact (jg_ (ok_ h)).1
theorem akl_ (s : Sl) (h : sok s = true) (hs : ep_ s = true) : ACall En 84 [.ag (sC s)] [] [.s (emT s), .sl false (inR (emF s))] [] := by
 have := (ajv_ s (c9_ h) hs).frz1 (rs' := [.s (emT s), .sl false (inR (emF s))]) (by simp [gj_, frz, ai_, T1_, emT, emF, h])
 exact this
end
end Go.Proofs.YtilppnadkfgnfaaGreatDoor
