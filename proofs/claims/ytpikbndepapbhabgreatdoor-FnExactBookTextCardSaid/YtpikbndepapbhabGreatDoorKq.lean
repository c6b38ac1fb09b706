/- Programs: lists of lines; whether they are ok; what they are turned into. Conditions: none. -/
import Derived.Test.YtpikbndepapbhabGreatDoorKo
import Derived.Test.YtpikbndepapbhabGreatDoorKx
set_option linter.unusedVariables false
set_option linter.unusedSimpArgs false
namespace Go.Proofs.YtpikbndepapbhabGreatDoor
section
set_option maxRecDepth 100000
set_option maxHeartbeats 4000000
def cj_ (l : List Str) : Str := [(10 : UInt8)].intercalate l
theorem nq_ (s x : Str) (l : List Str) : cj_ (s :: x :: l) = s ++ 10 :: cj_ (x :: l) := by simp [cj_, List.intercalate]
theorem wp_ (s : Str) : cj_ [s] = s := by simp [cj_, List.intercalate]
theorem mh_ : cj_ [] = [] := rfl
theorem r3_ : ∀ l : List Str, l ≠ [] → (cj_ l).length + 1 = (l.map List.length).sum + l.length
 | [], h => absurd rfl h
 | [s], _ => by rw [wp_]; simp
 | s :: x :: l, _ => by
  have := r3_ (x :: l) (by simp)
  rw [nq_]
  simp only [T2_, T7_, List.map_cons, List.sum_cons] at this ⊢
  omega
theorem ah8_ {l : List Str} {k : Nat} (h : ∀ s ∈ l, s.length ≤ k) : (cj_ l).length ≤ l.length * (k + 1) := by
 by_cases hl : l = []
 ·subst hl; simp [mh_]
 ·have h1 := r3_ l hl
  have h2 := wq_ h
  rw [Nat.mul_add]; omega
theorem ys_ : ∀ (l : List Str) (s : Str), cj_ (l ++ [s]) = (if l = [] then [] else cj_ l ++ [10]) ++ s
 | [], s => by simp [wp_]
 | [x], s => by simp [nq_, wp_]
 | x :: y :: l, s => by
  have := ys_ (y :: l) s
  simp only [List.cons_append] at this ⊢
  rw [nq_, nq_, this]
  simp
theorem x0_ {l : List Str} {k : Nat} (h : k < l.length) : cj_ (l.take (k + 1)) = (if 0 < k then cj_ (l.take k) ++ [10] else []) ++ l.getD k [] := by
 have e : l.take (k + 1) = l.take k ++ [l.getD k []] := by
  rw [List.take_add_one, T6_ h, T8_, T6_ h]; rfl
 rw [e, ys_]
 congr 1
 cases k with
 | zero => simp
 | succ k =>
  have : l.take (k + 1) ≠ [] := by
   intro e0
   have := congrArg List.length e0
   rw [List.length_take] at this
   simp only [List.length_nil] at this
   omega
  rw [if_neg this, if_pos (by omega)]
theorem ad1_ {l : List Str} (k : Nat) : (cj_ (l.take k)).length ≤ (cj_ l).length := by
 by_cases h : l.take k = []
 ·rw [h]; simp [mh_]
 ·have h1 := r3_ _ h
  have h2 := r3_ l (fun e => h (by rw [e]; simp))
  have e : (l.map List.length).sum = ((l.take k).map List.length).sum + ((l.drop k).map List.length).sum := by
   conv => lhs; rw [← List.take_append_drop k l]
   rw [List.map_append, List.sum_append]
  have e2 : l.length = (l.take k).length + (l.drop k).length := by rw [← T2_, List.take_append_drop]
  omega
theorem t3_ (l : List Str) (hb : (cj_ l).length ≤ 1000000000000) (hn : l.length ≤ 1000000000000) : ACall En 152 [.sl false (bl_ l)] [] [.s (cj_ l)] [] := by
 refine ak_ (fn := Tryz.f152) [] Tryz.func152 rfl rfl (by simp) fun C => ?_
 rw [aw_]
 simp only [Tryz.ntmps152, T7_, List.length_nil, Nat.reduceAdd, Nat.reduceSub, List.replicate_succ, List.replicate_zero, List.cons_append, List.nil_append, bk_]
 refine .seq (.rgn [] (by simp only [go_sem, seval]; rfl) ?_ ?_)
 ·first | trivial | simp
 refine .seq (.rgn [a3_ (aci_ l [10] hb hn)] (by simp only [go_sem, seval]; rfl) ?_ ?_)
 ·first | trivial | simp
 refine .ret ⟨.inr rfl, ?_⟩
 exact Out.plain (by simp only [Tryz.results152]; rfl) (by simp only [av_, a5_, go_sem, seval] <;> (split <;> rfl)) (by simp only [a2_, go_sem, seval] <;> (rfl)) (by simp only [go_sem, seval])
theorem m6_ (l : List Str) (hl : l.length < 1099511627776) (hb : (cj_ l).length < 1099511627776) : ACall En 63 [.sl false (bl_ l)] [] [.s (cj_ l)] [] := by
 refine ak_ (fn := Tryz.f63) [] Tryz.func63 rfl rfl (by simp) fun C => ?_
 rw [aw_]
 simp only [Tryz.ntmps63, T7_, List.length_nil, Nat.reduceAdd, Nat.reduceSub, List.replicate_succ, List.replicate_zero, List.cons_append, List.nil_append, bk_]
 refine .seq (.rgn [] (by simp only [go_sem, seval, ac_, aa_]; rfl) ?_ ?_)
 ·first | trivial | simp
 refine .seq (.rgn [] (by simp only [go_sem, seval, ac_, aa_]; rfl) ?_ ?_)
 ·first | trivial | simp
 refine .seq (.seq (.rgn [] (by simp only [go_sem, seval, ac_, aa_]; rfl) ?_ ?_))
 ·first | trivial | simp
 refine .block (.loopK (fun k : Nat => ⟨[.sl false (bl_ l), .no, .no, .s (cj_ (l.take k)), .i .i64 k, .no, .no, .no, .no, .no, .no, .no, .no, .no, .no, .no, .no, .no, .no, .no, .no, .no], be_ [], us []⟩) (fun k : Nat => k ≤ l.length) (fun k : Nat => l.length - k) (0) ?_ ?_ (fun k hI => ?_))
 ·simp
 ·exact Can.weak (Weak.lit (by simp only [go_sem, seval, ac_, aa_, as_, leV, aq_, ar_, V.inn, us, T9_, Ta_] <;> (simp [mh_])) (by simp only [go_sem, seval, ac_, aa_, as_, leV, aq_, ar_, V.inn, us, T9_, Ta_]) (by simp only [go_sem, seval, ac_, aa_, as_, leV, aq_, ar_, V.inn, us, T9_, Ta_]))
 refine .seq (.seq (.rgn [] (by simp only [go_sem, seval, ac_, aa_]; rfl) ?_ ?_))
 ·first | trivial | simp
 refine .condB (by simp only [go_sem, seval, ac_, aa_]; rfl) (by simp only [go_sem, seval, ac_, aa_]) (fun h8 => ?_) (fun h8 => ?_)
 ·refine .skip (.seq (.block (.seqJ (fun q : Str => ⟨[.sl false (bl_ l), .no, .no, .s q, .i .i64 k, .no, .no, .no, .no, .no, .no, .no, .no, .no, .no, .no, .no, .no, .no, .no, .no, .no], be_ [], us []⟩) (fun q : Str => q = if 0 < k then cj_ (l.take k) ++ [10] else []) ?_ (fun q hJ => ?_))))
  ·refine .seq (.rgn [] (by simp only [go_sem, seval, ac_, aa_]; rfl) ?_ ?_)
   ·first | trivial | simp
   refine .condB (by simp only [go_sem, seval, ac_, aa_]; rfl) (by simp only [go_sem, seval, ac_, aa_]) (fun h12 => ?_) (fun h12 => ?_)
   ·refine .rgn [] (by simp only [go_sem, seval, ac_, aa_]; rfl) ?_ ?_
    ·have q := ad1_ (l := l) k; simp; omega
    refine Exists.intro (cj_ (l.take k) ++ [10]) ⟨?_, ?_⟩
    ·simp at h12; simp [h12]
    exact Can.weak (Weak.lit (by simp only [go_sem, seval, ac_, aa_, as_, leV, aq_, ar_, V.inn, us, T9_, Ta_] <;> ((simp at h12; subst h12; simp [mh_]))) (by simp only [go_sem, seval, ac_, aa_, as_, leV, aq_, ar_, V.inn, us, T9_, Ta_]) (by simp only [go_sem, seval, ac_, aa_, as_, leV, aq_, ar_, V.inn, us, T9_, Ta_]))
   ·refine .skip ?_
    refine Exists.intro ([]) ⟨?_, ?_⟩
    ·simp at h12; simp [h12]
    exact Can.weak (Weak.lit (by simp only [go_sem, seval, ac_, aa_, as_, leV, aq_, ar_, V.inn, us, T9_, Ta_] <;> ((simp at h12; subst h12; simp [mh_]))) (by simp only [go_sem, seval, ac_, aa_, as_, leV, aq_, ar_, V.inn, us, T9_, Ta_]) (by simp only [go_sem, seval, ac_, aa_, as_, leV, aq_, ar_, V.inn, us, T9_, Ta_]))
  refine .rgn [] (by simp only [go_sem, seval, ac_, aa_, cc_ (show k < l.length by simpa using h8)]; rfl) ?_ ?_
  ·have q1 := ad1_ (l := l) (k + 1); rw [x0_ (by simpa using h8), ← hJ, T2_] at q1; refine ⟨⟨by omega, by simpa using h8⟩, by omega⟩
  refine .rgn [] (by simp only [go_sem, seval, ac_, aa_]; rfl) ?_ ?_
  ·first | trivial | simp
  refine Exists.intro (k + 1) ⟨?_, ?_, ?_⟩
  ·simp at h8; omega
  ·simp at h8; omega
  exact Can.weak (Weak.lit (by simp only [go_sem, seval, ac_, aa_, as_, leV, aq_, ar_, V.inn, us, T9_, Ta_] <;> (rw [bg_ (by simp at h8; omega) (by simp at h8; omega)]; refine ⟨?_, by simp⟩; first | (rw [hJ, x0_ (by simpa using h8)]; done))) (by simp only [go_sem, seval, ac_, aa_, as_, leV, aq_, ar_, V.inn, us, T9_, Ta_]) (by simp only [go_sem, seval, ac_, aa_, as_, leV, aq_, ar_, V.inn, us, T9_, Ta_]))
 ·refine .exit (.seq (.rgn [] (by simp only [go_sem, seval, ac_, aa_]; rfl) ?_ ?_))
  ·first | trivial | simp
  refine .ret ⟨.inr rfl, ?_⟩
  exact Out.plain (by simp only [Tryz.results63]; rfl) (by simp only [av_, a5_, go_sem, seval, ac_, aa_] <;> (split <;> rfl)) (by simp only [a2_, go_sem, seval, ac_, aa_] <;> (simp at h8; rw [T1_ h8])) (by simp only [go_sem, seval, ac_, aa_])
theorem ady_ (s : Sl) (h : sok s = true) (hs : d0_ s = true) : ACall En 87 [.ag (sC s)] [] [.s (emT s), .sl false (inR (emF s))] [] := by
 have := (ad2_ s (c2_ h) hs).frz1 (rs' := [.s (emT s), .sl false (inR (emF s))]) (by simp [f5_, frz, ad_, T1_, emT, emF, h])
 exact this
end
end Go.Proofs.YtpikbndepapbhabGreatDoor
