/- Programs: lists of lines; whether they are ok; what they are turned into. Conditions: none. -/
import Derived.Test.YtpikbndepapbhaaGreatDoorKo
import Derived.Test.YtpikbndepapbhaaGreatDoorKx
set_option linter.unusedVariables false
set_option linter.unusedSimpArgs false
namespace Go.Proofs.YtpikbndepapbhaaGreatDoor
section
set_option maxRecDepth 100000
set_option maxHeartbeats 4000000
def pok (l : List Sl) : Bool := decide (1 ≤ l.length) && decide (l.length ≤ 16) && l.all sok
theorem agl_ {l : List Sl} (h : pok l = true) : 1 ≤ l.length ∧ l.length ≤ 16 ∧ ∀ k, k < l.length → sok (l.getD k S0) = true := by
 simp only [pok, T5_, T3_, List.all_eq_true] at h
 exact ⟨h.1.1, h.1.2, fun k hk => h.2 _ (bh_ hk)⟩
def cw_ (l : List Str) : Str := [(10 : UInt8)].intercalate l
theorem kr_ (s x : Str) (l : List Str) : cw_ (s :: x :: l) = s ++ 10 :: cw_ (x :: l) := by simp [cw_, List.intercalate]
theorem n5_ (s : Str) : cw_ [s] = s := by simp [cw_, List.intercalate]
theorem oa_ : cw_ [] = [] := rfl
theorem t1_ : ∀ l : List Str, l ≠ [] → (cw_ l).length + 1 = (l.map List.length).sum + l.length
 | [], h => absurd rfl h
 | [s], _ => by rw [n5_]; simp
 | s :: x :: l, _ => by
  have := t1_ (x :: l) (by simp)
  rw [kr_]
  simp only [T2_, T7_, List.map_cons, List.sum_cons] at this ⊢
  omega
theorem abx_ {l : List Str} {k : Nat} (h : ∀ s ∈ l, s.length ≤ k) : (cw_ l).length ≤ l.length * (k + 1) := by
 by_cases hl : l = []
 ·subst hl; simp [oa_]
 ·have h1 := t1_ l hl
  have h2 := zc_ h
  rw [Nat.mul_add]; omega
theorem aa3_ : ∀ (l : List Str) (s : Str), cw_ (l ++ [s]) = (if l = [] then [] else cw_ l ++ [10]) ++ s
 | [], s => by simp [n5_]
 | [x], s => by simp [kr_, n5_]
 | x :: y :: l, s => by
  have := aa3_ (y :: l) s
  simp only [List.cons_append] at this ⊢
  rw [kr_, kr_, this]
  simp
theorem aao_ {l : List Str} {k : Nat} (h : k < l.length) : cw_ (l.take (k + 1)) = (if 0 < k then cw_ (l.take k) ++ [10] else []) ++ l.getD k [] := by
 have e : l.take (k + 1) = l.take k ++ [l.getD k []] := by
  rw [List.take_add_one, T6_ h, T8_, T6_ h]; rfl
 rw [e, aa3_]
 congr 1
 cases k with
 | zero => simp
 | succ k =>
  have : l.take (k + 1) ≠ [] := by
   intro e0
   have := congrArg List.length e0
   rw [List.length_take] at this
   simp only [List.length_nil] at this
   omega
  rw [if_neg this, if_pos (by omega)]
theorem aeg_ {l : List Str} (k : Nat) : (cw_ (l.take k)).length ≤ (cw_ l).length := by
 by_cases h : l.take k = []
 ·rw [h]; simp [oa_]
 ·have h1 := t1_ _ h
  have h2 := t1_ l (fun e => h (by rw [e]; simp))
  have e : (l.map List.length).sum = ((l.take k).map List.length).sum + ((l.drop k).map List.length).sum := by
   conv => lhs; rw [← List.take_append_drop k l]
   rw [List.map_append, List.sum_append]
  have e2 : l.length = (l.take k).length + (l.drop k).length := by rw [← T2_, List.take_append_drop]
  omega
theorem xa_ (l : List Str) (hb : (cw_ l).length ≤ 1000000000000) (hn : l.length ≤ 1000000000000) : ACall En 38 [.sl false (bp_ l)] [] [.s (cw_ l)] [] := by
 refine ak_ (fn := Tryz.f38) [] Tryz.func38 rfl rfl (by simp) fun C => ?_
 rw [aw_]
 simp only [Tryz.ntmps38, T7_, List.length_nil, Nat.reduceAdd, Nat.reduceSub, List.replicate_succ, List.replicate_zero, List.cons_append, List.nil_append, bo_]
 refine .seq (.rgn [] (by simp only [go_sem, seval]; rfl) ?_ ?_)
 ·first | trivial | simp
 refine .seq (.rgn [a3_ (ahd_ l [10] hb hn)] (by simp only [go_sem, seval]; rfl) ?_ ?_)
 ·first | trivial | simp
 refine .ret ⟨.inr rfl, ?_⟩
 exact Out.plain (by simp only [Tryz.results38]; rfl) (by simp only [ay_, a6_, go_sem, seval] <;> (split <;> rfl)) (by simp only [a5_, go_sem, seval] <;> (rfl)) (by simp only [go_sem, seval])
theorem vt_ (l : List Str) (hl : l.length < 1099511627776) (hb : (cw_ l).length < 1099511627776) : ACall En 74 [.sl false (bp_ l)] [] [.s (cw_ l)] [] := by
 refine ak_ (fn := Tryz.f74) [] Tryz.func74 rfl rfl (by simp) fun C => ?_
 rw [aw_]
 simp only [Tryz.ntmps74, T7_, List.length_nil, Nat.reduceAdd, Nat.reduceSub, List.replicate_succ, List.replicate_zero, List.cons_append, List.nil_append, bo_]
 refine .seq (.rgn [] (by simp only [go_sem, seval, ab_, aa_]; rfl) ?_ ?_)
 ·first | trivial | simp
 refine .seq (.rgn [] (by simp only [go_sem, seval, ab_, aa_]; rfl) ?_ ?_)
 ·first | trivial | simp
 refine .seq (.seq (.rgn [] (by simp only [go_sem, seval, ab_, aa_]; rfl) ?_ ?_))
 ·first | trivial | simp
 refine .block (.loopK (fun k : Nat => ⟨[.sl false (bp_ l), .no, .no, .s (cw_ (l.take k)), .i .i64 k, .no, .no, .no, .no, .no, .no, .no, .no, .no, .no, .no, .no, .no, .no, .no, .no, .no], be_ [], us []⟩) (fun k : Nat => k ≤ l.length) (fun k : Nat => l.length - k) (0) ?_ ?_ (fun k hI => ?_))
 ·simp
 ·exact Can.weak (Weak.lit (by simp only [go_sem, seval, ab_, aa_, ar_, leV, ap_, aq_, V.inn, us, T9_, Ta_] <;> (simp [oa_])) (by simp only [go_sem, seval, ab_, aa_, ar_, leV, ap_, aq_, V.inn, us, T9_, Ta_]) (by simp only [go_sem, seval, ab_, aa_, ar_, leV, ap_, aq_, V.inn, us, T9_, Ta_]))
 refine .seq (.seq (.rgn [] (by simp only [go_sem, seval, ab_, aa_]; rfl) ?_ ?_))
 ·first | trivial | simp
 refine .condB (by simp only [go_sem, seval, ab_, aa_]; rfl) (by simp only [go_sem, seval, ab_, aa_]) (fun h8 => ?_) (fun h8 => ?_)
 ·refine .skip (.seq (.block (.seqJ (fun q : Str => ⟨[.sl false (bp_ l), .no, .no, .s q, .i .i64 k, .no, .no, .no, .no, .no, .no, .no, .no, .no, .no, .no, .no, .no, .no, .no, .no, .no], be_ [], us []⟩) (fun q : Str => q = if 0 < k then cw_ (l.take k) ++ [10] else []) ?_ (fun q hJ => ?_))))
  ·refine .seq (.rgn [] (by simp only [go_sem, seval, ab_, aa_]; rfl) ?_ ?_)
   ·first | trivial | simp
   refine .condB (by simp only [go_sem, seval, ab_, aa_]; rfl) (by simp only [go_sem, seval, ab_, aa_]) (fun h12 => ?_) (fun h12 => ?_)
   ·refine .rgn [] (by simp only [go_sem, seval, ab_, aa_]; rfl) ?_ ?_
    ·have q := aeg_ (l := l) k; simp; omega
    refine Exists.intro (cw_ (l.take k) ++ [10]) ⟨?_, ?_⟩
    ·simp at h12; simp [h12]
    exact Can.weak (Weak.lit (by simp only [go_sem, seval, ab_, aa_, ar_, leV, ap_, aq_, V.inn, us, T9_, Ta_] <;> ((simp at h12; subst h12; simp [oa_]))) (by simp only [go_sem, seval, ab_, aa_, ar_, leV, ap_, aq_, V.inn, us, T9_, Ta_]) (by simp only [go_sem, seval, ab_, aa_, ar_, leV, ap_, aq_, V.inn, us, T9_, Ta_]))
   ·refine .skip ?_
    refine Exists.intro ([]) ⟨?_, ?_⟩
    ·simp at h12; simp [h12]
    exact Can.weak (Weak.lit (by simp only [go_sem, seval, ab_, aa_, ar_, leV, ap_, aq_, V.inn, us, T9_, Ta_] <;> ((simp at h12; subst h12; simp [oa_]))) (by simp only [go_sem, seval, ab_, aa_, ar_, leV, ap_, aq_, V.inn, us, T9_, Ta_]) (by simp only [go_sem, seval, ab_, aa_, ar_, leV, ap_, aq_, V.inn, us, T9_, Ta_]))
  refine .rgn [] (by simp only [go_sem, seval, ab_, aa_, ca_ (show k < l.length by simpa using h8)]; rfl) ?_ ?_
  ·have q1 := aeg_ (l := l) (k + 1); rw [aao_ (by simpa using h8), ← hJ, T2_] at q1; refine ⟨⟨by omega, by simpa using h8⟩, by omega⟩
  refine .rgn [] (by simp only [go_sem, seval, ab_, aa_]; rfl) ?_ ?_
  ·first | trivial | simp
  refine Exists.intro (k + 1) ⟨?_, ?_, ?_⟩
  ·simp at h8; omega
  ·simp at h8; omega
  exact Can.weak (Weak.lit (by simp only [go_sem, seval, ab_, aa_, ar_, leV, ap_, aq_, V.inn, us, T9_, Ta_] <;> (rw [bd_ (by simp at h8; omega) (by simp at h8; omega)]; refine ⟨?_, by simp⟩; first | (rw [hJ, aao_ (by simpa using h8)]; done))) (by simp only [go_sem, seval, ab_, aa_, ar_, leV, ap_, aq_, V.inn, us, T9_, Ta_]) (by simp only [go_sem, seval, ab_, aa_, ar_, leV, ap_, aq_, V.inn, us, T9_, Ta_]))
 ·refine .exit (.seq (.rgn [] (by simp only [go_sem, seval, ab_, aa_]; rfl) ?_ ?_))
  ·first | trivial | simp
  refine .ret ⟨.inr rfl, ?_⟩
  exact Out.plain (by simp only [Tryz.results74]; rfl) (by simp only [ay_, a6_, go_sem, seval, ab_, aa_] <;> (split <;> rfl)) (by simp only [a5_, go_sem, seval, ab_, aa_] <;> (simp at h8; rw [T1_ h8])) (by simp only [go_sem, seval, ab_, aa_])
theorem amg_ {s : Sl} (h : sok s = true) : (emT s).length ≤ 120 := by
 unfold emT; rw [if_pos h]; exact (m9_ (tu_ h)).1
theorem alz_ (s : Sl) (h : sok s = true) (hs : e4_ s = true) : ACall En 57 [.ag (sC s)] [] [.s (emT s), .sl false (inR (emF s))] [] := by
 have := (alx_ s (dt_ h) hs).frz1 (rs' := [.s (emT s), .sl false (inR (emF s))]) (by simp [fj_, frz, aj_, T1_, emT, emF, h])
 exact this
end
end Go.Proofs.YtpikbndepapbhaaGreatDoor
