/- Parts of the proof, one after another: Programs: lists of lines; whether they are ok; what they are turned into. Conditions: none. -/
import Derived.Test.YteihfmnmpdbkiaaGreatDoorKo
import Derived.Test.YteihfmnmpdbkiaaGreatDoorKx
set_option linter.unusedVariables false
set_option linter.unusedSimpArgs false
namespace Go.Proofs.YteihfmnmpdbkiaaGreatDoor
section
set_option maxRecDepth 100000
set_option maxHeartbeats 4000000

def lnText (l : List Str) : Str := [(10 : UInt8)].intercalate l
theorem ln_cons (s x : Str) (l : List Str) : lnText (s :: x :: l) = s ++ 10 :: lnText (x :: l) := by simp [lnText, List.intercalate]
theorem ln_one (s : Str) : lnText [s] = s := by simp [lnText, List.intercalate]
theorem ln_nil : lnText [] = [] := rfl
theorem ln_len : ∀ l : List Str, l ≠ [] → (lnText l).length + 1 = (l.map List.length).sum + l.length
  | [], h => absurd rfl h
  | [s], _ => by rw [ln_one]; simp
  | s :: x :: l, _ => by
    have := ln_len (x :: l) (by simp)
    rw [ln_cons]
    simp only [List.length_append, List.length_cons, List.map_cons, List.sum_cons] at this ⊢
    omega
theorem ln_le {l : List Str} {k : Nat} (h : ∀ s ∈ l, s.length ≤ k) : (lnText l).length ≤ l.length * (k + 1) := by
  by_cases hl : l = []
  · subst hl; simp [ln_nil]
  · have h1 := ln_len l hl
    have h2 := sum_le h
    rw [Nat.mul_add]; omega
theorem ln_snoc : ∀ (l : List Str) (s : Str), lnText (l ++ [s]) = (if l = [] then [] else lnText l ++ [10]) ++ s
  | [], s => by simp [ln_one]
  | [x], s => by simp [ln_cons, ln_one]
  | x :: y :: l, s => by
    have := ln_snoc (y :: l) s
    simp only [List.cons_append] at this ⊢
    rw [ln_cons, ln_cons, this]
    simp
theorem ln_take {l : List Str} {k : Nat} (h : k < l.length) : lnText (l.take (k + 1)) = (if 0 < k then lnText (l.take k) ++ [10] else []) ++ l.getD k [] := by
  have e : l.take (k + 1) = l.take k ++ [l.getD k []] := by
    rw [List.take_add_one, List.getElem?_eq_getElem h, List.getD_eq_getElem?_getD, List.getElem?_eq_getElem h]; rfl
  rw [e, ln_snoc]
  congr 1
  cases k with
  | zero => simp
  | succ k =>
    have : l.take (k + 1) ≠ [] := by
      intro e0
      have := congrArg List.length e0
      rw [List.length_take] at this
      simp only [List.length_nil] at this
      omega
    rw [if_neg this, if_pos (by omega)]
theorem ln_sub {l : List Str} (k : Nat) : (lnText (l.take k)).length ≤ (lnText l).length := by
  by_cases h : l.take k = []
  · rw [h]; simp [ln_nil]
  · have h1 := ln_len _ h
    have h2 := ln_len l (fun e => h (by rw [e]; simp))
    have e : (l.map List.length).sum = ((l.take k).map List.length).sum + ((l.drop k).map List.length).sum := by
      conv => lhs; rw [← List.take_append_drop k l]
      rw [List.map_append, List.sum_append]
    have e2 : l.length = (l.take k).length + (l.drop k).length := by rw [← List.length_append, List.take_append_drop]
    omega
theorem sTextJoin_a (l : List Str) (hl : l.length < 1099511627776) (hb : (lnText l).length < 1099511627776) : ACall En 69 [.sl false (strR l)] [] [.s (lnText l)] [] := by
  refine acall_of_body (fn := Tryz.f69) [] Tryz.func69 rfl rfl (by simp) fun C => ?_
  rw [entry_eq]
  simp only [Tryz.ntmps69, List.length_cons, List.length_nil, Nat.reduceAdd, Nat.reduceSub, List.replicate_succ, List.replicate_zero, List.cons_append, List.nil_append, numL]
  refine AWp.seq ?_
  refine AWp.rgn [] (by simp only [go_sem, seval, strR_len, strR_pure]; rfl) ?_ ?_
  · (first | trivial | (simp; done))
  refine AWp.seq ?_
  refine AWp.rgn [] (by simp only [go_sem, seval, strR_len, strR_pure]; rfl) ?_ ?_
  · (first | trivial | (simp; done))
  refine AWp.seq ?_
  refine AWp.seq ?_
  refine AWp.rgn [] (by simp only [go_sem, seval, strR_len, strR_pure]; rfl) ?_ ?_
  · (first | trivial | (simp; done))
  refine AWp.block ?_
  refine AWp.loopK (fun k : Nat => ⟨[.sl false (strR l), .no, .no, .s (lnText (l.take k)), .i .i64 k, .no, .no, .no, .no, .no, .no, .no, .no, .no, .no, .no, .no, .no, .no, .no, .no, .no], memOf [], us []⟩) (fun k : Nat => k ≤ l.length) (fun k : Nat => l.length - k) (0) ?_ ?_ (fun k hI => ?_)
  · simp
  · exact Can.weak (Weak.lit (by simp only [go_sem, seval, strR_len, strR_pure, subM, leV, inns, innr, V.inn, us, true_or, or_true] <;> (simp [ln_nil])) (by simp only [go_sem, seval, strR_len, strR_pure, subM, leV, inns, innr, V.inn, us, true_or, or_true]) (by simp only [go_sem, seval, strR_len, strR_pure, subM, leV, inns, innr, V.inn, us, true_or, or_true]))
  refine AWp.seq ?_
  refine AWp.seq ?_
  refine AWp.rgn [] (by simp only [go_sem, seval, strR_len, strR_pure]; rfl) ?_ ?_
  · (first | trivial | (simp; done))
  refine AWp.condB (by simp only [go_sem, seval, strR_len, strR_pure]; rfl) (by simp only [go_sem, seval, strR_len, strR_pure]) (fun h8 => ?_) (fun h8 => ?_)
  · refine AWp.skip ?_
    refine AWp.seq ?_
    refine AWp.block ?_
    refine AWp.seqJ (fun q : Str => ⟨[.sl false (strR l), .no, .no, .s q, .i .i64 k, .no, .no, .no, .no, .no, .no, .no, .no, .no, .no, .no, .no, .no, .no, .no, .no, .no], memOf [], us []⟩) (fun q : Str => q = if 0 < k then lnText (l.take k) ++ [10] else []) ?_ (fun q hJ => ?_)
    · refine AWp.seq ?_
      refine AWp.rgn [] (by simp only [go_sem, seval, strR_len, strR_pure]; rfl) ?_ ?_
      · (first | trivial | (simp; done))
      refine AWp.condB (by simp only [go_sem, seval, strR_len, strR_pure]; rfl) (by simp only [go_sem, seval, strR_len, strR_pure]) (fun h12 => ?_) (fun h12 => ?_)
      · refine AWp.rgn [] (by simp only [go_sem, seval, strR_len, strR_pure]; rfl) ?_ ?_
        · have q := ln_sub (l := l) k; simp; omega
        refine Exists.intro (lnText (l.take k) ++ [10]) ⟨?_, ?_⟩
        · simp at h12; simp [h12]
        exact Can.weak (Weak.lit (by simp only [go_sem, seval, strR_len, strR_pure, subM, leV, inns, innr, V.inn, us, true_or, or_true] <;> ((simp at h12; subst h12; simp [ln_nil]))) (by simp only [go_sem, seval, strR_len, strR_pure, subM, leV, inns, innr, V.inn, us, true_or, or_true]) (by simp only [go_sem, seval, strR_len, strR_pure, subM, leV, inns, innr, V.inn, us, true_or, or_true]))
      · refine AWp.skip ?_
        refine Exists.intro ([]) ⟨?_, ?_⟩
        · simp at h12; simp [h12]
        exact Can.weak (Weak.lit (by simp only [go_sem, seval, strR_len, strR_pure, subM, leV, inns, innr, V.inn, us, true_or, or_true] <;> ((simp at h12; subst h12; simp [ln_nil]))) (by simp only [go_sem, seval, strR_len, strR_pure, subM, leV, inns, innr, V.inn, us, true_or, or_true]) (by simp only [go_sem, seval, strR_len, strR_pure, subM, leV, inns, innr, V.inn, us, true_or, or_true]))
    refine AWp.rgn [] (by simp only [go_sem, seval, strR_len, strR_pure, strR_get (show k < l.length by simpa using h8)]; rfl) ?_ ?_
    · have q1 := ln_sub (l := l) (k + 1); rw [ln_take (by simpa using h8), ← hJ, List.length_append] at q1; refine ⟨⟨by omega, by simpa using h8⟩, by omega⟩
    refine AWp.rgn [] (by simp only [go_sem, seval, strR_len, strR_pure]; rfl) ?_ ?_
    · (first | trivial | (simp; done))
    refine Exists.intro (k + 1) ⟨?_, ?_, ?_⟩
    · simp at h8; omega
    · simp at h8; omega
    exact Can.weak (Weak.lit (by simp only [go_sem, seval, strR_len, strR_pure, subM, leV, inns, innr, V.inn, us, true_or, or_true] <;> (rw [wrap64 (by simp at h8; omega) (by simp at h8; omega)]; refine ⟨?_, by simp⟩; first | (rw [hJ, ln_take (by simpa using h8)]; done))) (by simp only [go_sem, seval, strR_len, strR_pure, subM, leV, inns, innr, V.inn, us, true_or, or_true]) (by simp only [go_sem, seval, strR_len, strR_pure, subM, leV, inns, innr, V.inn, us, true_or, or_true]))
  · refine AWp.exit ?_
    refine AWp.seq ?_
    refine AWp.rgn [] (by simp only [go_sem, seval, strR_len, strR_pure]; rfl) ?_ ?_
    · (first | trivial | (simp; done))
    refine AWp.ret (And.intro (.inr rfl) ?_)
    exact Out.plain (by simp only [Tryz.results69]; rfl) (by simp only [resCs, resC, go_sem, seval, strR_len, strR_pure] <;> (split <;> rfl)) (by simp only [resV, go_sem, seval, strR_len, strR_pure] <;> (simp at h8; rw [List.take_of_length_le h8])) (by simp only [go_sem, seval, strR_len, strR_pure])
end
end Go.Proofs.YteihfmnmpdbkiaaGreatDoor
