/- The law FnBookBad: what it answers. Conditions: none. -/
import Derived.Test.YtilppnadkfgnfaaGreatDoorK13
import Derived.Test.YtilppnadkfgnfaaGreatDoorK14
import Derived.Test.YtilppnadkfgnfaaGreatDoorK4
set_option linter.unusedVariables false
set_option linter.unusedSimpArgs false
namespace Go.Proofs.YtilppnadkfgnfaaGreatDoor
set_option maxRecDepth 100000
set_option maxHeartbeats 4000000
theorem aio_ {l : List Pg} (h : cl_ l = true) : nf_ l = d9_ l l.length := by unfold nf_; rw [if_pos h]
theorem qc_ {l : List Pg} (h : cl_ l = true) {k : Nat} (hk : k < l.length) : (decide (((d9_ l k).length : Int) < ((nf_ l).length : Int)) && ((nf_ l).getD (d9_ l k).length 0 == (k : Int))) = !(l.getD k Pg0).good := by
 have t := ahe_ (l := l) hk
 rw [aio_ h]
 cases hg : (l.getD k Pg0).good with
 | true =>
  rw [hg] at t
  show (_ : Bool) = false
  rw [Bool.eq_false_iff]; intro q
  simp only [T5_, T3_, beq_iff_eq] at q
  have := t.1 ⟨by omega, q.2⟩
  cases this
 | false =>
  obtain ⟨q1, q2⟩ := t.2 hg
  rw [decide_eq_true (by omega), q2]; simp
theorem aj8_ {l : List Pg} (h : cl_ l = true) {k : Nat} (hk : k < l.length) : (c6_ (l.getD k Pg0).line).isSome = (l.getD k Pg0).good := (gs_ ((co_ h).2.2 k hk)).2.2.symm
theorem an0_ (w : List Int) (n : Nat) : (decide ((n : Int) < w.length) = true → decide ((n : Int) < w.length) = true ∧ 0 ≤ (n : Int) ∧ (n : Int) < w.length ∧ ((inR w).getD n []).length = 1) ∧ (decide ((n : Int) < w.length) = true → (decide ((n : Int) < w.length) = true ∧ 1 ≤ ((inR w).getD n []).length) ∧ ({ v := ((inR w).getD n []).getD 0 .no } : Eff) = { v := .i .i64 (w.getD n 0) }) := by
 by_cases h : n < w.length
 ·rw [d0_ h]; simp
 ·simp; omega
theorem qu_ (c : Str) : ACall En 5 [.sl false (byR c)] [] [.b true] [] := by
 have DA := nr_ c
 have hB := amb_ (c.take 2000) 0
 have hn := aiu_ (c.take 2000) 0
 generalize (dBk (c.take 2000) 0).1 = l at *
 have s1 := aat_ l
 have b1 := ajr_ l
 have hS : cl_ l = false → el_ l = [] := fun h => by unfold el_; rw [h]; rfl
 have hT : cl_ l = false → nf_ l = [] := fun h => by unfold nf_; rw [h]; rfl
 have hN := fun k => mb_ l k
 have hok := al0_ l
 refine al_ (fn := Tryz.f5) [] Tryz.func5 rfl rfl (by simp) fun C => ?_
 rw [ay_]
 simp only [Tryz.ntmps5, T7_, List.length_nil, Nat.reduceAdd, Nat.reduceSub, List.replicate_succ, List.replicate_zero, List.cons_append, List.nil_append, bp_]
 refine .seq (.rgn [] (by simp only [go_sem, seval, asO, ad_, af_, ah_, ac_, ai_, au_, a0_, ak_, sgC]; rfl) ?_ ?_)
 ·(first | trivial | (simp; done) | (simp only [T3_] at h64; and_intros <;> first | omega | (simp; done)) | (simp only [T5_, T3_] at h100; simp; omega))
 refine .seq (.seq (.rgn [] (by simp only [go_sem, seval, asO, ad_, af_, ah_, ac_, ai_, au_, a0_, ak_, sgC]; rfl) ?_ ?_))
 ·(first | trivial | (simp; done) | (simp only [T3_] at h64; and_intros <;> first | omega | (simp; done)) | (simp only [T5_, T3_] at h100; simp; omega))
 refine .condB (by simp only [go_sem, seval, asO, ad_, af_, ah_, ac_, ai_, au_, a0_, ak_, sgC]; rfl) (by simp only [go_sem, seval, asO, ad_, af_, ah_, ac_, ai_, au_, a0_, ak_, sgC]) (fun h15 => ?_) (fun h15 => ?_)
 ·refine .seq (.rgn [] (by simp only [go_sem, seval, asO, ad_, af_, ah_, ac_, ai_, au_, a0_, ak_, sgC]; rfl) ?_ ?_)
  ·(first | trivial | (simp; done) | (simp only [T3_] at h64; and_intros <;> first | omega | (simp; done)) | (simp only [T5_, T3_] at h100; simp; omega))
  refine .ret ⟨.inr rfl, ?_⟩
  exact Out.plain (by simp only [Tryz.results5]; rfl) (by simp only [az_, a7_, go_sem, seval, asO, ad_, af_, ah_, ac_, ai_, au_, a0_, ak_, sgC] <;> (split <;> rfl)) (by simp only [a5_, go_sem, seval, asO, ad_, af_, ah_, ac_, ai_, au_, a0_, ak_, sgC] <;> (rfl)) (by simp only [go_sem, seval, asO, ad_, af_, ah_, ac_, ai_, au_, a0_, ak_, sgC])
 ·refine .skip (.seq (.rgn [a4_ DA] (by simp only [go_sem, seval, asO, ad_, af_, ah_, ac_, ai_, au_, a0_, ak_, sgC]; rfl) ?_ ?_))
  ·(first | trivial | (simp; done) | (simp only [T3_] at h64; and_intros <;> first | omega | (simp; done)) | (simp only [T5_, T3_] at h100; simp; omega))
  refine .seq (.rgn [a4_ (aah_ l hB (by omega))] (by simp only [go_sem, seval, asO, ad_, af_, ah_, ac_, ai_, au_, a0_, ak_, sgC]; rfl) ?_ ?_)
  ·(first | trivial | (simp; done) | (simp only [T3_] at h64; and_intros <;> first | omega | (simp; done)) | (simp only [T5_, T3_] at h100; simp; omega))
  refine .seq (.rgn [a4_ (aa8_ l hB (by omega))] (by simp only [go_sem, seval, asO, ad_, af_, ah_, ac_, ai_, au_, a0_, ak_, sgC]; rfl) ?_ ?_)
  ·(first | trivial | (simp; done) | (simp only [T3_] at h64; and_intros <;> first | omega | (simp; done)) | (simp only [T5_, T3_] at h100; simp; omega))
  refine .seq (.rgn [a4_ (aax_ l hB (by omega))] (by simp only [go_sem, seval, asO, ad_, af_, ah_, ac_, ai_, au_, a0_, ak_, sgC]; rfl) ?_ ?_)
  ·(first | trivial | (simp; done) | (simp only [T3_] at h64; and_intros <;> first | omega | (simp; done)) | (simp only [T5_, T3_] at h100; simp; omega))
  refine .seq (.seq (.rgn [a4_ (aay_ l hB (by omega)), a4_ (aaf_ (el_ l) (el_ l) (by omega) (by omega)), a4_ (sn_ l hB (by omega)), a4_ (uh_ l hB (by omega)), a4_ (aaa_ l hB (by omega)), a4_ (v3_ l hB (by omega))] (by simp only [go_sem, seval, asO, ad_, af_, ah_, ac_, ai_, au_, a0_, ak_, sgC]; rfl) ?_ ?_))
  ·(first | trivial | (simp; done) | (simp only [T3_] at h64; and_intros <;> first | omega | (simp; done)) | (simp only [T5_, T3_] at h100; simp; omega))
  refine .condB (by simp only [go_sem, seval, asO, ad_, af_, ah_, ac_, ai_, au_, a0_, ak_, sgC]; rfl) (by simp only [go_sem, seval, asO, ad_, af_, ah_, ac_, ai_, au_, a0_, ak_, sgC]) (fun h49 => ?_) (fun h49 => ?_)
  ·simp at h49
  ·refine .skip (.seq (.seq (.rgn [a4_ (h6_ l hB (by omega))] (by simp only [go_sem, seval, asO, ad_, af_, ah_, ac_, ai_, au_, a0_, ak_, sgC]; rfl) ?_ ?_)))
   ·(first | trivial | (simp; done) | (simp only [T3_] at h64; and_intros <;> first | omega | (simp; done)) | (simp only [T5_, T3_] at h100; simp; omega))
   refine .condB (by simp only [go_sem, seval, asO, ad_, af_, ah_, ac_, ai_, au_, a0_, ak_, sgC]; rfl) (by simp only [go_sem, seval, asO, ad_, af_, ah_, ac_, ai_, au_, a0_, ak_, sgC]) (fun h52 => ?_) (fun h52 => ?_)
   ·refine .seq (.rgn [] (by simp only [go_sem, seval, asO, ad_, af_, ah_, ac_, ai_, au_, a0_, ak_, sgC]; rfl) ?_ ?_)
    ·(first | trivial | (simp; done) | (simp only [T3_] at h64; and_intros <;> first | omega | (simp; done)) | (simp only [T5_, T3_] at h100; simp; omega))
    refine .ret ⟨.inr rfl, ?_⟩
    exact Out.plain (by simp only [Tryz.results5]; rfl) (by simp only [az_, a7_, go_sem, seval, asO, ad_, af_, ah_, ac_, ai_, au_, a0_, ak_, sgC] <;> (split <;> rfl)) (by simp only [a5_, go_sem, seval, asO, ad_, af_, ah_, ac_, ai_, au_, a0_, ak_, sgC] <;> (have h : cl_ l = false := (by simpa using h52); simp [hS h, hT h])) (by simp only [go_sem, seval, asO, ad_, af_, ah_, ac_, ai_, au_, a0_, ak_, sgC])
   ·refine .skip (.seq (.rgn [] (by simp only [go_sem, seval, asO, ad_, af_, ah_, ac_, ai_, au_, a0_, ak_, sgC]; rfl) ?_ ?_))
    ·(first | trivial | (simp; done) | (simp only [T3_] at h64; and_intros <;> first | omega | (simp; done)) | (simp only [T5_, T3_] at h100; simp; omega))
    refine .seq (.seq (.rgn [] (by simp only [go_sem, seval, asO, ad_, af_, ah_, ac_, ai_, au_, a0_, ak_, sgC]; rfl) ?_ ?_))
    ·(first | trivial | (simp; done) | (simp only [T3_] at h64; and_intros <;> first | omega | (simp; done)) | (simp only [T5_, T3_] at h100; simp; omega))
    refine .block (.loopK (fun k : Nat => ⟨[.no, .no, .no, .sl false (pgR l), .sl false (inR (nf_ l)), .no, .sl false (sgR (el_ l)), .i .i64 (d9_ l k).length, .i .i64 k, .no, .no, .no, .no, .no, .no, .no, .no, .no, .no, .no, .no, .no, .no, .no, .no, .no, .no, .no, .no, .no, .no, .no, .no, .no, .no, .no, .no, .no, .no, .no, .no, .no, .no, .no, .no, .no, .no, .no, .no, .no, .no, .no, .no, .no, .no, .no, .no, .no, .no, .no, .no, .no, .no, .no, .no, .no, .no, .no, .no, .no, .no, .no, .no, .no, .no, .no, .no, .no, .no, .no, .no, .no, .no, .no, .no, .no, .no, .no, .no, .no, .no, .no, .no, .no, .no, .no, .no, .no, .no, .no, .no, .no, .no, .no, .no, .no, .no, .no, .no, .no, .no, .no, .no, .no, .no, .no, .no, .no, .no], bc_ [], us []⟩) (fun k : Nat => k ≤ l.length ∧ cl_ l = true) (fun k : Nat => l.length - k) (0) ?_ ?_ (fun k hI => ?_))
    ·exact ⟨by simp, by simpa using h52⟩
    ·exact Can.weak (Weak.lit (by simp only [go_sem, seval, asO, ad_, af_, ah_, ac_, ai_, au_, a0_, ak_, sgC, as_, leV, aq_, ar_, V.inn, us, T9_, Ta_] <;> ((try simp [d9_]))) (by simp only [go_sem, seval, asO, ad_, af_, ah_, ac_, ai_, au_, a0_, ak_, sgC, as_, leV, aq_, ar_, V.inn, us, T9_, Ta_]) (by simp only [go_sem, seval, asO, ad_, af_, ah_, ac_, ai_, au_, a0_, ak_, sgC, as_, leV, aq_, ar_, V.inn, us, T9_, Ta_]))
    refine .seq (.seq (.rgn [] (by simp only [go_sem, seval, asO, ad_, af_, ah_, ac_, ai_, au_, a0_, ak_, sgC]; rfl) ?_ ?_))
    ·(first | trivial | (simp; done) | (simp only [T3_] at h64; and_intros <;> first | omega | (simp; done)) | (simp only [T5_, T3_] at h100; simp; omega))
    refine .condB (by simp only [go_sem, seval, asO, ad_, af_, ah_, ac_, ai_, au_, a0_, ak_, sgC]; rfl) (by simp only [go_sem, seval, asO, ad_, af_, ah_, ac_, ai_, au_, a0_, ak_, sgC]) (fun h64 => ?_) (fun h64 => ?_)
    ·refine .skip (.seq (.block (.seq (.rgn [cg_ (k < l.length) (fun h => vu_ (l.getD k Pg0).line (by have := (hB _ (bj_ (d := Pg0) h)).1; omega))] (by simp only [go_sem, seval, asO, ad_, af_, ah_, ac_, ai_, au_, a0_, ak_, sgC, cw_ (show k < l.length by simpa using h64)]; rfl) ?_ ?_))))
     ·(first | trivial | (simp; done) | (simp only [T3_] at h64; and_intros <;> first | omega | (simp; done)) | (simp only [T5_, T3_] at h100; simp; omega))
     refine .seq (.rgnS [84] [asO En { v := .i .i64 ((nf_ l).getD (d9_ l k).length 0) }] (by simp only [go_sem, seval, asO, ad_, af_, ah_, ac_, ai_, au_, a0_, ak_, sgC]; rfl) ?_ ?_)
     ·exact an0_ _ _
     refine .seq (.seq (.rgn [] (by simp only [go_sem, seval, asO, ad_, af_, ah_, ac_, ai_, au_, a0_, ak_, sgC]; rfl) ?_ ?_))
     ·(first | trivial | (simp; done) | (simp only [T3_] at h64; and_intros <;> first | omega | (simp; done)) | (simp only [T5_, T3_] at h100; simp; omega))
     refine .condB (by simp only [go_sem, seval, asO, ad_, af_, ah_, ac_, ai_, au_, a0_, ak_, sgC]; rfl) (by simp only [go_sem, seval, asO, ad_, af_, ah_, ac_, ai_, au_, a0_, ak_, sgC]) (fun h90 => ?_) (fun h90 => ?_)
     ·simp only [T3_] at h64; rw [qc_ hI.2 (k := k) (by omega), aj8_ hI.2 (k := k) (by omega)] at h90; simp at h90
     ·refine .skip (.seqJ (fun u : Unit => ⟨[.no, .no, .no, .sl false (pgR l), .sl false (inR (nf_ l)), .no, .sl false (sgR (el_ l)), .i .i64 (d9_ l (k + 1)).length, .i .i64 k, .no, .no, .b (!(l.getD k Pg0).good), .no, .no, .no, .no, .no, .no, .no, .no, .no, .no, .no, .no, .no, .no, .no, .no, .no, .no, .no, .no, .no, .no, .no, .no, .no, .no, .no, .no, .no, .no, .no, .no, .no, .no, .no, .no, .no, .no, .no, .no, .no, .no, .no, .no, .no, .no, .no, .no, .no, .no, .no, .no, .no, .no, .no, .no, .no, .no, .no, .no, .no, .no, .no, .no, .no, .no, .no, .no, .no, .no, .no, .no, .no, .no, .no, .no, .no, .no, .no, .no, .no, .no, .no, .no, .no, .no, .no, .no, .no, .no, .no, .no, .no, .no, .no, .no, .no, .no, .no, .no, .no, .no, .no, .no, .no, .no, .no], bc_ [], us []⟩) (fun u : Unit => True) ?_ (fun u hJ => ?_))
      ·refine .seq (.rgn [] (by simp only [go_sem, seval, asO, ad_, af_, ah_, ac_, ai_, au_, a0_, ak_, sgC]; rfl) ?_ ?_)
       ·(first | trivial | (simp; done) | (simp only [T3_] at h64; and_intros <;> first | omega | (simp; done)) | (simp only [T5_, T3_] at h100; simp; omega))
       refine .condB (by simp only [go_sem, seval, asO, ad_, af_, ah_, ac_, ai_, au_, a0_, ak_, sgC]; rfl) (by simp only [go_sem, seval, asO, ad_, af_, ah_, ac_, ai_, au_, a0_, ak_, sgC]) (fun h91 => ?_) (fun h91 => ?_)
       ·refine .rgn [] (by simp only [go_sem, seval, asO, ad_, af_, ah_, ac_, ai_, au_, a0_, ak_, sgC]; rfl) ?_ ?_
        ·(first | trivial | (simp; done) | (simp only [T3_] at h64; and_intros <;> first | omega | (simp; done)) | (simp only [T5_, T3_] at h100; simp; omega))
        refine Exists.intro (()) ⟨?_, ?_⟩
        ·trivial
        exact Can.weak (Weak.lit (by simp only [go_sem, seval, asO, ad_, af_, ah_, ac_, ai_, au_, a0_, ak_, sgC, as_, leV, aq_, ar_, V.inn, us, T9_, Ta_] <;> (simp only [T3_] at h64; have e := qc_ hI.2 (k := k) (by omega); have q := hN k; rw [e] at h91 ⊢; first | (rw [lj_ (i := k) (n := 0) (by simpa using h91), bf_ (by omega) (by omega)]; simp; done) | (rw [ff_ (i := k) (by simpa using h91)]; simp; done))) (by simp only [go_sem, seval, asO, ad_, af_, ah_, ac_, ai_, au_, a0_, ak_, sgC, as_, leV, aq_, ar_, V.inn, us, T9_, Ta_]) (by simp only [go_sem, seval, asO, ad_, af_, ah_, ac_, ai_, au_, a0_, ak_, sgC, as_, leV, aq_, ar_, V.inn, us, T9_, Ta_]))
       ·refine .skip ?_
        refine Exists.intro (()) ⟨?_, ?_⟩
        ·trivial
        exact Can.weak (Weak.lit (by simp only [go_sem, seval, asO, ad_, af_, ah_, ac_, ai_, au_, a0_, ak_, sgC, as_, leV, aq_, ar_, V.inn, us, T9_, Ta_] <;> (simp only [T3_] at h64; have e := qc_ hI.2 (k := k) (by omega); have q := hN k; rw [e] at h91 ⊢; first | (rw [lj_ (i := k) (n := 0) (by simpa using h91), bf_ (by omega) (by omega)]; simp; done) | (rw [ff_ (i := k) (by simpa using h91)]; simp; done))) (by simp only [go_sem, seval, asO, ad_, af_, ah_, ac_, ai_, au_, a0_, ak_, sgC, as_, leV, aq_, ar_, V.inn, us, T9_, Ta_]) (by simp only [go_sem, seval, asO, ad_, af_, ah_, ac_, ai_, au_, a0_, ak_, sgC, as_, leV, aq_, ar_, V.inn, us, T9_, Ta_]))
      refine .seq (.rgn [] (by simp only [go_sem, seval, asO, ad_, af_, ah_, ac_, ai_, au_, a0_, ak_, sgC]; rfl) ?_ ?_)
      ·(first | trivial | (simp; done) | (simp only [T3_] at h64; and_intros <;> first | omega | (simp; done)) | (simp only [T5_, T3_] at h100; simp; omega))
      refine .block (.loopK (fun j : Nat => ⟨[.no, .no, .no, .sl false (pgR l), .sl false (inR (nf_ l)), .no, .sl false (sgR (el_ l)), .i .i64 (d9_ l (k + 1)).length, .i .i64 k, .no, .no, .b (!(l.getD k Pg0).good), .i .i64 j, .no, .no, .no, .no, .no, .no, .no, .no, .no, .no, .no, .no, .no, .no, .no, .no, .no, .no, .no, .no, .no, .no, .no, .no, .no, .no, .no, .no, .no, .no, .no, .no, .no, .no, .no, .no, .no, .no, .no, .no, .no, .no, .no, .no, .no, .no, .no, .no, .no, .no, .no, .no, .no, .no, .no, .no, .no, .no, .no, .no, .no, .no, .no, .no, .no, .no, .no, .no, .no, .no, .no, .no, .no, .no, .no, .no, .no, .no, .no, .no, .no, .no, .no, .no, .no, .no, .no, .no, .no, .no, .no, .no, .no, .no, .no, .no, .no, .no, .no, .no, .no, .no, .no, .no, .no, .no], bc_ [], us []⟩) (fun j : Nat => (k ≤ l.length ∧ cl_ l = true) ∧ j ≤ (el_ l).length) (fun j : Nat => (el_ l).length - j) (0) ?_ ?_ (fun j hI => ?_))
      ·exact ⟨hI, Nat.zero_le _⟩
      ·exact Can.weak (Weak.lit (by simp only [go_sem, seval, asO, ad_, af_, ah_, ac_, ai_, au_, a0_, ak_, sgC, as_, leV, aq_, ar_, V.inn, us, T9_, Ta_] <;> ((try simp))) (by simp only [go_sem, seval, asO, ad_, af_, ah_, ac_, ai_, au_, a0_, ak_, sgC, as_, leV, aq_, ar_, V.inn, us, T9_, Ta_]) (by simp only [go_sem, seval, asO, ad_, af_, ah_, ac_, ai_, au_, a0_, ak_, sgC, as_, leV, aq_, ar_, V.inn, us, T9_, Ta_]))
      refine .seq (.seq (.rgn [] (by simp only [go_sem, seval, asO, ad_, af_, ah_, ac_, ai_, au_, a0_, ak_, sgC]; rfl) ?_ ?_))
      ·(first | trivial | (simp; done) | (simp only [T3_] at h64; and_intros <;> first | omega | (simp; done)) | (simp only [T5_, T3_] at h100; simp; omega))
      refine .condB (by simp only [go_sem, seval, asO, ad_, af_, ah_, ac_, ai_, au_, a0_, ak_, sgC]; rfl) (by simp only [go_sem, seval, asO, ad_, af_, ah_, ac_, ai_, au_, a0_, ak_, sgC]) (fun h100 => ?_) (fun h100 => ?_)
      ·refine .skip (.seq (.block (.seq (.rgn [] (by simp only [go_sem, seval, asO, ad_, af_, ah_, ac_, ai_, au_, a0_, ak_, sgC, aht_ (show j < (el_ l).length by simp at h100; exact h100.1)]; rfl) ?_ ?_))))
       ·(first | trivial | (simp; done) | (simp only [T3_] at h64; and_intros <;> first | omega | (simp; done)) | (simp only [T5_, T3_] at h100; simp; omega))
       refine .condB (by simp only [go_sem, seval, asO, ad_, af_, ah_, ac_, ai_, au_, a0_, ak_, sgC]; rfl) (by simp only [go_sem, seval, asO, ad_, af_, ah_, ac_, ai_, au_, a0_, ak_, sgC]) (fun h110 => ?_) (fun h110 => ?_)
       ·simp only [T5_, Bool.not_eq_true'] at h100; exact absurd (by simpa using h110) (alz_ (l := l) (i := k) (k := j) (by have := h100.1; simp only [T3_] at this; omega) h100.2)
       ·refine .skip (.rgn [] (by simp only [go_sem, seval, asO, ad_, af_, ah_, ac_, ai_, au_, a0_, ak_, sgC]; rfl) ?_ ?_)
        ·(first | trivial | (simp; done) | (simp only [T3_] at h64; and_intros <;> first | omega | (simp; done)) | (simp only [T5_, T3_] at h100; simp; omega))
        refine Exists.intro (j + 1) ⟨?_, ?_, ?_⟩
        ·simp only [T5_, T3_] at h100; exact ⟨hI.1, by omega⟩
        ·simp only [T5_, T3_] at h100; omega
        exact Can.weak (Weak.lit (by simp only [go_sem, seval, asO, ad_, af_, ah_, ac_, ai_, au_, a0_, ak_, sgC, as_, leV, aq_, ar_, V.inn, us, T9_, Ta_] <;> (simp only [T5_, T3_] at h100; rw [bf_ (by omega) (by omega)]; (try simp))) (by simp only [go_sem, seval, asO, ad_, af_, ah_, ac_, ai_, au_, a0_, ak_, sgC, as_, leV, aq_, ar_, V.inn, us, T9_, Ta_]) (by simp only [go_sem, seval, asO, ad_, af_, ah_, ac_, ai_, au_, a0_, ak_, sgC, as_, leV, aq_, ar_, V.inn, us, T9_, Ta_]))
      ·refine .exit (.rgn [] (by simp only [go_sem, seval, asO, ad_, af_, ah_, ac_, ai_, au_, a0_, ak_, sgC]; rfl) ?_ ?_)
       ·(first | trivial | (simp; done) | (simp only [T3_] at h64; and_intros <;> first | omega | (simp; done)) | (simp only [T5_, T3_] at h100; simp; omega))
       refine Exists.intro (k + 1) ⟨?_, ?_, ?_⟩
       ·simp at h64; exact ⟨by omega, hI.1.2⟩
       ·simp at h64; omega
       exact Can.weak (Weak.lit (by simp only [go_sem, seval, asO, ad_, af_, ah_, ac_, ai_, au_, a0_, ak_, sgC, as_, leV, aq_, ar_, V.inn, us, T9_, Ta_] <;> (simp at h64; rw [bf_ (by omega) (by omega)]; (try simp))) (by simp only [go_sem, seval, asO, ad_, af_, ah_, ac_, ai_, au_, a0_, ak_, sgC, as_, leV, aq_, ar_, V.inn, us, T9_, Ta_]) (by simp only [go_sem, seval, asO, ad_, af_, ah_, ac_, ai_, au_, a0_, ak_, sgC, as_, leV, aq_, ar_, V.inn, us, T9_, Ta_]))
    ·refine .exit (.seq (.rgn [a4_ (ah3_ (el_ l) (by omega))] (by simp only [go_sem, seval, asO, ad_, af_, ah_, ac_, ai_, au_, a0_, ak_, sgC]; rfl) ?_ ?_))
     ·(first | trivial | (simp; done) | (simp only [T3_] at h64; and_intros <;> first | omega | (simp; done)) | (simp only [T5_, T3_] at h100; simp; omega))
     refine .ret ⟨.inr rfl, ?_⟩
     exact Out.plain (by simp only [Tryz.results5]; rfl) (by simp only [az_, a7_, go_sem, seval, asO, ad_, af_, ah_, ac_, ai_, au_, a0_, ak_, sgC] <;> (split <;> rfl)) (by simp only [a5_, go_sem, seval, asO, ad_, af_, ah_, ac_, ai_, au_, a0_, ak_, sgC] <;> (simp only [T4_] at h64; rw [hok, aio_ hI.2, show k = l.length by omega]; simp)) (by simp only [go_sem, seval, asO, ad_, af_, ah_, ac_, ai_, au_, a0_, ak_, sgC])
end Go.Proofs.YtilppnadkfgnfaaGreatDoor
