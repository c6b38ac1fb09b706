/- Parts of the proof, one after another: Programs are drawn, one in ten bent. Conditions: none. -/
import Derived.Test.YteihfmnmpdbkiaaGreatDoorKs
import Derived.Test.YteihfmnmpdbkiaaGreatDoorKl
import Derived.Test.YteihfmnmpdbkiaaGreatDoorKq
set_option linter.unusedVariables false
set_option linter.unusedSimpArgs false
namespace Go.Proofs.YteihfmnmpdbkiaaGreatDoor
section
set_option maxRecDepth 100000
set_option maxHeartbeats 4000000

def d6k (b : Str) (q k : Int) (l : List Sl) : List Sl × Int :=
  if k = 0 then (l ++ [(dl5 b q).1], (dl5 b q).2)
  else if k = 1 then (l ++ List.replicate (17 - l.length) S0, q)
  else if k = 2 then ([], q)
  else (l, q)
def d6 (b : Str) (p : Int) : List Sl × Int := d6k b ((dProg b p).2 + 1) (pickI b (dProg b p).2 40) (dProg b p).1
theorem okS_allS {l : List Sl} (h : l.all okS = true) : allS l = true := by
  refine List.all_eq_true.2 fun s hs => ?_
  have := List.all_eq_true.1 h s hs
  simp only [okS, Bool.and_eq_true] at this; exact this.1.1
theorem sms_S0 : sms' S0 = true := by decide
theorem d6_p (b : Str) {p : Int} (hp : 0 ≤ p) (hp2 : p < 100000) : (d6 b p).1.length ≤ 17 ∧ allS (d6 b p).1 = true := by
  obtain ⟨h1, h2, h3, h4, h5⟩ := dProg_p b hp hp2
  have h6 := okS_allS h5
  have hD := dl5_p b (p := (dProg b p).2 + 1) (by omega) (by omega)
  unfold d6 d6k
  split
  · refine ⟨by simp; omega, ?_⟩
    dsimp only [allS] at h6 ⊢
    rw [List.all_append, h6, List.all_cons, hD.2.2]; rfl
  · split
    · refine ⟨by simp; omega, ?_⟩
      dsimp only [allS] at h6 ⊢
      rw [List.all_append, h6, Bool.true_and]
      exact List.all_eq_true.2 fun s hs => by rw [(List.mem_replicate.1 hs).2]; exact sms_S0
    · split
      · exact ⟨by simp, rfl⟩
      · exact ⟨by dsimp only; omega, h6⟩
theorem sR_rep (l : List Sl) (n : Nat) : sR (l ++ List.replicate (n + 1) S0) = sR (l ++ List.replicate n S0) ++ [sC S0] := by
  rw [List.replicate_succ', ← List.append_assoc, sR_app (l ++ List.replicate n S0)]; rfl
theorem l6Bent_a (b : Str) (p : Int) (hb : b.length ≤ 2000) (hp : 0 ≤ p) (hp2 : p < 100000) : ACall En 76 [.pt 0 2 0 0] [rdB b p] [.sl false (sR (d6 b p).1)] [rdB b (d6 b p).2] := by
  obtain ⟨h1, h2, h3, h4, h5⟩ := dProg_p b hp hp2
  have L := l6ProgO_a b p hb hp hp2
  have hd : d6 b p = d6k b ((dProg b p).2 + 1) (pickI b (dProg b p).2 40) (dProg b p).1 := rfl
  generalize dProg b p = P at *
  refine acall_of_body (fn := Tryz.f76) [0] Tryz.func76 rfl rfl (by simp) fun C => ?_
  rw [entry_eq]
  simp only [Tryz.ntmps76, List.length_cons, List.length_nil, Nat.reduceAdd, Nat.reduceSub, List.replicate_succ, List.replicate_zero, List.cons_append, List.nil_append, numL]
  refine AWp.seq ?_
  refine AWp.rgn [] (by simp only [go_sem, seval, ler_snocE, memEq, clrs, sR_len, sR_pure, sC_eq]; rfl) ?_ ?_
  · (first | trivial | (simp; done) | (simp; omega))
  refine AWp.seq ?_
  refine AWp.rgn [callN [0] [60] L] (by simp only [go_sem, seval, ler_snocE, memEq, clrs, sR_len, sR_pure, sC_eq]; rfl) ?_ ?_
  · (first | trivial | (simp; done) | (simp; omega))
  refine AWp.seqJ (fun q : List Sl × Int => ⟨[.pt 0 2 0 0, .no, .no, .sl false (sR q.1), .no, .no, .no, .no, .no, .no, .no, .no, .no, .no, .no, .no, .no, .no, .no, .no, .no, .no, .no, .no, .no, .no, .no, .no, .no], memOf [(0, rdB b q.2)], us []⟩) (fun q : List Sl × Int => q = d6 b p) ?_ (fun q hJ => ?_)
  · refine AWp.seq ?_
    refine AWp.rgn [callN [0] [] (pick_a b P.2 40 hb (by omega) (by omega))] (by simp only [go_sem, seval, ler_snocE, memEq, clrs, sR_len, sR_pure, sC_eq]; rfl) ?_ ?_
    · (first | trivial | (simp; done) | (simp; omega))
    refine AWp.block ?_
    refine AWp.seq ?_
    refine AWp.rgn [] (by simp only [go_sem, seval, ler_snocE, memEq, clrs, sR_len, sR_pure, sC_eq]; rfl) ?_ ?_
    · (first | trivial | (simp; done) | (simp; omega))
    refine AWp.condB (by simp only [go_sem, seval, ler_snocE, memEq, clrs, sR_len, sR_pure, sC_eq]; rfl) (by simp only [go_sem, seval, ler_snocE, memEq, clrs, sR_len, sR_pure, sC_eq]) (fun h8 => ?_) (fun h8 => ?_)
    · refine AWp.rgn [callN [0] [] (l5Bent_a b (P.2 + 1) hb (by omega) (by omega))] (by simp only [go_sem, seval, ler_snocE, memEq, clrs, sR_len, sR_pure, sC_eq]; rfl) ?_ ?_
      · (first | trivial | (simp; done) | (simp; omega))
      refine Exists.intro ((P.1 ++ [(dl5 b (P.2 + 1)).1], (dl5 b (P.2 + 1)).2)) ⟨?_, ?_⟩
      · rw [hd]; unfold d6k; first | (rw [if_pos (by simpa using h8)]; done) | (rw [if_neg (by simpa using h8), if_pos (by simpa using h15)]; done) | (rw [if_neg (by simpa using h8), if_neg (by simpa using h15), if_pos (by simpa using h24)]; done) | (rw [if_neg (by simpa using h8), if_neg (by simpa using h15), if_neg (by simpa using h24)]; done)
      refine Can.trans (Can.frz 24 (by simp only [go_sem, seval, ler_snocE, memEq, clrs, sR_len, sR_pure, sC_eq] <;> rfl) (by simp only [go_sem, seval, ler_snocE, memEq, clrs, sR_len, sR_pure, sC_eq]) (by simp only [go_sem, seval, ler_snocE, memEq, clrs, sR_len, sR_pure, sC_eq] <;> rfl) (by simp only [go_sem, seval, ler_snocE, memEq, clrs, sR_len, sR_pure, sC_eq] <;> rfl)) ?_
      exact Can.weak (Weak.lit (by simp only [go_sem, seval, ler_snocE, memEq, clrs, sR_len, sR_pure, sC_eq, subM, leV, inns, innr, V.inn, us, true_or, or_true] <;> (first | (simp only [decide_eq_false_iff_not] at h19; (obtain rfl : m = 17 := (by omega)); have e : (P.1 ++ List.replicate (17 - P.1.length) S0).length = 17 := (by simp; omega); rw [if_pos (by rw [e]; exact Nat.le_refl _), List.take_of_length_le (by rw [sR_len, e]; exact Nat.le_refl _)]; exact leV_refl _) | (rw [if_pos (Nat.zero_le _)]; simp [sR, leV, ler]; done) | (rw [List.take_of_length_le (by simp [sR_len])]; exact ler_refl _) | (simp [sR_app, sR_sing, sC_eq, sR_len, List.take_of_length_le, leV, ler_refl]; done))) (by simp only [go_sem, seval, ler_snocE, memEq, clrs, sR_len, sR_pure, sC_eq, subM, leV, inns, innr, V.inn, us, true_or, or_true]) (by simp only [go_sem, seval, ler_snocE, memEq, clrs, sR_len, sR_pure, sC_eq, subM, leV, inns, innr, V.inn, us, true_or, or_true]))
    · refine AWp.seq ?_
      refine AWp.rgn [] (by simp only [go_sem, seval, ler_snocE, memEq, clrs, sR_len, sR_pure, sC_eq]; rfl) ?_ ?_
      · (first | trivial | (simp; done) | (simp; omega))
      refine AWp.condB (by simp only [go_sem, seval, ler_snocE, memEq, clrs, sR_len, sR_pure, sC_eq]; rfl) (by simp only [go_sem, seval, ler_snocE, memEq, clrs, sR_len, sR_pure, sC_eq]) (fun h15 => ?_) (fun h15 => ?_)
      · refine AWp.block ?_
        refine AWp.loopK (fun m : Nat => ⟨[.pt 0 2 0 0, .no, .no, .ow 60 11 0 m, .no, .no, .no, .no, .no, .no, .no, .no, .no, .no, .no, .no, .no, .no, .no, .no, .no, .no, .no, .no, .no, .no, .no, .no, .no], memOf [(0, rdB b (P.2 + 1)), (60, ⟨32, 11, sR (P.1 ++ List.replicate (m - P.1.length) S0)⟩)], us [60]⟩) (fun m : Nat => m ≤ 17 ∧ P.1.length ≤ m) (fun m : Nat => 17 - m) (P.1.length) ?_ ?_ (fun m hI => ?_)
        · exact ⟨by omega, Nat.le_refl _⟩
        · exact Can.weak (Weak.lit (by simp only [go_sem, seval, ler_snocE, memEq, clrs, sR_len, sR_pure, sC_eq, subM, leV, inns, innr, V.inn, us, true_or, or_true] <;> ((try simp))) (by simp only [go_sem, seval, ler_snocE, memEq, clrs, sR_len, sR_pure, sC_eq, subM, leV, inns, innr, V.inn, us, true_or, or_true]) (by simp only [go_sem, seval, ler_snocE, memEq, clrs, sR_len, sR_pure, sC_eq, subM, leV, inns, innr, V.inn, us, true_or, or_true] <;> ((try simp))))
        refine AWp.seq ?_
        refine AWp.seq ?_
        refine AWp.rgn [] (by simp only [go_sem, seval, ler_snocE, memEq, clrs, sR_len, sR_pure, sC_eq]; rfl) ?_ ?_
        · (first | trivial | (simp; done) | (simp; omega))
        refine AWp.condB (by simp only [go_sem, seval, ler_snocE, memEq, clrs, sR_len, sR_pure, sC_eq]; rfl) (by simp only [go_sem, seval, ler_snocE, memEq, clrs, sR_len, sR_pure, sC_eq]) (fun h19 => ?_) (fun h19 => ?_)
        · refine AWp.skip ?_
          refine AWp.block ?_
          refine AWp.rgn [] (by simp only [go_sem, seval, ler_snocE, memEq, clrs, sR_len, sR_pure, sC_eq]; rfl) ?_ ?_
          · simp at h19; simp [fsOk]; omega
          refine Exists.intro (m + 1) ⟨?_, ?_, ?_⟩
          · simp at h19; omega
          · simp at h19; omega
          refine Can.trans (Can.swap 33 60 (by decide) (by decide) (by decide) (by decide) (by simp only [go_sem, seval, ler_snocE, memEq, clrs, sR_len, sR_pure, sC_eq, V.cl]) (by simp only [go_sem, seval, ler_snocE, memEq, clrs, sR_len, sR_pure, sC_eq, V.cl]) (by simp only [go_sem, seval, ler_snocE, memEq, clrs, sR_len, sR_pure, sC_eq, swL_get, sw, swM, rnB] <;> rfl) (by simp only [go_sem, seval, ler_snocE, memEq, clrs, sR_len, sR_pure, sC_eq, swL_get, sw, swM, rnB] <;> rfl) (by simp only [go_sem, seval, ler_snocE, memEq, clrs, sR_len, sR_pure, sC_eq, swL_get, sw, swM, rnB] <;> rfl)) ?_
          refine Can.trans (Can.leAt 60 (sR (P.1 ++ List.replicate (m - P.1.length) S0) ++ [[.i .i64 0, .s [], .s [], .i .i64 0, .i .i64 0, .s [], .sl false [], .i .i64 0, .i .i64 0, .s [], .sl false []]]) (by simp only [go_sem, seval, ler_snocE, memEq, clrs, sR_len, sR_pure, sC_eq] <;> rfl) (by simp only [go_sem, seval, ler_snocE, memEq, clrs, sR_len, sR_pure, sC_eq, ler, les, leV] <;> (first | trivial | simp)) (by simp only [go_sem, seval, ler_snocE, memEq, clrs, sR_len, sR_pure, sC_eq] <;> rfl)) ?_
          exact Can.weak (Weak.lit (by simp only [go_sem, seval, ler_snocE, memEq, clrs, sR_len, sR_pure, sC_eq, subM, leV, inns, innr, V.inn, us, true_or, or_true] <;> ((try simp))) (by simp only [go_sem, seval, ler_snocE, memEq, clrs, sR_len, sR_pure, sC_eq, subM, leV, inns, innr, V.inn, us, true_or, or_true]) (by simp only [go_sem, seval, ler_snocE, memEq, clrs, sR_len, sR_pure, sC_eq, subM, leV, inns, innr, V.inn, us, true_or, or_true] <;> (rw [show m + 1 - P.1.length = (m - P.1.length) + 1 by omega, sR_rep]; simp [sC_eq, S0, E0_k, E0_n, E0_s, E0_kids, eR_nil])))
        · refine AWp.exit ?_
          refine Exists.intro ((P.1 ++ List.replicate (17 - P.1.length) S0, P.2 + 1)) ⟨?_, ?_⟩
          · rw [hd]; unfold d6k; first | (rw [if_pos (by simpa using h8)]; done) | (rw [if_neg (by simpa using h8), if_pos (by simpa using h15)]; done) | (rw [if_neg (by simpa using h8), if_neg (by simpa using h15), if_pos (by simpa using h24)]; done) | (rw [if_neg (by simpa using h8), if_neg (by simpa using h15), if_neg (by simpa using h24)]; done)
          refine Can.trans (Can.frz 60 (by simp only [go_sem, seval, ler_snocE, memEq, clrs, sR_len, sR_pure, sC_eq] <;> rfl) (by simp only [go_sem, seval, ler_snocE, memEq, clrs, sR_len, sR_pure, sC_eq]) (by simp only [go_sem, seval, ler_snocE, memEq, clrs, sR_len, sR_pure, sC_eq] <;> rfl) (by simp only [go_sem, seval, ler_snocE, memEq, clrs, sR_len, sR_pure, sC_eq] <;> rfl)) ?_
          exact Can.weak (Weak.lit (by simp only [go_sem, seval, ler_snocE, memEq, clrs, sR_len, sR_pure, sC_eq, subM, leV, inns, innr, V.inn, us, true_or, or_true] <;> (first | (simp only [decide_eq_false_iff_not] at h19; (obtain rfl : m = 17 := (by omega)); have e : (P.1 ++ List.replicate (17 - P.1.length) S0).length = 17 := (by simp; omega); rw [if_pos (by rw [e]; exact Nat.le_refl _), List.take_of_length_le (by rw [sR_len, e]; exact Nat.le_refl _)]; exact leV_refl _) | (rw [if_pos (Nat.zero_le _)]; simp [sR, leV, ler]; done) | (rw [List.take_of_length_le (by simp [sR_len])]; exact ler_refl _) | (simp [sR_app, sR_sing, sC_eq, sR_len, List.take_of_length_le, leV, ler_refl]; done))) (by simp only [go_sem, seval, ler_snocE, memEq, clrs, sR_len, sR_pure, sC_eq, subM, leV, inns, innr, V.inn, us, true_or, or_true]) (by simp only [go_sem, seval, ler_snocE, memEq, clrs, sR_len, sR_pure, sC_eq, subM, leV, inns, innr, V.inn, us, true_or, or_true]))
      · refine AWp.seq ?_
        refine AWp.rgn [] (by simp only [go_sem, seval, ler_snocE, memEq, clrs, sR_len, sR_pure, sC_eq]; rfl) ?_ ?_
        · (first | trivial | (simp; done) | (simp; omega))
        refine AWp.condB (by simp only [go_sem, seval, ler_snocE, memEq, clrs, sR_len, sR_pure, sC_eq]; rfl) (by simp only [go_sem, seval, ler_snocE, memEq, clrs, sR_len, sR_pure, sC_eq]) (fun h24 => ?_) (fun h24 => ?_)
        · refine AWp.rgn [] (by simp only [go_sem, seval, ler_snocE, memEq, clrs, sR_len, sR_pure, sC_eq]; rfl) ?_ ?_
          · (first | trivial | (simp; done) | (simp; omega))
          refine Exists.intro (([], P.2 + 1)) ⟨?_, ?_⟩
          · rw [hd]; unfold d6k; first | (rw [if_pos (by simpa using h8)]; done) | (rw [if_neg (by simpa using h8), if_pos (by simpa using h15)]; done) | (rw [if_neg (by simpa using h8), if_neg (by simpa using h15), if_pos (by simpa using h24)]; done) | (rw [if_neg (by simpa using h8), if_neg (by simpa using h15), if_neg (by simpa using h24)]; done)
          refine Can.trans (Can.frz 60 (by simp only [go_sem, seval, ler_snocE, memEq, clrs, sR_len, sR_pure, sC_eq] <;> rfl) (by simp only [go_sem, seval, ler_snocE, memEq, clrs, sR_len, sR_pure, sC_eq]) (by simp only [go_sem, seval, ler_snocE, memEq, clrs, sR_len, sR_pure, sC_eq] <;> rfl) (by simp only [go_sem, seval, ler_snocE, memEq, clrs, sR_len, sR_pure, sC_eq] <;> rfl)) ?_
          exact Can.weak (Weak.lit (by simp only [go_sem, seval, ler_snocE, memEq, clrs, sR_len, sR_pure, sC_eq, subM, leV, inns, innr, V.inn, us, true_or, or_true] <;> (first | (simp only [decide_eq_false_iff_not] at h19; (obtain rfl : m = 17 := (by omega)); have e : (P.1 ++ List.replicate (17 - P.1.length) S0).length = 17 := (by simp; omega); rw [if_pos (by rw [e]; exact Nat.le_refl _), List.take_of_length_le (by rw [sR_len, e]; exact Nat.le_refl _)]; exact leV_refl _) | (rw [if_pos (Nat.zero_le _)]; simp [sR, leV, ler]; done) | (rw [List.take_of_length_le (by simp [sR_len])]; exact ler_refl _) | (simp [sR_app, sR_sing, sC_eq, sR_len, List.take_of_length_le, leV, ler_refl]; done))) (by simp only [go_sem, seval, ler_snocE, memEq, clrs, sR_len, sR_pure, sC_eq, subM, leV, inns, innr, V.inn, us, true_or, or_true]) (by simp only [go_sem, seval, ler_snocE, memEq, clrs, sR_len, sR_pure, sC_eq, subM, leV, inns, innr, V.inn, us, true_or, or_true]))
        · refine AWp.skip ?_
          refine Exists.intro ((P.1, P.2 + 1)) ⟨?_, ?_⟩
          · rw [hd]; unfold d6k; first | (rw [if_pos (by simpa using h8)]; done) | (rw [if_neg (by simpa using h8), if_pos (by simpa using h15)]; done) | (rw [if_neg (by simpa using h8), if_neg (by simpa using h15), if_pos (by simpa using h24)]; done) | (rw [if_neg (by simpa using h8), if_neg (by simpa using h15), if_neg (by simpa using h24)]; done)
          refine Can.trans (Can.frz 60 (by simp only [go_sem, seval, ler_snocE, memEq, clrs, sR_len, sR_pure, sC_eq] <;> rfl) (by simp only [go_sem, seval, ler_snocE, memEq, clrs, sR_len, sR_pure, sC_eq]) (by simp only [go_sem, seval, ler_snocE, memEq, clrs, sR_len, sR_pure, sC_eq] <;> rfl) (by simp only [go_sem, seval, ler_snocE, memEq, clrs, sR_len, sR_pure, sC_eq] <;> rfl)) ?_
          exact Can.weak (Weak.lit (by simp only [go_sem, seval, ler_snocE, memEq, clrs, sR_len, sR_pure, sC_eq, subM, leV, inns, innr, V.inn, us, true_or, or_true] <;> (first | (simp only [decide_eq_false_iff_not] at h19; (obtain rfl : m = 17 := (by omega)); have e : (P.1 ++ List.replicate (17 - P.1.length) S0).length = 17 := (by simp; omega); rw [if_pos (by rw [e]; exact Nat.le_refl _), List.take_of_length_le (by rw [sR_len, e]; exact Nat.le_refl _)]; exact leV_refl _) | (rw [if_pos (Nat.zero_le _)]; simp [sR, leV, ler]; done) | (rw [List.take_of_length_le (by simp [sR_len])]; exact ler_refl _) | (simp [sR_app, sR_sing, sC_eq, sR_len, List.take_of_length_le, leV, ler_refl]; done))) (by simp only [go_sem, seval, ler_snocE, memEq, clrs, sR_len, sR_pure, sC_eq, subM, leV, inns, innr, V.inn, us, true_or, or_true]) (by simp only [go_sem, seval, ler_snocE, memEq, clrs, sR_len, sR_pure, sC_eq, subM, leV, inns, innr, V.inn, us, true_or, or_true]))
  refine AWp.seq ?_
  refine AWp.rgn [] (by simp only [go_sem, seval, ler_snocE, memEq, clrs, sR_len, sR_pure, sC_eq]; rfl) ?_ ?_
  · (first | trivial | (simp; done) | (simp; omega))
  refine AWp.ret (And.intro (.inr rfl) ?_)
  exact Out.mem' (by simp only [Tryz.results76]; rfl) (by simp only [resCs, resC, go_sem, seval, ler_snocE, memEq, clrs, sR_len, sR_pure, sC_eq]) (by simp only [resV, rns, rn, go_sem, seval, ler_snocE, memEq, clrs, sR_len, sR_pure, sC_eq] <;> (rw [← hJ])) (by simp) rfl (by decide) (by simp only [go_sem, seval, ler_snocE, memEq, clrs, sR_len, sR_pure, sC_eq]) (by simp only [clrs, go_sem, seval, ler_snocE, memEq, clrs, sR_len, sR_pure, sC_eq]) (by simp only [memEq, go_sem, seval, ler_snocE, memEq, clrs, sR_len, sR_pure, sC_eq] <;> (rw [← hJ]))
theorem DrawEmitSegs_a (b : Str) : ACall En 22 [.sl false (byR b)] [] [.sl false (sR (d6 (b.take 2000) 0).1)] [] := by
  refine acall_of_body (fn := Tryz.f22) [] Tryz.func22 rfl rfl (by simp) fun C => ?_
  rw [entry_eq]
  simp only [Tryz.ntmps22, List.length_cons, List.length_nil, Nat.reduceAdd, Nat.reduceSub, List.replicate_succ, List.replicate_zero, List.cons_append, List.nil_append, numL]
  refine AWp.seq ?_
  refine AWp.rgn [] (by simp only [go_sem, seval, memEq, clrs, sR_pure]; rfl) ?_ ?_
  · (first | trivial | (simp; done))
  refine AWp.seq ?_
  refine AWp.rgn [callN [] [14] (l12Open_a b), callN [14] [] (l6Bent_a (b.take 2000) 0 (by simp; omega) (by decide) (by decide))] (by simp only [go_sem, seval, memEq, clrs, sR_pure]; rfl) ?_ ?_
  · (first | trivial | (simp; done))
  refine AWp.ret (And.intro (.inr rfl) ?_)
  exact Out.plain (by simp only [Tryz.results22]; rfl) (by simp only [resCs, resC, go_sem, seval, memEq, clrs, sR_pure] <;> (split <;> rfl)) (by simp only [resV, go_sem, seval, memEq, clrs, sR_pure] <;> (rfl)) (by simp only [go_sem, seval, memEq, clrs, sR_pure])
theorem DrawEmitText_a (b : Str) : ACall En 26 [.sl false (byR b)] [] [.sl false (sR (d6 (b.take 2000) 0).1)] [] := by
  refine acall_of_body (fn := Tryz.f26) [] Tryz.func26 rfl rfl (by simp) fun C => ?_
  rw [entry_eq]
  simp only [Tryz.ntmps26, List.length_cons, List.length_nil, Nat.reduceAdd, Nat.reduceSub, List.replicate_succ, List.replicate_zero, List.cons_append, List.nil_append, numL]
  refine AWp.seq ?_
  refine AWp.rgn [] (by simp only [go_sem, seval, memEq, clrs, sR_pure]; rfl) ?_ ?_
  · (first | trivial | (simp; done))
  refine AWp.seq ?_
  refine AWp.rgn [callN [] [14] (l12Open_a b), callN [14] [] (l6Bent_a (b.take 2000) 0 (by simp; omega) (by decide) (by decide))] (by simp only [go_sem, seval, memEq, clrs, sR_pure]; rfl) ?_ ?_
  · (first | trivial | (simp; done))
  refine AWp.ret (And.intro (.inr rfl) ?_)
  exact Out.plain (by simp only [Tryz.results26]; rfl) (by simp only [resCs, resC, go_sem, seval, memEq, clrs, sR_pure] <;> (split <;> rfl)) (by simp only [resV, go_sem, seval, memEq, clrs, sR_pure] <;> (rfl)) (by simp only [go_sem, seval, memEq, clrs, sR_pure])
end
end Go.Proofs.YteihfmnmpdbkiaaGreatDoor
