/- Parts of the proof, one after another: What programs say: the reference's ProgRun. Conditions: none. -/
import Derived.Test.YteihfmnmpdbkiaaGreatDoorKy
import Derived.Test.YteihfmnmpdbkiaaGreatDoorKr
set_option linter.unusedVariables false
set_option linter.unusedSimpArgs false
namespace Go.Proofs.YteihfmnmpdbkiaaGreatDoor
section
set_option maxRecDepth 100000
set_option maxHeartbeats 4000000

theorem l6BothS_a (s : Sl) (N : List Str) (M : List Int) (h : form s.expr ((5 : Nat) : Int) = true) (h2 : s.kind = 3 → form s.thn ((5 : Nat) : Int) = true) (hl : N.length = M.length) (hn : N.length ≤ 1000000) :
    ACall En 98 [.ag (sC s), .sl false (strR N), .sl false (inR M)] [] [.i .i64 (rk s.expr N M).1, .i .i64 (bothS (ofS s) N M), .b (both (ofS s) N M).2.2] [] := by
  have e1 : (ofS s).expr = s.expr := rfl
  have e2 : (ofS s).thn = s.thn := rfl
  have e3 : (ofS s).kind = s.kind := rfl
  refine acall_of_body (fn := Tryz.f98) [] Tryz.func98 rfl rfl (by simp) fun C => ?_
  rw [entry_eq]
  simp only [Tryz.ntmps98, List.length_cons, List.length_nil, Nat.reduceAdd, Nat.reduceSub, List.replicate_succ, List.replicate_zero, List.cons_append, List.nil_append, numL]
  refine AWp.seq ?_
  refine AWp.rgn [] (by simp only [go_sem, seval, inR_len, inR_pure, sC_eq]; rfl) ?_ ?_
  · (first | trivial | (simp; done))
  refine AWp.seq ?_
  refine AWp.rgn [call0 (sOf_a 5 s.expr N M h hl hn)] (by simp only [go_sem, seval, inR_len, inR_pure, sC_eq]; rfl) ?_ ?_
  · (first | trivial | (simp; done))
  refine AWp.seq ?_
  refine AWp.seq ?_
  refine AWp.rgn [] (by simp only [go_sem, seval, inR_len, inR_pure, sC_eq]; rfl) ?_ ?_
  · (first | trivial | (simp; done))
  refine AWp.condB (by simp only [go_sem, seval, inR_len, inR_pure, sC_eq]; rfl) (by simp only [go_sem, seval, inR_len, inR_pure, sC_eq]) (fun h27 => ?_) (fun h27 => ?_)
  · refine AWp.seq ?_
    refine AWp.rgn [] (by simp only [go_sem, seval, inR_len, inR_pure, sC_eq]; rfl) ?_ ?_
    · (first | trivial | (simp; done))
    refine AWp.ret (And.intro (.inr rfl) ?_)
    exact Out.plain (by simp only [Tryz.results98]; rfl) (by simp only [resCs, resC, go_sem, seval, inR_len, inR_pure, sC_eq] <;> (split <;> rfl)) (by simp only [resV, go_sem, seval, inR_len, inR_pure, sC_eq] <;> (unfold both bothS; simp at h27; (by_cases hk : s.kind = 3 <;> simp_all))) (by simp only [go_sem, seval, inR_len, inR_pure, sC_eq])
  · refine AWp.skip ?_
    refine AWp.seq ?_
    refine AWp.rgn [call0 (sOf_a 5 s.thn N M (h2 (by simp at h27; exact h27.1)) hl hn)] (by simp only [go_sem, seval, inR_len, inR_pure, sC_eq]; rfl) ?_ ?_
    · (first | trivial | (simp; done))
    refine AWp.seq ?_
    refine AWp.rgn [] (by simp only [go_sem, seval, inR_len, inR_pure, sC_eq]; rfl) ?_ ?_
    · (first | trivial | (simp; done))
    refine AWp.ret (And.intro (.inr rfl) ?_)
    exact Out.plain (by simp only [Tryz.results98]; rfl) (by simp only [resCs, resC, go_sem, seval, inR_len, inR_pure, sC_eq] <;> (split <;> rfl)) (by simp only [resV, go_sem, seval, inR_len, inR_pure, sC_eq] <;> (unfold both bothS; simp at h27; simp [h27, e1, e2, e3])) (by simp only [go_sem, seval, inR_len, inR_pure, sC_eq])
theorem sProgRunO_a (l : List Sl) (sm : allS l = true) (hl : l.length < 4611686018427387904) : ACall En 35 [.sl false (sR l)] [] [.ow 0 1 0 (prun l).1.length, .b (prun l).2] [⟨3, 1, inR (prun l).1⟩] := by
  have F1 : ∀ k, pok l = true → k < l.length → ¬ (l.getD k S0).kind = 0 → form (l.getD k S0).expr ((5 : Nat) : Int) = true := fun k hs hk hk0 => eok_form (sok_expr ((pok_open hs).2.2 k hk) hk0)
  have F2 : ∀ k, pok l = true → k < l.length → (l.getD k S0).kind = 3 → form (l.getD k S0).thn ((5 : Nat) : Int) = true := fun k hs hk hk0 => eok_form (sok_thn ((pok_open hs).2.2 k hk) hk0)
  have F3 : ∀ k, pok l = true → k < l.length → ¬ (l.getD k S0).kind = 0 → ¬ (l.getD k S0).kind = 1 → ¬ (l.getD k S0).kind = 2 → (l.getD k S0).kind = 3 := fun k hs hk a b c => by have := sok_kind ((pok_open hs).2.2 k hk); omega
  refine acall_of_body (fn := Tryz.f35) [22] Tryz.func35 rfl rfl (by simp) fun C => ?_
  rw [entry_eq]
  simp only [Tryz.ntmps35, List.length_cons, List.length_nil, Nat.reduceAdd, Nat.reduceSub, List.replicate_succ, List.replicate_zero, List.cons_append, List.nil_append, numL]
  refine AWp.seq ?_
  refine AWp.rgn [] (by simp only [go_sem, seval, sR_len, sR_pure, inR_len, inR_pure, sC_eq]; rfl) ?_ ?_
  · (first | trivial | (simp; done) | (simp at h22; simp; omega) | (simp [List.take_of_length_le, strR_len, inR_len, ler_refl]; done) | (have := pruns_lt hI.1 (pok_open hI.2.2).2.1; simp; omega))
  refine AWp.seq ?_
  refine AWp.rgn [] (by simp only [go_sem, seval, sR_len, sR_pure, inR_len, inR_pure, sC_eq]; rfl) ?_ ?_
  · (first | trivial | (simp; done) | (simp at h22; simp; omega) | (simp [List.take_of_length_le, strR_len, inR_len, ler_refl]; done) | (have := pruns_lt hI.1 (pok_open hI.2.2).2.1; simp; omega))
  refine AWp.seq ?_
  refine AWp.seq ?_
  refine AWp.rgn [call0 (sProgOk_a l sm hl)] (by simp only [go_sem, seval, sR_len, sR_pure, inR_len, inR_pure, sC_eq]; rfl) ?_ ?_
  · (first | trivial | (simp; done) | (simp at h22; simp; omega) | (simp [List.take_of_length_le, strR_len, inR_len, ler_refl]; done) | (have := pruns_lt hI.1 (pok_open hI.2.2).2.1; simp; omega))
  refine AWp.condB (by simp only [go_sem, seval, sR_len, sR_pure, inR_len, inR_pure, sC_eq]; rfl) (by simp only [go_sem, seval, sR_len, sR_pure, inR_len, inR_pure, sC_eq]) (fun h15 => ?_) (fun h15 => ?_)
  · refine AWp.seq ?_
    refine AWp.rgn [] (by simp only [go_sem, seval, sR_len, sR_pure, inR_len, inR_pure, sC_eq]; rfl) ?_ ?_
    · (first | trivial | (simp; done) | (simp at h22; simp; omega) | (simp [List.take_of_length_le, strR_len, inR_len, ler_refl]; done) | (have := pruns_lt hI.1 (pok_open hI.2.2).2.1; simp; omega))
    refine AWp.can (Can.ownSlot 2 22 3 1 (by simp only [go_sem, seval, sR_len, sR_pure, inR_len, inR_pure, sC_eq] <;> rfl) (by simp only [go_sem, seval, sR_len, sR_pure, inR_len, inR_pure, sC_eq]) (by simp only [go_sem, seval, sR_len, sR_pure, inR_len, inR_pure, sC_eq] <;> rfl)) ?_
    refine AWp.ret (And.intro (.inr rfl) ?_)
    exact Out.mem' (by simp only [Tryz.results35]; rfl) (by simp only [resCs, resC, go_sem, seval, sR_len, sR_pure, inR_len, inR_pure, sC_eq]) (by simp only [resV, rns, rn, go_sem, seval, sR_len, sR_pure, inR_len, inR_pure, sC_eq] <;> (rw [prun_bad (by simpa using h15)]; simp)) (by simp) rfl (by decide) (by simp only [go_sem, seval, sR_len, sR_pure, inR_len, inR_pure, sC_eq]) (by simp only [clrs, go_sem, seval, sR_len, sR_pure, inR_len, inR_pure, sC_eq]) (by simp only [memEq, go_sem, seval, sR_len, sR_pure, inR_len, inR_pure, sC_eq] <;> (rw [prun_bad (by simpa using h15)]; simp [inR]))
  · refine AWp.skip ?_
    refine AWp.seq ?_
    refine AWp.rgn [] (by simp only [go_sem, seval, sR_len, sR_pure, inR_len, inR_pure, sC_eq]; rfl) ?_ ?_
    · (first | trivial | (simp; done) | (simp at h22; simp; omega) | (simp [List.take_of_length_le, strR_len, inR_len, ler_refl]; done) | (have := pruns_lt hI.1 (pok_open hI.2.2).2.1; simp; omega))
    refine AWp.seq ?_
    refine AWp.rgn [] (by simp only [go_sem, seval, sR_len, sR_pure, inR_len, inR_pure, sC_eq]; rfl) ?_ ?_
    · (first | trivial | (simp; done) | (simp at h22; simp; omega) | (simp [List.take_of_length_le, strR_len, inR_len, ler_refl]; done) | (have := pruns_lt hI.1 (pok_open hI.2.2).2.1; simp; omega))
    refine AWp.seq ?_
    refine AWp.seq ?_
    refine AWp.rgn [] (by simp only [go_sem, seval, sR_len, sR_pure, inR_len, inR_pure, sC_eq]; rfl) ?_ ?_
    · (first | trivial | (simp; done) | (simp at h22; simp; omega) | (simp [List.take_of_length_le, strR_len, inR_len, ler_refl]; done) | (have := pruns_lt hI.1 (pok_open hI.2.2).2.1; simp; omega))
    refine AWp.block ?_
    refine AWp.loopK (fun k : Nat => ⟨[.sl false (sR l), .no, .no, .no, .ow 22 1 0 (runs ((l.map ofS).take k)).said.length, .ow 20 1 0 (runs ((l.map ofS).take k)).names.length, .ow 21 1 0 (runs ((l.map ofS).take k)).nums.length, .i .i64 k, .no, .no, .no, .no, .no, .no, .no, .no, .no, .no, .no, .no, .no, .no, .no, .no, .no, .no, .no, .no, .no, .no, .no, .no, .no, .no, .no, .no, .no, .no, .no, .no, .no, .no, .no, .no, .no, .no, .no, .no, .no, .no, .no, .no, .no, .no, .no, .no, .no, .no, .no, .no, .no, .no, .no, .no, .no, .no, .no, .no, .no, .no, .no, .no, .no], memOf [(20, ⟨9, 1, strR (runs ((l.map ofS).take k)).names⟩), (21, ⟨3, 1, inR (runs ((l.map ofS).take k)).nums⟩), (22, ⟨3, 1, inR (runs ((l.map ofS).take k)).said⟩)], us [20, 21, 22]⟩) (fun k : Nat => k ≤ l.length ∧ (runs ((l.map ofS).take k)).ok = true ∧ pok l = true) (fun k : Nat => l.length - k) (0) ?_ ?_ (fun k hI => ?_)
    · exact ⟨Nat.zero_le _, by simp [runs], by simpa using h15⟩
    · refine Can.trans (Can.ownSlot 5 20 9 1 (by simp only [go_sem, seval, sR_len, sR_pure, inR_len, inR_pure, sC_eq] <;> rfl) (by simp only [go_sem, seval, sR_len, sR_pure, inR_len, inR_pure, sC_eq]) (by simp only [go_sem, seval, sR_len, sR_pure, inR_len, inR_pure, sC_eq] <;> rfl)) ?_
      refine Can.trans (Can.ownSlot 6 21 3 1 (by simp only [go_sem, seval, sR_len, sR_pure, inR_len, inR_pure, sC_eq] <;> rfl) (by simp only [go_sem, seval, sR_len, sR_pure, inR_len, inR_pure, sC_eq]) (by simp only [go_sem, seval, sR_len, sR_pure, inR_len, inR_pure, sC_eq] <;> rfl)) ?_
      refine Can.trans (Can.ownSlot 4 22 3 1 (by simp only [go_sem, seval, sR_len, sR_pure, inR_len, inR_pure, sC_eq] <;> rfl) (by simp only [go_sem, seval, sR_len, sR_pure, inR_len, inR_pure, sC_eq]) (by simp only [go_sem, seval, sR_len, sR_pure, inR_len, inR_pure, sC_eq] <;> rfl)) ?_
      exact Can.weak (Weak.lit (by simp only [go_sem, seval, sR_len, sR_pure, inR_len, inR_pure, sC_eq, subM, leV, inns, innr, V.inn, us, true_or, or_true] <;> (simp [runs])) (by simp only [go_sem, seval, sR_len, sR_pure, inR_len, inR_pure, sC_eq, subM, leV, inns, innr, V.inn, us, true_or, or_true]) (by simp only [go_sem, seval, sR_len, sR_pure, inR_len, inR_pure, sC_eq, subM, leV, inns, innr, V.inn, us, true_or, or_true] <;> (simp [runs, strR, inR])))
    refine AWp.seq ?_
    refine AWp.seq ?_
    refine AWp.rgn [] (by simp only [go_sem, seval, sR_len, sR_pure, inR_len, inR_pure, sC_eq]; rfl) ?_ ?_
    · (first | trivial | (simp; done) | (simp at h22; simp; omega) | (simp [List.take_of_length_le, strR_len, inR_len, ler_refl]; done) | (have := pruns_lt hI.1 (pok_open hI.2.2).2.1; simp; omega))
    refine AWp.condB (by simp only [go_sem, seval, sR_len, sR_pure, inR_len, inR_pure, sC_eq]; rfl) (by simp only [go_sem, seval, sR_len, sR_pure, inR_len, inR_pure, sC_eq]) (fun h22 => ?_) (fun h22 => ?_)
    · refine AWp.skip ?_
      refine AWp.seq ?_
      refine AWp.block ?_
      refine AWp.seq ?_
      refine AWp.rgn [] (by simp only [go_sem, seval, sR_len, sR_pure, inR_len, inR_pure, sC_eq, sR_get (show k < l.length by simpa using h22), sC_eq]; rfl) ?_ ?_
      · (first | trivial | (simp; done) | (simp at h22; simp; omega) | (simp [List.take_of_length_le, strR_len, inR_len, ler_refl]; done) | (have := pruns_lt hI.1 (pok_open hI.2.2).2.1; simp; omega))
      refine AWp.seq ?_
      refine AWp.seq ?_
      refine AWp.rgn [] (by simp only [go_sem, seval, sR_len, sR_pure, inR_len, inR_pure, sC_eq]; rfl) ?_ ?_
      · (first | trivial | (simp; done) | (simp at h22; simp; omega) | (simp [List.take_of_length_le, strR_len, inR_len, ler_refl]; done) | (have := pruns_lt hI.1 (pok_open hI.2.2).2.1; simp; omega))
      refine AWp.condB (by simp only [go_sem, seval, sR_len, sR_pure, inR_len, inR_pure, sC_eq]; rfl) (by simp only [go_sem, seval, sR_len, sR_pure, inR_len, inR_pure, sC_eq]) (fun h31 => ?_) (fun h31 => ?_)
      · refine AWp.exit ?_
        refine AWp.rgn [] (by simp only [go_sem, seval, sR_len, sR_pure, inR_len, inR_pure, sC_eq]; rfl) ?_ ?_
        · (first | trivial | (simp; done) | (simp at h22; simp; omega) | (simp [List.take_of_length_le, strR_len, inR_len, ler_refl]; done) | (have := pruns_lt hI.1 (pok_open hI.2.2).2.1; simp; omega))
        refine Exists.intro (k + 1) ⟨?_, ?_, ?_⟩
        · have hk : k < l.length := (by simpa using h22); have e := pruns_none hk (by simpa using h31); exact ⟨by omega, by rw [e]; exact hI.2.1, hI.2.2⟩
        · simp at h22; omega
        exact Can.weak (Weak.lit (by simp only [go_sem, seval, sR_len, sR_pure, inR_len, inR_pure, sC_eq, subM, leV, inns, innr, V.inn, us, true_or, or_true] <;> ((have hk : k < l.length := (by simpa using h22)); (have e := pruns_none hk (by simpa using h31)); rw [e, wrap64 (by omega) (by omega)]; simp)) (by simp only [go_sem, seval, sR_len, sR_pure, inR_len, inR_pure, sC_eq, subM, leV, inns, innr, V.inn, us, true_or, or_true]) (by simp only [go_sem, seval, sR_len, sR_pure, inR_len, inR_pure, sC_eq, subM, leV, inns, innr, V.inn, us, true_or, or_true] <;> ((have hk : k < l.length := (by simpa using h22)); (have e := pruns_none hk (by simpa using h31)); rw [e]; simp)))
      · refine AWp.skip ?_
        refine AWp.seq ?_
        refine AWp.rgn [callB (l6BothS_a (l.getD k S0) (runs ((l.map ofS).take k)).names (runs ((l.map ofS).take k)).nums (F1 k hI.2.2 (by simpa using h22) (by simpa using h31)) (F2 k hI.2.2 (by simpa using h22)) (pruns_lt hI.1 (pok_open hI.2.2).2.1).1 (by have := (pruns_lt hI.1 (pok_open hI.2.2).2.1).2.1; omega))] (by simp only [go_sem, seval, sR_len, sR_pure, inR_len, inR_pure, sC_eq]; rfl) ?_ ?_
        · (first | trivial | (simp; done) | (simp at h22; simp; omega) | (simp [List.take_of_length_le, strR_len, inR_len, ler_refl]; done) | (have := pruns_lt hI.1 (pok_open hI.2.2).2.1; simp; omega))
        refine AWp.block ?_
        refine AWp.seq ?_
        refine AWp.rgn [] (by simp only [go_sem, seval, sR_len, sR_pure, inR_len, inR_pure, sC_eq]; rfl) ?_ ?_
        · (first | trivial | (simp; done) | (simp at h22; simp; omega) | (simp [List.take_of_length_le, strR_len, inR_len, ler_refl]; done) | (have := pruns_lt hI.1 (pok_open hI.2.2).2.1; simp; omega))
        refine AWp.condB (by simp only [go_sem, seval, sR_len, sR_pure, inR_len, inR_pure, sC_eq]; rfl) (by simp only [go_sem, seval, sR_len, sR_pure, inR_len, inR_pure, sC_eq]) (fun h40 => ?_) (fun h40 => ?_)
        · refine AWp.seq ?_
          refine AWp.rgn [] (by simp only [go_sem, seval, sR_len, sR_pure, inR_len, inR_pure, sC_eq]; rfl) ?_ ?_
          · (first | trivial | (simp; done) | (simp at h22; simp; omega) | (simp [List.take_of_length_le, strR_len, inR_len, ler_refl]; done) | (have := pruns_lt hI.1 (pok_open hI.2.2).2.1; simp; omega))
          refine AWp.ret (And.intro (.inr rfl) ?_)
          exact Out.mem' (by simp only [Tryz.results35]; rfl) (by simp only [resCs, resC, go_sem, seval, sR_len, sR_pure, inR_len, inR_pure, sC_eq]) (by simp only [resV, rns, rn, go_sem, seval, sR_len, sR_pure, inR_len, inR_pure, sC_eq] <;> (rw [prun_stop hI.2.2 (by simpa using h22) hI.2.1 (by simpa using h31) (by simpa using h40)]; try simp)) (by simp) rfl (by decide) (by simp only [go_sem, seval, sR_len, sR_pure, inR_len, inR_pure, sC_eq]) (by simp only [clrs, go_sem, seval, sR_len, sR_pure, inR_len, inR_pure, sC_eq]) (by simp only [memEq, go_sem, seval, sR_len, sR_pure, inR_len, inR_pure, sC_eq] <;> (rw [prun_stop hI.2.2 (by simpa using h22) hI.2.1 (by simpa using h31) (by simpa using h40)]; (try simp [rnr_pure, inR_pure])))
        · refine AWp.seq ?_
          refine AWp.rgn [] (by simp only [go_sem, seval, sR_len, sR_pure, inR_len, inR_pure, sC_eq]; rfl) ?_ ?_
          · (first | trivial | (simp; done) | (simp at h22; simp; omega) | (simp [List.take_of_length_le, strR_len, inR_len, ler_refl]; done) | (have := pruns_lt hI.1 (pok_open hI.2.2).2.1; simp; omega))
          refine AWp.condB (by simp only [go_sem, seval, sR_len, sR_pure, inR_len, inR_pure, sC_eq]; rfl) (by simp only [go_sem, seval, sR_len, sR_pure, inR_len, inR_pure, sC_eq]) (fun h44 => ?_) (fun h44 => ?_)
          · refine AWp.seq ?_
            refine AWp.rgn [] (by simp only [go_sem, seval, sR_len, sR_pure, inR_len, inR_pure, sC_eq]; rfl) ?_ ?_
            · (first | trivial | (simp; done) | (simp at h22; simp; omega) | (simp [List.take_of_length_le, strR_len, inR_len, ler_refl]; done) | (have := pruns_lt hI.1 (pok_open hI.2.2).2.1; simp; omega))
            refine AWp.rgn [] (by simp only [go_sem, seval, sR_len, sR_pure, inR_len, inR_pure, sC_eq]; rfl) ?_ ?_
            · (first | trivial | (simp; done) | (simp at h22; simp; omega) | (simp [List.take_of_length_le, strR_len, inR_len, ler_refl]; done) | (have := pruns_lt hI.1 (pok_open hI.2.2).2.1; simp; omega))
            refine AWp.rgn [] (by simp only [go_sem, seval, sR_len, sR_pure, inR_len, inR_pure, sC_eq]; rfl) ?_ ?_
            · (first | trivial | (simp; done) | (simp at h22; simp; omega) | (simp [List.take_of_length_le, strR_len, inR_len, ler_refl]; done) | (have := pruns_lt hI.1 (pok_open hI.2.2).2.1; simp; omega))
            refine Exists.intro (k + 1) ⟨?_, ?_, ?_⟩
            · have hk : k < l.length := (by simpa using h22); have e := pruns_let hk hI.2.1 (by simpa using h44) (by simpa using h40); exact ⟨by omega, by rw [e]; exact hI.2.1, hI.2.2⟩
            · simp at h22; omega
            refine Can.trans (Can.swap 62 20 (by decide) (by decide) (by decide) (by decide) (by simp only [go_sem, seval, sR_len, sR_pure, inR_len, inR_pure, sC_eq, V.cl]) (by simp only [go_sem, seval, sR_len, sR_pure, inR_len, inR_pure, sC_eq, V.cl]) (by simp only [go_sem, seval, sR_len, sR_pure, inR_len, inR_pure, sC_eq, swL_get, sw, swM, rnB] <;> rfl) (by simp only [go_sem, seval, sR_len, sR_pure, inR_len, inR_pure, sC_eq, swL_get, sw, swM, rnB] <;> rfl) (by simp only [go_sem, seval, sR_len, sR_pure, inR_len, inR_pure, sC_eq, swL_get, sw, swM, rnB] <;> rfl)) ?_
            refine Can.trans (Can.swap 66 21 (by decide) (by decide) (by decide) (by decide) (by simp only [go_sem, seval, sR_len, sR_pure, inR_len, inR_pure, sC_eq, V.cl]) (by simp only [go_sem, seval, sR_len, sR_pure, inR_len, inR_pure, sC_eq, V.cl]) (by simp only [go_sem, seval, sR_len, sR_pure, inR_len, inR_pure, sC_eq, swL_get, sw, swM, rnB] <;> rfl) (by simp only [go_sem, seval, sR_len, sR_pure, inR_len, inR_pure, sC_eq, swL_get, sw, swM, rnB] <;> rfl) (by simp only [go_sem, seval, sR_len, sR_pure, inR_len, inR_pure, sC_eq, swL_get, sw, swM, rnB] <;> rfl)) ?_
            exact Can.weak (Weak.lit (by simp only [go_sem, seval, sR_len, sR_pure, inR_len, inR_pure, sC_eq, subM, leV, inns, innr, V.inn, us, true_or, or_true] <;> ((have hk : k < l.length := (by simpa using h22)); (have e := pruns_let hk hI.2.1 (by simpa using h44) (by simpa using h40)); rw [e, wrap64 (by omega) (by omega)]; simp)) (by simp only [go_sem, seval, sR_len, sR_pure, inR_len, inR_pure, sC_eq, subM, leV, inns, innr, V.inn, us, true_or, or_true]) (by simp only [go_sem, seval, sR_len, sR_pure, inR_len, inR_pure, sC_eq, subM, leV, inns, innr, V.inn, us, true_or, or_true] <;> ((have hk : k < l.length := (by simpa using h22)); (have e := pruns_let hk hI.2.1 (by simpa using h44) (by simpa using h40)); rw [e]; simp [strR_snoc1, inR_snoc1])))
          · refine AWp.seq ?_
            refine AWp.rgn [] (by simp only [go_sem, seval, sR_len, sR_pure, inR_len, inR_pure, sC_eq]; rfl) ?_ ?_
            · (first | trivial | (simp; done) | (simp at h22; simp; omega) | (simp [List.take_of_length_le, strR_len, inR_len, ler_refl]; done) | (have := pruns_lt hI.1 (pok_open hI.2.2).2.1; simp; omega))
            refine AWp.condB (by simp only [go_sem, seval, sR_len, sR_pure, inR_len, inR_pure, sC_eq]; rfl) (by simp only [go_sem, seval, sR_len, sR_pure, inR_len, inR_pure, sC_eq]) (fun h57 => ?_) (fun h57 => ?_)
            · refine AWp.rgn [] (by simp only [go_sem, seval, sR_len, sR_pure, inR_len, inR_pure, sC_eq]; rfl) ?_ ?_
              · (first | trivial | (simp; done) | (simp at h22; simp; omega) | (simp [List.take_of_length_le, strR_len, inR_len, ler_refl]; done) | (have := pruns_lt hI.1 (pok_open hI.2.2).2.1; simp; omega))
              refine AWp.rgn [] (by simp only [go_sem, seval, sR_len, sR_pure, inR_len, inR_pure, sC_eq]; rfl) ?_ ?_
              · (first | trivial | (simp; done) | (simp at h22; simp; omega) | (simp [List.take_of_length_le, strR_len, inR_len, ler_refl]; done) | (have := pruns_lt hI.1 (pok_open hI.2.2).2.1; simp; omega))
              refine Exists.intro (k + 1) ⟨?_, ?_, ?_⟩
              · have hk : k < l.length := (by simpa using h22); have e := pruns_say hk hI.2.1 (by simpa using h31) (by simpa using h44) (by simpa using h40) (.inl (by simpa using h57)); exact ⟨by omega, by rw [e]; exact hI.2.1, hI.2.2⟩
              · simp at h22; omega
              refine Can.trans (Can.swap 74 22 (by decide) (by decide) (by decide) (by decide) (by simp only [go_sem, seval, sR_len, sR_pure, inR_len, inR_pure, sC_eq, V.cl]) (by simp only [go_sem, seval, sR_len, sR_pure, inR_len, inR_pure, sC_eq, V.cl]) (by simp only [go_sem, seval, sR_len, sR_pure, inR_len, inR_pure, sC_eq, swL_get, sw, swM, rnB] <;> rfl) (by simp only [go_sem, seval, sR_len, sR_pure, inR_len, inR_pure, sC_eq, swL_get, sw, swM, rnB] <;> rfl) (by simp only [go_sem, seval, sR_len, sR_pure, inR_len, inR_pure, sC_eq, swL_get, sw, swM, rnB] <;> rfl)) ?_
              exact Can.weak (Weak.lit (by simp only [go_sem, seval, sR_len, sR_pure, inR_len, inR_pure, sC_eq, subM, leV, inns, innr, V.inn, us, true_or, or_true] <;> ((have hk : k < l.length := (by simpa using h22)); (have e := pruns_say hk hI.2.1 (by simpa using h31) (by simpa using h44) (by simpa using h40) (.inl (by simpa using h57))); rw [e, wrap64 (by omega) (by omega)]; simp)) (by simp only [go_sem, seval, sR_len, sR_pure, inR_len, inR_pure, sC_eq, subM, leV, inns, innr, V.inn, us, true_or, or_true]) (by simp only [go_sem, seval, sR_len, sR_pure, inR_len, inR_pure, sC_eq, subM, leV, inns, innr, V.inn, us, true_or, or_true] <;> ((have hk : k < l.length := (by simpa using h22)); (have e := pruns_say hk hI.2.1 (by simpa using h31) (by simpa using h44) (by simpa using h40) (.inl (by simpa using h57))); rw [e, both_say (b := ofS (l.getD k S0)) (by simpa using h57)]; simp [inR_snoc1])))
            · refine AWp.seq ?_
              refine AWp.rgn [] (by simp only [go_sem, seval, sR_len, sR_pure, inR_len, inR_pure, sC_eq]; rfl) ?_ ?_
              · (first | trivial | (simp; done) | (simp at h22; simp; omega) | (simp [List.take_of_length_le, strR_len, inR_len, ler_refl]; done) | (have := pruns_lt hI.1 (pok_open hI.2.2).2.1; simp; omega))
              refine AWp.condB (by simp only [go_sem, seval, sR_len, sR_pure, inR_len, inR_pure, sC_eq]; rfl) (by simp only [go_sem, seval, sR_len, sR_pure, inR_len, inR_pure, sC_eq]) (fun h65 => ?_) (fun h65 => ?_)
              · refine AWp.rgn [] (by simp only [go_sem, seval, sR_len, sR_pure, inR_len, inR_pure, sC_eq]; rfl) ?_ ?_
                · (first | trivial | (simp; done) | (simp at h22; simp; omega) | (simp [List.take_of_length_le, strR_len, inR_len, ler_refl]; done) | (have := pruns_lt hI.1 (pok_open hI.2.2).2.1; simp; omega))
                refine AWp.rgn [] (by simp only [go_sem, seval, sR_len, sR_pure, inR_len, inR_pure, sC_eq]; rfl) ?_ ?_
                · (first | trivial | (simp; done) | (simp at h22; simp; omega) | (simp [List.take_of_length_le, strR_len, inR_len, ler_refl]; done) | (have := pruns_lt hI.1 (pok_open hI.2.2).2.1; simp; omega))
                refine Exists.intro (k + 1) ⟨?_, ?_, ?_⟩
                · have hk : k < l.length := (by simpa using h22); have e := pruns_say hk hI.2.1 (by simpa using h31) (by simpa using h44) (by simpa using h40) (.inr (by simpa using h65)); exact ⟨by omega, by rw [e]; exact hI.2.1, hI.2.2⟩
                · simp at h22; omega
                refine Can.trans (Can.swap 81 22 (by decide) (by decide) (by decide) (by decide) (by simp only [go_sem, seval, sR_len, sR_pure, inR_len, inR_pure, sC_eq, V.cl]) (by simp only [go_sem, seval, sR_len, sR_pure, inR_len, inR_pure, sC_eq, V.cl]) (by simp only [go_sem, seval, sR_len, sR_pure, inR_len, inR_pure, sC_eq, swL_get, sw, swM, rnB] <;> rfl) (by simp only [go_sem, seval, sR_len, sR_pure, inR_len, inR_pure, sC_eq, swL_get, sw, swM, rnB] <;> rfl) (by simp only [go_sem, seval, sR_len, sR_pure, inR_len, inR_pure, sC_eq, swL_get, sw, swM, rnB] <;> rfl)) ?_
                exact Can.weak (Weak.lit (by simp only [go_sem, seval, sR_len, sR_pure, inR_len, inR_pure, sC_eq, subM, leV, inns, innr, V.inn, us, true_or, or_true] <;> ((have hk : k < l.length := (by simpa using h22)); (have e := pruns_say hk hI.2.1 (by simpa using h31) (by simpa using h44) (by simpa using h40) (.inr (by simpa using h65))); rw [e, wrap64 (by omega) (by omega)]; simp)) (by simp only [go_sem, seval, sR_len, sR_pure, inR_len, inR_pure, sC_eq, subM, leV, inns, innr, V.inn, us, true_or, or_true]) (by simp only [go_sem, seval, sR_len, sR_pure, inR_len, inR_pure, sC_eq, subM, leV, inns, innr, V.inn, us, true_or, or_true] <;> ((have hk : k < l.length := (by simpa using h22)); (have e := pruns_say hk hI.2.1 (by simpa using h31) (by simpa using h44) (by simpa using h40) (.inr (by simpa using h65))); rw [e, bothS_when (b := ofS (l.getD k S0)) (F3 k hI.2.2 hk (by simpa using h31) (by simpa using h44) (by simpa using h57)) (by simpa using h40)]; simp [inR_snoc1])))
              · refine AWp.skip ?_
                refine AWp.rgn [] (by simp only [go_sem, seval, sR_len, sR_pure, inR_len, inR_pure, sC_eq]; rfl) ?_ ?_
                · (first | trivial | (simp; done) | (simp at h22; simp; omega) | (simp [List.take_of_length_le, strR_len, inR_len, ler_refl]; done) | (have := pruns_lt hI.1 (pok_open hI.2.2).2.1; simp; omega))
                refine Exists.intro (k + 1) ⟨?_, ?_, ?_⟩
                · have hk : k < l.length := (by simpa using h22); have e := pruns_mute hk hI.2.1 (by simpa using h31) (by simpa using h44) (by simpa using h40) (by simpa using h57) (by simpa using h65); exact ⟨by omega, by rw [e]; exact hI.2.1, hI.2.2⟩
                · simp at h22; omega
                exact Can.weak (Weak.lit (by simp only [go_sem, seval, sR_len, sR_pure, inR_len, inR_pure, sC_eq, subM, leV, inns, innr, V.inn, us, true_or, or_true] <;> ((have hk : k < l.length := (by simpa using h22)); (have e := pruns_mute hk hI.2.1 (by simpa using h31) (by simpa using h44) (by simpa using h40) (by simpa using h57) (by simpa using h65)); rw [e, wrap64 (by omega) (by omega)]; simp)) (by simp only [go_sem, seval, sR_len, sR_pure, inR_len, inR_pure, sC_eq, subM, leV, inns, innr, V.inn, us, true_or, or_true]) (by simp only [go_sem, seval, sR_len, sR_pure, inR_len, inR_pure, sC_eq, subM, leV, inns, innr, V.inn, us, true_or, or_true] <;> ((have hk : k < l.length := (by simpa using h22)); (have e := pruns_mute hk hI.2.1 (by simpa using h31) (by simpa using h44) (by simpa using h40) (by simpa using h57) (by simpa using h65)); rw [e]; simp)))
    · refine AWp.exit ?_
      refine AWp.seq ?_
      refine AWp.rgn [] (by simp only [go_sem, seval, sR_len, sR_pure, inR_len, inR_pure, sC_eq]; rfl) ?_ ?_
      · (first | trivial | (simp; done) | (simp at h22; simp; omega) | (simp [List.take_of_length_le, strR_len, inR_len, ler_refl]; done) | (have := pruns_lt hI.1 (pok_open hI.2.2).2.1; simp; omega))
      refine AWp.ret (And.intro (.inr rfl) ?_)
      exact Out.mem' (by simp only [Tryz.results35]; rfl) (by simp only [resCs, resC, go_sem, seval, sR_len, sR_pure, inR_len, inR_pure, sC_eq]) (by simp only [resV, rns, rn, go_sem, seval, sR_len, sR_pure, inR_len, inR_pure, sC_eq] <;> (rw [prun_end hI.2.2 (by simpa using h22) hI.2.1]; try simp)) (by simp) rfl (by decide) (by simp only [go_sem, seval, sR_len, sR_pure, inR_len, inR_pure, sC_eq]) (by simp only [clrs, go_sem, seval, sR_len, sR_pure, inR_len, inR_pure, sC_eq]) (by simp only [memEq, go_sem, seval, sR_len, sR_pure, inR_len, inR_pure, sC_eq] <;> (rw [prun_end hI.2.2 (by simpa using h22) hI.2.1]; (try simp [rnr_pure, inR_pure])))
theorem sProgRun_a (l : List Sl) (hs : allS l = true) (hl : l.length < 4611686018427387904) : ACall En 35 [.sl false (sR l)] [] [.sl false (inR (prun l).1), .b (prun l).2] [] :=
  ACall.frz1 (sProgRunO_a l hs hl) (by simp [frzs, frz, inR_len, List.take_of_length_le])
end
end Go.Proofs.YteihfmnmpdbkiaaGreatDoor
