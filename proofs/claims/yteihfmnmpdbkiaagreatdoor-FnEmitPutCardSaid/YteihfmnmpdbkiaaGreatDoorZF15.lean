/- The law FnEmitCat: what it answers. Conditions: none. -/
import Derived.Test.YteihfmnmpdbkiaaGreatDoorZF14
import Derived.Test.YteihfmnmpdbkiaaGreatDoorK3
set_option linter.unusedVariables false
set_option linter.unusedSimpArgs false
namespace Go.Proofs.YteihfmnmpdbkiaaGreatDoor
set_option maxRecDepth 100000
set_option maxHeartbeats 8000000

theorem emText_le (l : List Sl) : (emText l).length ≤ 2000 := by
  unfold emText; split
  · rename_i h; exact (emTs_le h).1
  · simp
theorem sgSh_take {L : List Sg} {n : Int} {j : Nat} (h : j < L.length) : sgR ((L.take (j + 1)).map (sgSh n)) = sgR ((L.take j).map (sgSh n)) ++ [[.i .i64 ((L.getD j G0).1 + n), .i .i64 (L.getD j G0).2.1, .i .i64 ((L.getD j G0).2.2.1 + n), .i .i64 (L.getD j G0).2.2.2]] := by
  rw [List.take_add_one, List.getElem?_eq_getElem h, List.map_append, sgR_app, List.getD_eq_getElem?_getD, List.getElem?_eq_getElem h]; rfl
theorem lawEmitCat_a (b c : Str) : ACall En 4 [.sl false (byR b), .sl false (byR c)] [] [.b true] [] := by
  have DA := DrawEmitSegs_a b
  have DB := DrawEmitSegs_a c
  obtain ⟨la, sa⟩ := d6_p (b.take 2000) (p := 0) (by decide) (by decide)
  obtain ⟨lb, sb⟩ := d6_p (c.take 2000) (p := 0) (by decide) (by decide)
  generalize (d6 (b.take 2000) 0).1 = l at *
  generalize (d6 (c.take 2000) 0).1 = m at *
  have sc : allS (l ++ m) = true := by simp only [allS, List.all_append, Bool.and_eq_true] at sa sb ⊢; exact ⟨sa, sb⟩
  have lc : (l ++ m).length ≤ 40 := by simp; omega
  have g1 := sgP_le l
  have g2 := sgP_le m
  have g3 := sgP_le (l ++ m)
  have hB := (sgP_pw m).2
  have hE : pok l = true → pok m = true → pok (l ++ m) = true → sgP (l ++ m) = sgP l ++ (sgP m).map (sgSh l.length) ∧ emText (l ++ m) = emText l ++ 10 :: emText m := fun h1 h2 h3 => ⟨sgP_cat h1 h2 h3, emText_cat h1 h2 h3⟩
  refine acall_of_body (fn := Tryz.f4) [] Tryz.func4 rfl rfl (by simp) fun C => ?_
  rw [entry_eq]
  simp only [Tryz.ntmps4, List.length_cons, List.length_nil, Nat.reduceAdd, Nat.reduceSub, List.replicate_succ, List.replicate_zero, List.cons_append, List.nil_append, numL]
  refine AWp.seq ?_
  refine AWp.rgn [] (by simp only [go_sem, seval, sR_len, sR_pure, sgR_len, sgR_pure]; rfl) ?_ ?_
  · (first | trivial | (simp; done))
  refine AWp.seq ?_
  refine AWp.seq ?_
  refine AWp.rgn [] (by simp only [go_sem, seval, sR_len, sR_pure, sgR_len, sgR_pure]; rfl) ?_ ?_
  · (first | trivial | (simp; done))
  refine AWp.condB (by simp only [go_sem, seval, sR_len, sR_pure, sgR_len, sgR_pure]; rfl) (by simp only [go_sem, seval, sR_len, sR_pure, sgR_len, sgR_pure]) (fun h19 => ?_) (fun h19 => ?_)
  · refine AWp.seq ?_
    refine AWp.rgn [] (by simp only [go_sem, seval, sR_len, sR_pure, sgR_len, sgR_pure]; rfl) ?_ ?_
    · (first | trivial | (simp; done))
    refine AWp.ret (And.intro (.inr rfl) ?_)
    exact Out.plain (by simp only [Tryz.results4]; rfl) (by simp only [resCs, resC, go_sem, seval, sR_len, sR_pure, sgR_len, sgR_pure] <;> (split <;> rfl)) (by simp only [resV, go_sem, seval, sR_len, sR_pure, sgR_len, sgR_pure] <;> (simp)) (by simp only [go_sem, seval, sR_len, sR_pure, sgR_len, sgR_pure])
  · refine AWp.skip ?_
    refine AWp.seq ?_
    refine AWp.rgn [call0 DA] (by simp only [go_sem, seval, sR_len, sR_pure, sgR_len, sgR_pure]; rfl) ?_ ?_
    · (first | trivial | (simp; done))
    refine AWp.seq ?_
    refine AWp.rgn [call0 DB] (by simp only [go_sem, seval, sR_len, sR_pure, sgR_len, sgR_pure]; rfl) ?_ ?_
    · (first | trivial | (simp; done))
    refine AWp.seq ?_
    refine AWp.rgn [call0 (iEmitSegs_a l sa (by omega))] (by simp only [go_sem, seval, sR_len, sR_pure, sgR_len, sgR_pure]; rfl) ?_ ?_
    · (first | trivial | (simp; done))
    refine AWp.seqJ (fun u : Unit => ⟨[.no, .no, .no, .no, .no, .sl false (sR l), .sl false (sR m), .sl false (sgR (sgP l)), .sl false (sR (l ++ m)), .no, .no, .no, .no, .no, .no, .no, .no, .no, .no, .no, .no, .no, .no, .no, .no, .no, .no, .no, .no, .no, .no, .no, .no, .no, .no, .no, .no, .no, .no, .no, .no, .no, .no, .no, .no, .no, .no, .no, .no, .no, .no, .no, .no, .no, .no, .no, .no, .no, .no, .no, .no, .no, .no, .no, .no, .no, .no, .no, .no, .no, .no, .no, .no, .no, .no, .no, .no, .no, .no, .no, .no, .no, .no, .no, .no, .no, .no, .no, .no, .no, .no, .no, .no, .no, .no, .no, .no, .no, .no, .no, .no, .no, .no, .no, .no, .no, .no, .no, .no, .no, .no, .no, .no, .no, .no, .no, .no], memOf [], us []⟩) (fun u : Unit => True) ?_ (fun u hJ => ?_)
    · refine AWp.rgn [] (by simp only [go_sem, seval, sR_len, sR_pure, sgR_len, sgR_pure]; rfl) ?_ ?_
      · exact ⟨⟨of_eq_true (sR_rows _), by simp, by omega⟩, of_eq_true (sR_rows _), by simp, by omega⟩
      refine Exists.intro (()) ⟨?_, ?_⟩
      · trivial
      refine Can.trans (Can.frz 40 (by simp only [go_sem, seval, sR_len, sR_pure, sgR_len, sgR_pure] <;> rfl) (by simp only [go_sem, seval, sR_len, sR_pure, sgR_len, sgR_pure]) (by simp only [go_sem, seval, sR_len, sR_pure, sgR_len, sgR_pure] <;> rfl) (by simp only [go_sem, seval, sR_len, sR_pure, sgR_len, sgR_pure] <;> rfl)) ?_
      exact Can.weak (Weak.lit (by simp only [go_sem, seval, sR_len, sR_pure, sgR_len, sgR_pure, subM, leV, inns, innr, V.inn, us, true_or, or_true] <;> (rw [if_pos (by simp [sR_len]), sR_app, List.take_of_length_le (by simp [sR_len])]; exact leV_refl _)) (by simp only [go_sem, seval, sR_len, sR_pure, sgR_len, sgR_pure, subM, leV, inns, innr, V.inn, us, true_or, or_true]) (by simp only [go_sem, seval, sR_len, sR_pure, sgR_len, sgR_pure, subM, leV, inns, innr, V.inn, us, true_or, or_true]))
    refine AWp.seq ?_
    refine AWp.seq ?_
    refine AWp.rgn [call0 (sEmitSegs_a l sa (by omega)), call0 (segsSame_a (sgP l) (sgP l) (by omega) (by omega)), call0 (sProgOk_a l sa (by omega)), call0 (sProgOk_a m sb (by omega)), call0 (sProgOk_a (l ++ m) sc (by omega))] (by simp only [go_sem, seval, sR_len, sR_pure, sgR_len, sgR_pure]; rfl) ?_ ?_
    · (first | trivial | (simp; done))
    refine AWp.condB (by simp only [go_sem, seval, sR_len, sR_pure, sgR_len, sgR_pure]; rfl) (by simp only [go_sem, seval, sR_len, sR_pure, sgR_len, sgR_pure]) (fun h50 => ?_) (fun h50 => ?_)
    · refine AWp.seq ?_
      refine AWp.rgn [call0 (sEmitSegs_a l sa (by omega)), call0 (segsSame_a (sgP l) (sgP l) (by omega) (by omega))] (by simp only [go_sem, seval, sR_len, sR_pure, sgR_len, sgR_pure]; rfl) ?_ ?_
      · (first | trivial | (simp; done))
      refine AWp.ret (And.intro (.inr rfl) ?_)
      exact Out.plain (by simp only [Tryz.results4]; rfl) (by simp only [resCs, resC, go_sem, seval, sR_len, sR_pure, sgR_len, sgR_pure] <;> (split <;> rfl)) (by simp only [resV, go_sem, seval, sR_len, sR_pure, sgR_len, sgR_pure] <;> (simp)) (by simp only [go_sem, seval, sR_len, sR_pure, sgR_len, sgR_pure])
    · refine AWp.skip ?_
      refine AWp.seq ?_
      refine AWp.rgn [call0 (iEmitSegs_a m sb (by omega))] (by simp only [go_sem, seval, sR_len, sR_pure, sgR_len, sgR_pure]; rfl) ?_ ?_
      · (first | trivial | (simp; done))
      refine AWp.seq ?_
      refine AWp.rgn [] (by simp only [go_sem, seval, sR_len, sR_pure, sgR_len, sgR_pure]; rfl) ?_ ?_
      · exact ⟨of_eq_true (sgR_rows _), by simp, by omega⟩
      refine AWp.seq ?_
      refine AWp.seq ?_
      refine AWp.rgn [] (by simp only [go_sem, seval, sR_len, sR_pure, sgR_len, sgR_pure]; rfl) ?_ ?_
      · (first | trivial | (simp; done))
      refine AWp.block ?_
      refine AWp.loopK (fun j : Nat => ⟨[.no, .no, .no, .no, .no, .sl false (sR l), .sl false (sR m), .no, .sl false (sR (l ++ m)), .sl false (sgR (sgP m)), .ow 60 4 0 ((sgP l).length + j), .i .i64 j, .no, .no, .no, .no, .no, .no, .no, .no, .no, .no, .no, .no, .no, .no, .no, .no, .no, .no, .no, .no, .no, .no, .no, .no, .no, .no, .no, .no, .no, .no, .no, .no, .no, .no, .no, .no, .no, .no, .no, .no, .no, .no, .no, .no, .no, .no, .no, .no, .no, .no, .no, .no, .no, .no, .no, .no, .no, .no, .no, .no, .no, .no, .no, .no, .no, .no, .no, .no, .no, .no, .no, .no, .no, .no, .no, .no, .no, .no, .no, .no, .no, .no, .no, .no, .no, .no, .no, .no, .no, .no, .no, .no, .no, .no, .no, .no, .no, .no, .no, .no, .no, .no, .no, .no, .no], memOf [(60, ⟨47, 4, sgR (sgP l ++ ((sgP m).take j).map (sgSh l.length))⟩)], us [60]⟩) (fun j : Nat => j ≤ (sgP m).length ∧ pok l = true ∧ pok m = true ∧ pok (l ++ m) = true) (fun j : Nat => (sgP m).length - j) (0) ?_ ?_ (fun j hI => ?_)
      · simp only [Bool.or_eq_false_iff, Bool.not_eq_false'] at h50; exact ⟨Nat.zero_le _, h50.1.1, h50.1.2, h50.2⟩
      · refine Can.trans (Can.swap 69 60 (by decide) (by decide) (by decide) (by decide) (by simp only [go_sem, seval, sR_len, sR_pure, sgR_len, sgR_pure, V.cl]) (by simp only [go_sem, seval, sR_len, sR_pure, sgR_len, sgR_pure, V.cl]) (by simp only [go_sem, seval, sR_len, sR_pure, sgR_len, sgR_pure, swL_get, sw, swM, rnB] <;> rfl) (by simp only [go_sem, seval, sR_len, sR_pure, sgR_len, sgR_pure, swL_get, sw, swM, rnB] <;> rfl) (by simp only [go_sem, seval, sR_len, sR_pure, sgR_len, sgR_pure, swL_get, sw, swM, rnB] <;> rfl)) ?_
        exact Can.weak (Weak.lit (by simp only [go_sem, seval, sR_len, sR_pure, sgR_len, sgR_pure, subM, leV, inns, innr, V.inn, us, true_or, or_true] <;> ((try simp))) (by simp only [go_sem, seval, sR_len, sR_pure, sgR_len, sgR_pure, subM, leV, inns, innr, V.inn, us, true_or, or_true]) (by simp only [go_sem, seval, sR_len, sR_pure, sgR_len, sgR_pure, subM, leV, inns, innr, V.inn, us, true_or, or_true] <;> ((try simp))))
      refine AWp.seq ?_
      refine AWp.seq ?_
      refine AWp.rgn [] (by simp only [go_sem, seval, sR_len, sR_pure, sgR_len, sgR_pure]; rfl) ?_ ?_
      · (first | trivial | (simp; done))
      refine AWp.condB (by simp only [go_sem, seval, sR_len, sR_pure, sgR_len, sgR_pure]; rfl) (by simp only [go_sem, seval, sR_len, sR_pure, sgR_len, sgR_pure]) (fun h63 => ?_) (fun h63 => ?_)
      · refine AWp.skip ?_
        refine AWp.seq ?_
        refine AWp.block ?_
        refine AWp.rgnD [] enM (by simp only [go_sem, seval, sR_len, sR_pure, sgR_len, sgR_pure, sgR_at (show j < (sgP m).length by simpa using h63)]; rfl) (by rfl) ?_ ?_
        · simp only [decide_eq_true_eq] at h63; simp [fsOk]; omega
        refine AWp.rgn [] (by simp only [go_sem, seval, sR_len, sR_pure, sgR_len, sgR_pure]; rfl) ?_ ?_
        · (first | trivial | (simp; done))
        refine Exists.intro (j + 1) ⟨?_, ?_, ?_⟩
        · simp only [decide_eq_true_eq] at h63; exact ⟨by omega, hI.2⟩
        · simp only [decide_eq_true_eq] at h63; omega
        refine Can.trans (Can.swap 111 60 (by decide) (by decide) (by decide) (by decide) (by simp only [go_sem, seval, sR_len, sR_pure, sgR_len, sgR_pure, V.cl]) (by simp only [go_sem, seval, sR_len, sR_pure, sgR_len, sgR_pure, V.cl]) (by simp only [go_sem, seval, sR_len, sR_pure, sgR_len, sgR_pure, swL_get, sw, swM, rnB] <;> rfl) (by simp only [go_sem, seval, sR_len, sR_pure, sgR_len, sgR_pure, swL_get, sw, swM, rnB] <;> rfl) (by simp only [go_sem, seval, sR_len, sR_pure, sgR_len, sgR_pure, swL_get, sw, swM, rnB] <;> rfl)) ?_
        exact Can.weak (Weak.lit (by simp only [go_sem, seval, sR_len, sR_pure, sgR_len, sgR_pure, subM, leV, inns, innr, V.inn, us, true_or, or_true] <;> ((simp only [decide_eq_true_eq] at h63); rw [wrap64 (by omega) (by omega)]; exact ⟨by omega, rfl⟩)) (by simp only [go_sem, seval, sR_len, sR_pure, sgR_len, sgR_pure, subM, leV, inns, innr, V.inn, us, true_or, or_true]) (by simp only [go_sem, seval, sR_len, sR_pure, sgR_len, sgR_pure, subM, leV, inns, innr, V.inn, us, true_or, or_true] <;> ((have hj : j < (sgP m).length := (by simpa using h63)); (have q := hB _ (getD_mem (d := G0) hj)); (unfold sgB at q); rw [wrap64 (n := ((sgP m).getD j G0).1 + l.length) (by omega) (by omega), wrap64 (n := ((sgP m).getD j G0).2.2.1 + l.length) (by omega) (by omega), sgR_app, sgR_app, sgSh_take hj, List.append_assoc])))
      · refine AWp.exit ?_
        refine AWp.seq ?_
        refine AWp.rgn [call0 (iEmitSegs_a (l ++ m) sc (by omega)), callB (segsSame_a (sgP (l ++ m)) (sgP l ++ ((sgP m).take j).map (sgSh l.length)) (by omega) (by simp; omega)), call0 (iEmitText_a (l ++ m) sc (by omega)), call0 (iEmitText_a l sa (by omega)), call0 (iEmitText_a m sb (by omega))] (by simp only [go_sem, seval, sR_len, sR_pure, sgR_len, sgR_pure]; rfl) ?_ ?_
        · have e1 := emText_le l; have e2 := emText_le m; refine ⟨⟨?_, fun h => ⟨h, by omega⟩⟩, fun h => ⟨h, by simp; omega⟩⟩; simp only [decide_eq_false_iff_not] at h63; (obtain rfl : j = (sgP m).length := (by omega)); rw [if_pos (by simp), List.take_of_length_le (by simp [sgR_len])]; exact leV_refl _
        refine AWp.ret (And.intro (.inr rfl) ?_)
        exact Out.plain (by simp only [Tryz.results4]; rfl) (by simp only [resCs, resC, go_sem, seval, sR_len, sR_pure, sgR_len, sgR_pure] <;> (split <;> rfl)) (by simp only [resV, go_sem, seval, sR_len, sR_pure, sgR_len, sgR_pure] <;> (simp only [decide_eq_false_iff_not] at h63; (obtain rfl : j = (sgP m).length := (by omega)); (have q := hE hI.2.1 hI.2.2.1 hI.2.2.2); rw [q.1, q.2, List.take_of_length_le (Nat.le_refl _)]; simp)) (by simp only [go_sem, seval, sR_len, sR_pure, sgR_len, sgR_pure])
end Go.Proofs.YteihfmnmpdbkiaaGreatDoor
