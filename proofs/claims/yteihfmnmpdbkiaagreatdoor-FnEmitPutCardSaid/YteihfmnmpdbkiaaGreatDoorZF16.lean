/- The law FnEmitPut: what it answers. Conditions: none. -/
import Derived.Test.YteihfmnmpdbkiaaGreatDoorZF15
set_option linter.unusedVariables false
set_option linter.unusedSimpArgs false
namespace Go.Proofs.YteihfmnmpdbkiaaGreatDoor
set_option maxRecDepth 100000
set_option maxHeartbeats 8000000

theorem drop_cons {α : Type} {d : α} {X : List α} {n : Nat} (h : n < X.length) : X.drop n = X.getD n d :: X.drop (n + 1) := by
  rw [List.drop_eq_getElem_cons h, List.getD_eq_getElem?_getD, List.getElem?_eq_getElem h]; rfl
theorem skip_f {α : Type} {d : α} {p : α → Bool} {X : List α} {n : Nat} (h : n < X.length) (hp : p (X.getD n d) = false) : (X.drop (n + 1)).filter p = (X.drop n).filter p := by
  rw [drop_cons (d := d) h, List.filter_cons_of_neg (by rw [hp]; decide)]
theorem cons_f {α : Type} {d : α} {p : α → Bool} {X : List α} {n : Nat} (h : n < X.length) (hp : p (X.getD n d) = true) : (X.drop n).filter p = X.getD n d :: (X.drop (n + 1)).filter p := by
  rw [drop_cons (d := d) h, List.filter_cons_of_pos hp]
theorem put_go {X Y : List Sg} {k : Int} {n i : Nat} (he : (X.drop n).filter (notL k) = (Y.drop i).filter (notL k)) (hi : i < Y.length) (hk : ¬ (Y.getD i G0).1 = k) (hx : ¬ (n < X.length ∧ (X.getD n G0).1 = k)) :
    n < X.length ∧ X.getD n G0 = Y.getD i G0 ∧ (X.drop (n + 1)).filter (notL k) = (Y.drop (i + 1)).filter (notL k) := by
  have e1 := cons_f (d := G0) (p := notL k) hi (by simp only [notL, Bool.not_eq_true', decide_eq_false_iff_not]; exact hk)
  rw [e1] at he
  have hn : n < X.length := by
    rcases Nat.lt_or_ge n X.length with q | q
    · exact q
    · rw [List.drop_of_length_le q] at he; cases he
  have e2 := cons_f (d := G0) (p := notL k) hn (by simp only [notL, Bool.not_eq_true', decide_eq_false_iff_not]; exact fun e => hx ⟨hn, e⟩)
  rw [e2] at he
  simp only [List.cons.injEq] at he
  exact ⟨hn, he.1, he.2⟩
theorem put_end {X : List Sg} {k : Int} {n : Nat} (he : (X.drop n).filter (notL k) = []) (hn : n ≤ X.length) (hx : ¬ (n < X.length ∧ (X.getD n G0).1 = k)) : n = X.length := by
  rcases Nat.lt_or_ge n X.length with q | q
  · have e2 := cons_f (d := G0) (p := notL k) q (by simp only [notL, Bool.not_eq_true', decide_eq_false_iff_not]; exact fun e => hx ⟨q, e⟩)
    rw [e2] at he; cases he
  · omega
theorem sR_set (l : List Sl) (k : Nat) (s : Sl) : (sR l).set k (sC s) = sR (l.set k s) := by unfold sR; rw [List.map_set]
theorem tmod_nat (a b : Nat) : ((a : Int).tmod (b : Int)) = ((a % b : Nat) : Int) := by
  rw [Int.tmod_eq_emod_of_nonneg (by omega)]; rfl
theorem line_iff {n : Nat} {L : Nat} {a b : Int} : (decide ((n : Int) < (L : Int)) && (a == b)) = true ↔ (n < L ∧ a = b) := by
  simp only [Bool.and_eq_true, decide_eq_true_eq, beq_iff_eq]; omega
theorem lawEmitPut_a (b c : Str) : ACall En 5 [.sl false (byR b), .sl false (byR c)] [] [.b true] [] := by
  have DA := DrawEmitText_a b
  have DB := DrawEmitLine_a c
  obtain ⟨la, sa⟩ := d6_p (b.take 2000) (p := 0) (by decide) (by decide)
  have sb := (dl5_p (c.take 2000) (p := 0) (by decide) (by decide)).2.2
  generalize (d6 (b.take 2000) 0).1 = l at *
  generalize (dl5 (c.take 2000) 0).1 = s at *
  have hK : pok l = true → c.length % l.length < l.length := fun h => Nat.mod_lt _ (by have := (pok_open h).1; omega)
  have hm := tmod_nat c.length l.length
  generalize c.length % l.length = kk at *
  have sc : allS (l.set kk s) = true := List.all_eq_true.2 fun x hx => by
    rcases List.mem_or_eq_of_mem_set hx with q | rfl
    · exact List.all_eq_true.1 sa x q
    · exact sb
  have lc : (l.set kk s).length = l.length := List.length_set
  have hP : pok l = true → sok s = true → pok (l.set kk s) = true := fun h1 h2 => pok_put h1 h2
  have hT : pok l = true → tLines (emText l) = l.map emT := fun h => tLines_emText h
  have hT2 : pok l = true ∧ sok s = true → tLines (emText (l.set kk s)) = (l.set kk s).map emT := fun h => tLines_emText (hP h.1 h.2)
  have hF : pok l = true → sok s = true → (sgP (l.set kk s)).filter (notL kk) = (sgP l).filter (notL kk) := fun h1 h2 => sgP_put h1 h2 (hK h1)
  have e1 := emText_le l
  have e2 := emText_le (l.set kk s)
  have g1 := sgP_le l
  have g2 := sgP_le (l.set kk s)
  have hg : ∀ i, i < l.length → ¬ i = kk → ((l.set kk s).map emT).getD i [] = (l.map emT).getD i [] := fun i hi h => by
    simp [List.getD_eq_getElem?_getD, List.getElem?_set_ne (show kk ≠ i from fun e => h e.symm)]
  have hdrop : List.drop 11 ((sR l).getD kk []) = [] := by
    rcases Nat.lt_or_ge kk l.length with q | q
    · rw [sR_get q, sC_eq]; rfl
    · rw [List.getD_eq_getElem?_getD, List.getElem?_eq_none (by rw [sR_len]; exact q)]; rfl
  have hfold : (sR l).set kk [V.i .i64 s.kind, V.s s.name, V.s s.type, V.i .i64 s.expr.kind, V.i .i64 s.expr.n, V.s s.expr.s, V.sl false (eR s.expr.kids), V.i .i64 s.thn.kind, V.i .i64 s.thn.n, V.s s.thn.s, V.sl false (eR s.thn.kids)] = sR (l.set kk s) := by rw [← sC_eq, sR_set]
  refine acall_of_body (fn := Tryz.f5) [] Tryz.func5 rfl rfl (by simp) fun C => ?_
  rw [entry_eq]
  simp only [Tryz.ntmps5, List.length_cons, List.length_nil, Nat.reduceAdd, Nat.reduceSub, List.replicate_succ, List.replicate_zero, List.cons_append, List.nil_append, numL]
  refine AWp.seq ?_
  refine AWp.rgn [] (by simp only [go_sem, seval, sR_len, sR_pure, sC_eq, hdrop, hfold, strR_len, strR_pure, sgR_len, sgR_pure, asO, cmpO, cmpB, intAg, intA, List.length_map, lc]; rfl) ?_ ?_
  · (first | trivial | (simp; done) | (simp only [Bool.or_eq_false_iff, Bool.not_eq_false'] at h44; have hk := hK h44.1; have hp := pok_open h44.1; first | omega | exact ⟨of_eq_true (sR_rows _), by simp, by omega⟩ | exact ⟨⟨by omega, by omega⟩, hk⟩ | exact h44.1 | exact h44))
  refine AWp.seq ?_
  refine AWp.seq ?_
  refine AWp.rgn [] (by simp only [go_sem, seval, sR_len, sR_pure, sC_eq, hdrop, hfold, strR_len, strR_pure, sgR_len, sgR_pure, asO, cmpO, cmpB, intAg, intA, List.length_map, lc]; rfl) ?_ ?_
  · (first | trivial | (simp; done) | (simp only [Bool.or_eq_false_iff, Bool.not_eq_false'] at h44; have hk := hK h44.1; have hp := pok_open h44.1; first | omega | exact ⟨of_eq_true (sR_rows _), by simp, by omega⟩ | exact ⟨⟨by omega, by omega⟩, hk⟩ | exact h44.1 | exact h44))
  refine AWp.condB (by simp only [go_sem, seval, sR_len, sR_pure, sC_eq, hdrop, hfold, strR_len, strR_pure, sgR_len, sgR_pure, asO, cmpO, cmpB, intAg, intA, List.length_map, lc]; rfl) (by simp only [go_sem, seval, sR_len, sR_pure, sC_eq, hdrop, hfold, strR_len, strR_pure, sgR_len, sgR_pure, asO, cmpO, cmpB, intAg, intA, List.length_map, lc]) (fun h24 => ?_) (fun h24 => ?_)
  · refine AWp.seq ?_
    refine AWp.rgn [] (by simp only [go_sem, seval, sR_len, sR_pure, sC_eq, hdrop, hfold, strR_len, strR_pure, sgR_len, sgR_pure, asO, cmpO, cmpB, intAg, intA, List.length_map, lc]; rfl) ?_ ?_
    · (first | trivial | (simp; done) | (simp only [Bool.or_eq_false_iff, Bool.not_eq_false'] at h44; have hk := hK h44.1; have hp := pok_open h44.1; first | omega | exact ⟨of_eq_true (sR_rows _), by simp, by omega⟩ | exact ⟨⟨by omega, by omega⟩, hk⟩ | exact h44.1 | exact h44))
    refine AWp.ret (And.intro (.inr rfl) ?_)
    exact Out.plain (by simp only [Tryz.results5]; rfl) (by simp only [resCs, resC, go_sem, seval, sR_len, sR_pure, sC_eq, hdrop, hfold, strR_len, strR_pure, sgR_len, sgR_pure, asO, cmpO, cmpB, intAg, intA, List.length_map, lc] <;> (split <;> rfl)) (by simp only [resV, go_sem, seval, sR_len, sR_pure, sC_eq, hdrop, hfold, strR_len, strR_pure, sgR_len, sgR_pure, asO, cmpO, cmpB, intAg, intA, List.length_map, lc] <;> (simp)) (by simp only [go_sem, seval, sR_len, sR_pure, sC_eq, hdrop, hfold, strR_len, strR_pure, sgR_len, sgR_pure, asO, cmpO, cmpB, intAg, intA, List.length_map, lc])
  · refine AWp.skip ?_
    refine AWp.seq ?_
    refine AWp.rgn [call0 DA] (by simp only [go_sem, seval, sR_len, sR_pure, sC_eq, hdrop, hfold, strR_len, strR_pure, sgR_len, sgR_pure, asO, cmpO, cmpB, intAg, intA, List.length_map, lc]; rfl) ?_ ?_
    · (first | trivial | (simp; done) | (simp only [Bool.or_eq_false_iff, Bool.not_eq_false'] at h44; have hk := hK h44.1; have hp := pok_open h44.1; first | omega | exact ⟨of_eq_true (sR_rows _), by simp, by omega⟩ | exact ⟨⟨by omega, by omega⟩, hk⟩ | exact h44.1 | exact h44))
    refine AWp.seq ?_
    refine AWp.rgn [call0 DB] (by simp only [go_sem, seval, sR_len, sR_pure, sC_eq, hdrop, hfold, strR_len, strR_pure, sgR_len, sgR_pure, asO, cmpO, cmpB, intAg, intA, List.length_map, lc]; rfl) ?_ ?_
    · (first | trivial | (simp; done) | (simp only [Bool.or_eq_false_iff, Bool.not_eq_false'] at h44; have hk := hK h44.1; have hp := pok_open h44.1; first | omega | exact ⟨of_eq_true (sR_rows _), by simp, by omega⟩ | exact ⟨⟨by omega, by omega⟩, hk⟩ | exact h44.1 | exact h44))
    refine AWp.seq ?_
    refine AWp.rgn [call0 (iEmitText_a l sa (by omega))] (by simp only [go_sem, seval, sR_len, sR_pure, sC_eq, hdrop, hfold, strR_len, strR_pure, sgR_len, sgR_pure, asO, cmpO, cmpB, intAg, intA, List.length_map, lc]; rfl) ?_ ?_
    · (first | trivial | (simp; done) | (simp only [Bool.or_eq_false_iff, Bool.not_eq_false'] at h44; have hk := hK h44.1; have hp := pok_open h44.1; first | omega | exact ⟨of_eq_true (sR_rows _), by simp, by omega⟩ | exact ⟨⟨by omega, by omega⟩, hk⟩ | exact h44.1 | exact h44))
    refine AWp.seq ?_
    refine AWp.seq ?_
    refine AWp.rgn [call0 (sEmitText_a l sa (by omega)), call0 (sProgOk_a l sa (by omega)), call0 (sStmtOk_a s sb)] (by simp only [go_sem, seval, sR_len, sR_pure, sC_eq, hdrop, hfold, strR_len, strR_pure, sgR_len, sgR_pure, asO, cmpO, cmpB, intAg, intA, List.length_map, lc]; rfl) ?_ ?_
    · (first | trivial | (simp; done) | (simp only [Bool.or_eq_false_iff, Bool.not_eq_false'] at h44; have hk := hK h44.1; have hp := pok_open h44.1; first | omega | exact ⟨of_eq_true (sR_rows _), by simp, by omega⟩ | exact ⟨⟨by omega, by omega⟩, hk⟩ | exact h44.1 | exact h44))
    refine AWp.condB (by simp only [go_sem, seval, sR_len, sR_pure, sC_eq, hdrop, hfold, strR_len, strR_pure, sgR_len, sgR_pure, asO, cmpO, cmpB, intAg, intA, List.length_map, lc]; rfl) (by simp only [go_sem, seval, sR_len, sR_pure, sC_eq, hdrop, hfold, strR_len, strR_pure, sgR_len, sgR_pure, asO, cmpO, cmpB, intAg, intA, List.length_map, lc]) (fun h44 => ?_) (fun h44 => ?_)
    · refine AWp.seq ?_
      refine AWp.rgn [call0 (sEmitText_a l sa (by omega))] (by simp only [go_sem, seval, sR_len, sR_pure, sC_eq, hdrop, hfold, strR_len, strR_pure, sgR_len, sgR_pure, asO, cmpO, cmpB, intAg, intA, List.length_map, lc]; rfl) ?_ ?_
      · (first | trivial | (simp; done) | (simp only [Bool.or_eq_false_iff, Bool.not_eq_false'] at h44; have hk := hK h44.1; have hp := pok_open h44.1; first | omega | exact ⟨of_eq_true (sR_rows _), by simp, by omega⟩ | exact ⟨⟨by omega, by omega⟩, hk⟩ | exact h44.1 | exact h44))
      refine AWp.ret (And.intro (.inr rfl) ?_)
      exact Out.plain (by simp only [Tryz.results5]; rfl) (by simp only [resCs, resC, go_sem, seval, sR_len, sR_pure, sC_eq, hdrop, hfold, strR_len, strR_pure, sgR_len, sgR_pure, asO, cmpO, cmpB, intAg, intA, List.length_map, lc] <;> (split <;> rfl)) (by simp only [resV, go_sem, seval, sR_len, sR_pure, sC_eq, hdrop, hfold, strR_len, strR_pure, sgR_len, sgR_pure, asO, cmpO, cmpB, intAg, intA, List.length_map, lc] <;> (simp)) (by simp only [go_sem, seval, sR_len, sR_pure, sC_eq, hdrop, hfold, strR_len, strR_pure, sgR_len, sgR_pure, asO, cmpO, cmpB, intAg, intA, List.length_map, lc])
    · refine AWp.skip ?_
      refine AWp.seq ?_
      refine AWp.rgn [] (by simp only [go_sem, seval, sR_len, sR_pure, sC_eq, hdrop, hfold, strR_len, strR_pure, sgR_len, sgR_pure, asO, cmpO, cmpB, intAg, intA, List.length_map, lc, hm]; rfl) ?_ ?_
      · (first | trivial | (simp; done) | (simp only [Bool.or_eq_false_iff, Bool.not_eq_false'] at h44; have hk := hK h44.1; have hp := pok_open h44.1; first | omega | exact ⟨of_eq_true (sR_rows _), by simp, by omega⟩ | exact ⟨⟨by omega, by omega⟩, hk⟩ | exact h44.1 | exact h44))
      refine AWp.seq ?_
      refine AWp.rgn [] (by simp only [go_sem, seval, sR_len, sR_pure, sC_eq, hdrop, hfold, strR_len, strR_pure, sgR_len, sgR_pure, asO, cmpO, cmpB, intAg, intA, List.length_map, lc]; rfl) ?_ ?_
      · (first | trivial | (simp; done) | (simp only [Bool.or_eq_false_iff, Bool.not_eq_false'] at h44; have hk := hK h44.1; have hp := pok_open h44.1; first | omega | exact ⟨of_eq_true (sR_rows _), by simp, by omega⟩ | exact ⟨⟨by omega, by omega⟩, hk⟩ | exact h44.1 | exact h44))
      refine AWp.seqJ (fun u : Unit => ⟨[.no, .no, .no, .no, .no, .sl false (sR l), .no, .s (emText l), .i .i64 kk, .sl false (sR (l.set kk s)), .no, .no, .no, .no, .no, .no, .no, .no, .no, .no, .no, .no, .no, .no, .no, .no, .no, .no, .no, .no, .no, .no, .no, .no, .no, .no, .no, .no, .no, .no, .no, .no, .no, .no, .no, .no, .no, .no, .no, .no, .no, .no, .no, .no, .no, .no, .no, .no, .no, .no, .no, .no, .no, .no, .no, .no, .no, .no, .no, .no, .no, .no, .no, .no, .no, .no, .no, .no, .no, .no, .no, .no, .no, .no, .no, .no, .no, .no, .no, .no, .no, .no, .no, .no, .no, .no, .no, .no, .no, .no, .no, .no, .no, .no, .no, .no, .no, .no, .no, .no, .no, .no, .no, .no, .no, .no, .no, .no, .no, .no, .no, .no, .no, .no, .no, .no, .no, .no, .no, .no, .no, .no, .no, .no, .no, .no, .no, .no, .no, .no, .no, .no, .no, .no, .no, .no, .no, .no, .no, .no, .no, .no, .no, .no, .no, .no, .no, .no, .no, .no, .no, .no], memOf [], us []⟩) (fun u : Unit => pok l = true ∧ sok s = true ∧ kk < l.length) ?_ (fun u hJ => ?_)
      · refine AWp.rgn [] (by simp only [go_sem, seval, sR_len, sR_pure, sC_eq, hdrop, hfold, strR_len, strR_pure, sgR_len, sgR_pure, asO, cmpO, cmpB, intAg, intA, List.length_map, lc]; rfl) ?_ ?_
        · (first | trivial | (simp; done) | (simp only [Bool.or_eq_false_iff, Bool.not_eq_false'] at h44; have hk := hK h44.1; have hp := pok_open h44.1; first | omega | exact ⟨of_eq_true (sR_rows _), by simp, by omega⟩ | exact ⟨⟨by omega, by omega⟩, hk⟩ | exact h44.1 | exact h44))
        refine Exists.intro (()) ⟨?_, ?_⟩
        · simp only [Bool.or_eq_false_iff, Bool.not_eq_false'] at h44; exact ⟨h44.1, h44.2, hK h44.1⟩
        refine Can.trans (Can.frz 66 (by simp only [go_sem, seval, sR_len, sR_pure, sC_eq, hdrop, hfold, strR_len, strR_pure, sgR_len, sgR_pure, asO, cmpO, cmpB, intAg, intA, List.length_map, lc] <;> rfl) (by simp only [go_sem, seval, sR_len, sR_pure, sC_eq, hdrop, hfold, strR_len, strR_pure, sgR_len, sgR_pure, asO, cmpO, cmpB, intAg, intA, List.length_map, lc]) (by simp only [go_sem, seval, sR_len, sR_pure, sC_eq, hdrop, hfold, strR_len, strR_pure, sgR_len, sgR_pure, asO, cmpO, cmpB, intAg, intA, List.length_map, lc] <;> rfl) (by simp only [go_sem, seval, sR_len, sR_pure, sC_eq, hdrop, hfold, strR_len, strR_pure, sgR_len, sgR_pure, asO, cmpO, cmpB, intAg, intA, List.length_map, lc] <;> rfl)) ?_
        exact Can.weak (Weak.lit (by simp only [go_sem, seval, sR_len, sR_pure, sC_eq, hdrop, hfold, strR_len, strR_pure, sgR_len, sgR_pure, asO, cmpO, cmpB, intAg, intA, List.length_map, lc, subM, leV, inns, innr, V.inn, us, true_or, or_true] <;> (rw [List.take_of_length_le (by rw [sR_len, lc]; exact Nat.le_refl _)]; exact ler_refl _)) (by simp only [go_sem, seval, sR_len, sR_pure, sC_eq, hdrop, hfold, strR_len, strR_pure, sgR_len, sgR_pure, asO, cmpO, cmpB, intAg, intA, List.length_map, lc, subM, leV, inns, innr, V.inn, us, true_or, or_true]) (by simp only [go_sem, seval, sR_len, sR_pure, sC_eq, hdrop, hfold, strR_len, strR_pure, sgR_len, sgR_pure, asO, cmpO, cmpB, intAg, intA, List.length_map, lc, subM, leV, inns, innr, V.inn, us, true_or, or_true]))
      refine AWp.seq ?_
      refine AWp.rgn [callI (pok l = true) (fun h => hT h ▸ iTextLines_a (emText l) (by omega))] (by simp only [go_sem, seval, sR_len, sR_pure, sC_eq, hdrop, hfold, strR_len, strR_pure, sgR_len, sgR_pure, asO, cmpO, cmpB, intAg, intA, List.length_map, lc]; rfl) ?_ ?_
      · (first | trivial | (simp; done) | (simp only [Bool.or_eq_false_iff, Bool.not_eq_false'] at h44; have hk := hK h44.1; have hp := pok_open h44.1; first | omega | exact ⟨of_eq_true (sR_rows _), by simp, by omega⟩ | exact ⟨⟨by omega, by omega⟩, hk⟩ | exact h44.1 | exact h44))
      refine AWp.seq ?_
      refine AWp.rgn [call0 (iEmitText_a (l.set kk s) sc (by omega)), callI (pok l = true ∧ sok s = true) (fun h => hT2 h ▸ iTextLines_a (emText (l.set kk s)) (by omega))] (by simp only [go_sem, seval, sR_len, sR_pure, sC_eq, hdrop, hfold, strR_len, strR_pure, sgR_len, sgR_pure, asO, cmpO, cmpB, intAg, intA, List.length_map, lc]; rfl) ?_ ?_
      · (first | trivial | (simp; done) | (simp only [Bool.or_eq_false_iff, Bool.not_eq_false'] at h44; have hk := hK h44.1; have hp := pok_open h44.1; first | omega | exact ⟨of_eq_true (sR_rows _), by simp, by omega⟩ | exact ⟨⟨by omega, by omega⟩, hk⟩ | exact h44.1 | exact h44))
      refine AWp.seq ?_
      refine AWp.seq ?_
      refine AWp.rgn [] (by simp only [go_sem, seval, sR_len, sR_pure, sC_eq, hdrop, hfold, strR_len, strR_pure, sgR_len, sgR_pure, asO, cmpO, cmpB, intAg, intA, List.length_map, lc]; rfl) ?_ ?_
      · (first | trivial | (simp; done) | (simp only [Bool.or_eq_false_iff, Bool.not_eq_false'] at h44; have hk := hK h44.1; have hp := pok_open h44.1; first | omega | exact ⟨of_eq_true (sR_rows _), by simp, by omega⟩ | exact ⟨⟨by omega, by omega⟩, hk⟩ | exact h44.1 | exact h44))
      refine AWp.condB (by simp only [go_sem, seval, sR_len, sR_pure, sC_eq, hdrop, hfold, strR_len, strR_pure, sgR_len, sgR_pure, asO, cmpO, cmpB, intAg, intA, List.length_map, lc]; rfl) (by simp only [go_sem, seval, sR_len, sR_pure, sC_eq, hdrop, hfold, strR_len, strR_pure, sgR_len, sgR_pure, asO, cmpO, cmpB, intAg, intA, List.length_map, lc]) (fun h70 => ?_) (fun h70 => ?_)
      · simp at h70
      · refine AWp.skip ?_
        refine AWp.seq ?_
        refine AWp.seq ?_
        refine AWp.rgn [] (by simp only [go_sem, seval, sR_len, sR_pure, sC_eq, hdrop, hfold, strR_len, strR_pure, sgR_len, sgR_pure, asO, cmpO, cmpB, intAg, intA, List.length_map, lc]; rfl) ?_ ?_
        · (first | trivial | (simp; done) | (simp only [Bool.or_eq_false_iff, Bool.not_eq_false'] at h44; have hk := hK h44.1; have hp := pok_open h44.1; first | omega | exact ⟨of_eq_true (sR_rows _), by simp, by omega⟩ | exact ⟨⟨by omega, by omega⟩, hk⟩ | exact h44.1 | exact h44))
        refine AWp.block ?_
        refine AWp.loopK (fun i : Nat => ⟨[.no, .no, .no, .no, .no, .sl false (sR l), .no, .no, .i .i64 kk, .sl false (sR (l.set kk s)), .sl false (strR (l.map emT)), .sl false (strR ((l.set kk s).map emT)), .i .i64 i, .no, .no, .no, .no, .no, .no, .no, .no, .no, .no, .no, .no, .no, .no, .no, .no, .no, .no, .no, .no, .no, .no, .no, .no, .no, .no, .no, .no, .no, .no, .no, .no, .no, .no, .no, .no, .no, .no, .no, .no, .no, .no, .no, .no, .no, .no, .no, .no, .no, .no, .no, .no, .no, .no, .no, .no, .no, .no, .no, .no, .no, .no, .no, .no, .no, .no, .no, .no, .no, .no, .no, .no, .no, .no, .no, .no, .no, .no, .no, .no, .no, .no, .no, .no, .no, .no, .no, .no, .no, .no, .no, .no, .no, .no, .no, .no, .no, .no, .no, .no, .no, .no, .no, .no, .no, .no, .no, .no, .no, .no, .no, .no, .no, .no, .no, .no, .no, .no, .no, .no, .no, .no, .no, .no, .no, .no, .no, .no, .no, .no, .no, .no, .no, .no, .no, .no, .no, .no, .no, .no, .no, .no, .no, .no, .no, .no, .no, .no, .no], memOf [], us []⟩) (fun i : Nat => i ≤ l.length) (fun i : Nat => l.length - i) (0) ?_ ?_ (fun i hI => ?_)
        · simp
        · exact Can.weak (Weak.lit (by simp only [go_sem, seval, sR_len, sR_pure, sC_eq, hdrop, hfold, strR_len, strR_pure, sgR_len, sgR_pure, asO, cmpO, cmpB, intAg, intA, List.length_map, lc, subM, leV, inns, innr, V.inn, us, true_or, or_true] <;> ((try simp))) (by simp only [go_sem, seval, sR_len, sR_pure, sC_eq, hdrop, hfold, strR_len, strR_pure, sgR_len, sgR_pure, asO, cmpO, cmpB, intAg, intA, List.length_map, lc, subM, leV, inns, innr, V.inn, us, true_or, or_true]) (by simp only [go_sem, seval, sR_len, sR_pure, sC_eq, hdrop, hfold, strR_len, strR_pure, sgR_len, sgR_pure, asO, cmpO, cmpB, intAg, intA, List.length_map, lc, subM, leV, inns, innr, V.inn, us, true_or, or_true]))
        refine AWp.seq ?_
        refine AWp.seq ?_
        refine AWp.rgn [] (by simp only [go_sem, seval, sR_len, sR_pure, sC_eq, hdrop, hfold, strR_len, strR_pure, sgR_len, sgR_pure, asO, cmpO, cmpB, intAg, intA, List.length_map, lc]; rfl) ?_ ?_
        · (first | trivial | (simp; done) | (simp only [Bool.or_eq_false_iff, Bool.not_eq_false'] at h44; have hk := hK h44.1; have hp := pok_open h44.1; first | omega | exact ⟨of_eq_true (sR_rows _), by simp, by omega⟩ | exact ⟨⟨by omega, by omega⟩, hk⟩ | exact h44.1 | exact h44))
        refine AWp.condB (by simp only [go_sem, seval, sR_len, sR_pure, sC_eq, hdrop, hfold, strR_len, strR_pure, sgR_len, sgR_pure, asO, cmpO, cmpB, intAg, intA, List.length_map, lc]; rfl) (by simp only [go_sem, seval, sR_len, sR_pure, sC_eq, hdrop, hfold, strR_len, strR_pure, sgR_len, sgR_pure, asO, cmpO, cmpB, intAg, intA, List.length_map, lc]) (fun h74 => ?_) (fun h74 => ?_)
        · refine AWp.skip ?_
          refine AWp.seq ?_
          refine AWp.block ?_
          refine AWp.seq ?_
          refine AWp.rgnD [] enM (by simp only [go_sem, seval, sR_len, sR_pure, sC_eq, hdrop, hfold, strR_len, strR_pure, sgR_len, sgR_pure, asO, cmpO, cmpB, intAg, intA, List.length_map, lc, strR_get (show i < (l.map emT).length by simpa using h74), strR_get (show i < ((l.set kk s).map emT).length by simpa using h74)]; rfl) (by rfl) ?_ ?_
          · simp only [decide_eq_true_eq] at h74; exact fun h => ⟨h, by omega, by omega⟩
          refine AWp.condB (by simp only [go_sem, seval, sR_len, sR_pure, sC_eq, hdrop, hfold, strR_len, strR_pure, sgR_len, sgR_pure, asO, cmpO, cmpB, intAg, intA, List.length_map, lc]; rfl) (by simp only [go_sem, seval, sR_len, sR_pure, sC_eq, hdrop, hfold, strR_len, strR_pure, sgR_len, sgR_pure, asO, cmpO, cmpB, intAg, intA, List.length_map, lc]) (fun h90 => ?_) (fun h90 => ?_)
          · (have hi : i < l.length := (by simpa using h74)); rw [Bool.and_eq_true] at h90; (have n1 : ¬ i = kk := (fun e => by rw [e] at h90; simp at h90)); rw [hg i hi n1] at h90; simp at h90
          · refine AWp.skip ?_
            refine AWp.rgn [] (by simp only [go_sem, seval, sR_len, sR_pure, sC_eq, hdrop, hfold, strR_len, strR_pure, sgR_len, sgR_pure, asO, cmpO, cmpB, intAg, intA, List.length_map, lc]; rfl) ?_ ?_
            · (first | trivial | (simp; done) | (simp only [Bool.or_eq_false_iff, Bool.not_eq_false'] at h44; have hk := hK h44.1; have hp := pok_open h44.1; first | omega | exact ⟨of_eq_true (sR_rows _), by simp, by omega⟩ | exact ⟨⟨by omega, by omega⟩, hk⟩ | exact h44.1 | exact h44))
            refine Exists.intro (i + 1) ⟨?_, ?_, ?_⟩
            · simp only [decide_eq_true_eq] at h74; omega
            · simp only [decide_eq_true_eq] at h74; omega
            exact Can.weak (Weak.lit (by simp only [go_sem, seval, sR_len, sR_pure, sC_eq, hdrop, hfold, strR_len, strR_pure, sgR_len, sgR_pure, asO, cmpO, cmpB, intAg, intA, List.length_map, lc, subM, leV, inns, innr, V.inn, us, true_or, or_true] <;> (rw [wrap64 (by omega) (by omega)]; simp)) (by simp only [go_sem, seval, sR_len, sR_pure, sC_eq, hdrop, hfold, strR_len, strR_pure, sgR_len, sgR_pure, asO, cmpO, cmpB, intAg, intA, List.length_map, lc, subM, leV, inns, innr, V.inn, us, true_or, or_true]) (by simp only [go_sem, seval, sR_len, sR_pure, sC_eq, hdrop, hfold, strR_len, strR_pure, sgR_len, sgR_pure, asO, cmpO, cmpB, intAg, intA, List.length_map, lc, subM, leV, inns, innr, V.inn, us, true_or, or_true]))
        · refine AWp.exit ?_
          refine AWp.seq ?_
          refine AWp.rgn [call0 (iEmitSegs_a l sa (by omega))] (by simp only [go_sem, seval, sR_len, sR_pure, sC_eq, hdrop, hfold, strR_len, strR_pure, sgR_len, sgR_pure, asO, cmpO, cmpB, intAg, intA, List.length_map, lc]; rfl) ?_ ?_
          · (first | trivial | (simp; done) | (simp only [Bool.or_eq_false_iff, Bool.not_eq_false'] at h44; have hk := hK h44.1; have hp := pok_open h44.1; first | omega | exact ⟨of_eq_true (sR_rows _), by simp, by omega⟩ | exact ⟨⟨by omega, by omega⟩, hk⟩ | exact h44.1 | exact h44))
          refine AWp.seq ?_
          refine AWp.rgn [call0 (iEmitSegs_a (l.set kk s) sc (by omega))] (by simp only [go_sem, seval, sR_len, sR_pure, sC_eq, hdrop, hfold, strR_len, strR_pure, sgR_len, sgR_pure, asO, cmpO, cmpB, intAg, intA, List.length_map, lc]; rfl) ?_ ?_
          · (first | trivial | (simp; done) | (simp only [Bool.or_eq_false_iff, Bool.not_eq_false'] at h44; have hk := hK h44.1; have hp := pok_open h44.1; first | omega | exact ⟨of_eq_true (sR_rows _), by simp, by omega⟩ | exact ⟨⟨by omega, by omega⟩, hk⟩ | exact h44.1 | exact h44))
          refine AWp.seq ?_
          refine AWp.rgn [] (by simp only [go_sem, seval, sR_len, sR_pure, sC_eq, hdrop, hfold, strR_len, strR_pure, sgR_len, sgR_pure, asO, cmpO, cmpB, intAg, intA, List.length_map, lc]; rfl) ?_ ?_
          · (first | trivial | (simp; done) | (simp only [Bool.or_eq_false_iff, Bool.not_eq_false'] at h44; have hk := hK h44.1; have hp := pok_open h44.1; first | omega | exact ⟨of_eq_true (sR_rows _), by simp, by omega⟩ | exact ⟨⟨by omega, by omega⟩, hk⟩ | exact h44.1 | exact h44))
          refine AWp.seq ?_
          refine AWp.seq ?_
          refine AWp.rgn [] (by simp only [go_sem, seval, sR_len, sR_pure, sC_eq, hdrop, hfold, strR_len, strR_pure, sgR_len, sgR_pure, asO, cmpO, cmpB, intAg, intA, List.length_map, lc]; rfl) ?_ ?_
          · (first | trivial | (simp; done) | (simp only [Bool.or_eq_false_iff, Bool.not_eq_false'] at h44; have hk := hK h44.1; have hp := pok_open h44.1; first | omega | exact ⟨of_eq_true (sR_rows _), by simp, by omega⟩ | exact ⟨⟨by omega, by omega⟩, hk⟩ | exact h44.1 | exact h44))
          refine AWp.block ?_
          refine AWp.loopK (fun q : Nat × Nat => ⟨[.no, .no, .no, .no, .no, .no, .no, .no, .i .i64 kk, .no, .no, .no, .no, .sl false (sgR (sgP l)), .sl false (sgR (sgP (l.set kk s))), .i .i64 q.1, .i .i64 q.2, .no, .no, .no, .no, .no, .no, .no, .no, .no, .no, .no, .no, .no, .no, .no, .no, .no, .no, .no, .no, .no, .no, .no, .no, .no, .no, .no, .no, .no, .no, .no, .no, .no, .no, .no, .no, .no, .no, .no, .no, .no, .no, .no, .no, .no, .no, .no, .no, .no, .no, .no, .no, .no, .no, .no, .no, .no, .no, .no, .no, .no, .no, .no, .no, .no, .no, .no, .no, .no, .no, .no, .no, .no, .no, .no, .no, .no, .no, .no, .no, .no, .no, .no, .no, .no, .no, .no, .no, .no, .no, .no, .no, .no, .no, .no, .no, .no, .no, .no, .no, .no, .no, .no, .no, .no, .no, .no, .no, .no, .no, .no, .no, .no, .no, .no, .no, .no, .no, .no, .no, .no, .no, .no, .no, .no, .no, .no, .no, .no, .no, .no, .no, .no, .no, .no, .no, .no, .no, .no, .no, .no, .no, .no, .no, .no], memOf [], us []⟩) (fun q : Nat × Nat => q.1 ≤ (sgP l).length ∧ q.2 ≤ (sgP (l.set kk s)).length ∧ ((sgP l).drop q.1).filter (notL kk) = ((sgP (l.set kk s)).drop q.2).filter (notL kk)) (fun q : Nat × Nat => (sgP (l.set kk s)).length - q.2) ((0, 0)) ?_ ?_ (fun q hI => ?_)
          · exact ⟨Nat.zero_le _, Nat.zero_le _, by rw [List.drop_zero, List.drop_zero]; exact (hF hJ.1 hJ.2.1).symm⟩
          · exact Can.weak (Weak.lit (by simp only [go_sem, seval, sR_len, sR_pure, sC_eq, hdrop, hfold, strR_len, strR_pure, sgR_len, sgR_pure, asO, cmpO, cmpB, intAg, intA, List.length_map, lc, subM, leV, inns, innr, V.inn, us, true_or, or_true] <;> ((try simp))) (by simp only [go_sem, seval, sR_len, sR_pure, sC_eq, hdrop, hfold, strR_len, strR_pure, sgR_len, sgR_pure, asO, cmpO, cmpB, intAg, intA, List.length_map, lc, subM, leV, inns, innr, V.inn, us, true_or, or_true]) (by simp only [go_sem, seval, sR_len, sR_pure, sC_eq, hdrop, hfold, strR_len, strR_pure, sgR_len, sgR_pure, asO, cmpO, cmpB, intAg, intA, List.length_map, lc, subM, leV, inns, innr, V.inn, us, true_or, or_true]))
          refine AWp.seq ?_
          refine AWp.seq ?_
          refine AWp.rgn [] (by simp only [go_sem, seval, sR_len, sR_pure, sC_eq, hdrop, hfold, strR_len, strR_pure, sgR_len, sgR_pure, asO, cmpO, cmpB, intAg, intA, List.length_map, lc]; rfl) ?_ ?_
          · (first | trivial | (simp; done) | (simp only [Bool.or_eq_false_iff, Bool.not_eq_false'] at h44; have hk := hK h44.1; have hp := pok_open h44.1; first | omega | exact ⟨of_eq_true (sR_rows _), by simp, by omega⟩ | exact ⟨⟨by omega, by omega⟩, hk⟩ | exact h44.1 | exact h44))
          refine AWp.condB (by simp only [go_sem, seval, sR_len, sR_pure, sC_eq, hdrop, hfold, strR_len, strR_pure, sgR_len, sgR_pure, asO, cmpO, cmpB, intAg, intA, List.length_map, lc]; rfl) (by simp only [go_sem, seval, sR_len, sR_pure, sC_eq, hdrop, hfold, strR_len, strR_pure, sgR_len, sgR_pure, asO, cmpO, cmpB, intAg, intA, List.length_map, lc]) (fun h98 => ?_) (fun h98 => ?_)
          · refine AWp.skip ?_
            refine AWp.seq ?_
            refine AWp.block ?_
            refine AWp.seq ?_
            refine AWp.seq ?_
            refine AWp.rgn [] (by simp only [go_sem, seval, sR_len, sR_pure, sC_eq, hdrop, hfold, strR_len, strR_pure, sgR_len, sgR_pure, asO, cmpO, cmpB, intAg, intA, List.length_map, lc, sgR_at (show q.2 < (sgP (l.set kk s)).length by simpa using h98)]; rfl) ?_ ?_
            · simp only [decide_eq_true_eq] at h98; exact ⟨by omega, by omega⟩
            refine AWp.condB (by simp only [go_sem, seval, sR_len, sR_pure, sC_eq, hdrop, hfold, strR_len, strR_pure, sgR_len, sgR_pure, asO, cmpO, cmpB, intAg, intA, List.length_map, lc]; rfl) (by simp only [go_sem, seval, sR_len, sR_pure, sC_eq, hdrop, hfold, strR_len, strR_pure, sgR_len, sgR_pure, asO, cmpO, cmpB, intAg, intA, List.length_map, lc]) (fun h108 => ?_) (fun h108 => ?_)
            · refine AWp.exit ?_
              refine AWp.rgn [] (by simp only [go_sem, seval, sR_len, sR_pure, sC_eq, hdrop, hfold, strR_len, strR_pure, sgR_len, sgR_pure, asO, cmpO, cmpB, intAg, intA, List.length_map, lc]; rfl) ?_ ?_
              · (first | trivial | (simp; done) | (simp only [Bool.or_eq_false_iff, Bool.not_eq_false'] at h44; have hk := hK h44.1; have hp := pok_open h44.1; first | omega | exact ⟨of_eq_true (sR_rows _), by simp, by omega⟩ | exact ⟨⟨by omega, by omega⟩, hk⟩ | exact h44.1 | exact h44))
              refine Exists.intro ((q.1, q.2 + 1)) ⟨?_, ?_, ?_⟩
              · simp only [decide_eq_true_eq] at h98; exact ⟨hI.1, by dsimp only; omega, by rw [hI.2.2]; exact (skip_f (d := G0) (by omega) (by simp only [notL, Bool.not_eq_false', decide_eq_true_eq]; exact beq_iff_eq.1 h108)).symm⟩
              · simp only [decide_eq_true_eq] at h98; dsimp only; omega
              exact Can.weak (Weak.lit (by simp only [go_sem, seval, sR_len, sR_pure, sC_eq, hdrop, hfold, strR_len, strR_pure, sgR_len, sgR_pure, asO, cmpO, cmpB, intAg, intA, List.length_map, lc, subM, leV, inns, innr, V.inn, us, true_or, or_true] <;> ((simp only [decide_eq_true_eq] at h98); rw [wrap64 (by omega) (by omega)]; rfl)) (by simp only [go_sem, seval, sR_len, sR_pure, sC_eq, hdrop, hfold, strR_len, strR_pure, sgR_len, sgR_pure, asO, cmpO, cmpB, intAg, intA, List.length_map, lc, subM, leV, inns, innr, V.inn, us, true_or, or_true]) (by simp only [go_sem, seval, sR_len, sR_pure, sC_eq, hdrop, hfold, strR_len, strR_pure, sgR_len, sgR_pure, asO, cmpO, cmpB, intAg, intA, List.length_map, lc, subM, leV, inns, innr, V.inn, us, true_or, or_true]))
            · refine AWp.skip ?_
              refine AWp.seq ?_
              refine AWp.block ?_
              refine AWp.loopK (fun n : Nat => ⟨[.no, .no, .no, .no, .no, .no, .no, .no, .i .i64 kk, .no, .no, .no, .no, .sl false (sgR (sgP l)), .sl false (sgR (sgP (l.set kk s))), .i .i64 n, .i .i64 q.2, .no, .no, .no, .no, .no, .no, .no, .no, .no, .no, .no, .no, .no, .no, .no, .no, .no, .no, .no, .no, .no, .no, .no, .no, .no, .no, .no, .no, .no, .no, .no, .no, .no, .no, .no, .no, .no, .no, .no, .no, .no, .no, .no, .no, .no, .no, .no, .no, .no, .no, .no, .no, .no, .no, .no, .no, .no, .no, .no, .no, .no, .no, .no, .no, .no, .no, .no, .no, .no, .no, .no, .no, .no, .no, .no, .no, .no, .no, .no, .no, .no, .no, .no, .no, .no, .no, .no, .no, .no, .no, .no, .no, .no, .no, .no, .no, .no, .no, .no, .no, .no, .no, .no, .no, .no, .no, .no, .no, .no, .no, .no, .no, .no, .no, .no, .no, .no, .no, .no, .no, .no, .no, .no, .no, .no, .no, .no, .no, .no, .no, .no, .no, .no, .no, .no, .no, .no, .no, .no, .no, .no, .no, .no, .no, .no], memOf [], us []⟩) (fun n : Nat => n ≤ (sgP l).length ∧ ((sgP l).drop n).filter (notL kk) = ((sgP (l.set kk s)).drop q.2).filter (notL kk)) (fun n : Nat => (sgP l).length - n) (q.1) ?_ ?_ (fun n hI => ?_)
              · exact ⟨hI.1, hI.2.2⟩
              · exact Can.weak (Weak.lit (by simp only [go_sem, seval, sR_len, sR_pure, sC_eq, hdrop, hfold, strR_len, strR_pure, sgR_len, sgR_pure, asO, cmpO, cmpB, intAg, intA, List.length_map, lc, subM, leV, inns, innr, V.inn, us, true_or, or_true] <;> ((try simp))) (by simp only [go_sem, seval, sR_len, sR_pure, sC_eq, hdrop, hfold, strR_len, strR_pure, sgR_len, sgR_pure, asO, cmpO, cmpB, intAg, intA, List.length_map, lc, subM, leV, inns, innr, V.inn, us, true_or, or_true]) (by simp only [go_sem, seval, sR_len, sR_pure, sC_eq, hdrop, hfold, strR_len, strR_pure, sgR_len, sgR_pure, asO, cmpO, cmpB, intAg, intA, List.length_map, lc, subM, leV, inns, innr, V.inn, us, true_or, or_true]))
              refine AWp.seq ?_
              refine AWp.seq ?_
              refine AWp.rgnS [119] [asO En { v := .i .i64 ((sgP l).getD n G0).1 }] (by simp only [go_sem, seval, sR_len, sR_pure, sC_eq, hdrop, hfold, strR_len, strR_pure, sgR_len, sgR_pure, asO, cmpO, cmpB, intAg, intA, List.length_map, lc]; rfl) ?_ ?_
              · exact ⟨fun h => ⟨h, by omega, by simpa using h, by rw [sgR_at (by simpa using h)]; rfl⟩, fun h => ⟨⟨h, by rw [sgR_at (by simpa using h)]; exact (by decide : 1 ≤ 4)⟩, by rw [sgR_at (by simpa using h)]; rfl⟩⟩
              refine AWp.condB (by simp only [go_sem, seval, sR_len, sR_pure, sC_eq, hdrop, hfold, strR_len, strR_pure, sgR_len, sgR_pure, asO, cmpO, cmpB, intAg, intA, List.length_map, lc]; rfl) (by simp only [go_sem, seval, sR_len, sR_pure, sC_eq, hdrop, hfold, strR_len, strR_pure, sgR_len, sgR_pure, asO, cmpO, cmpB, intAg, intA, List.length_map, lc]) (fun h122 => ?_) (fun h122 => ?_)
              · refine AWp.skip ?_
                refine AWp.block ?_
                refine AWp.rgn [] (by simp only [go_sem, seval, sR_len, sR_pure, sC_eq, hdrop, hfold, strR_len, strR_pure, sgR_len, sgR_pure, asO, cmpO, cmpB, intAg, intA, List.length_map, lc]; rfl) ?_ ?_
                · (first | trivial | (simp; done) | (simp only [Bool.or_eq_false_iff, Bool.not_eq_false'] at h44; have hk := hK h44.1; have hp := pok_open h44.1; first | omega | exact ⟨of_eq_true (sR_rows _), by simp, by omega⟩ | exact ⟨⟨by omega, by omega⟩, hk⟩ | exact h44.1 | exact h44))
                refine Exists.intro (n + 1) ⟨?_, ?_, ?_⟩
                · have e := line_iff.1 h122; exact ⟨by omega, by rw [← hI.2]; exact skip_f (d := G0) e.1 (by simp only [notL, Bool.not_eq_false', decide_eq_true_eq]; exact e.2)⟩
                · have e := line_iff.1 h122; omega
                exact Can.weak (Weak.lit (by simp only [go_sem, seval, sR_len, sR_pure, sC_eq, hdrop, hfold, strR_len, strR_pure, sgR_len, sgR_pure, asO, cmpO, cmpB, intAg, intA, List.length_map, lc, subM, leV, inns, innr, V.inn, us, true_or, or_true] <;> (rw [wrap64 (by omega) (by omega)]; simp)) (by simp only [go_sem, seval, sR_len, sR_pure, sC_eq, hdrop, hfold, strR_len, strR_pure, sgR_len, sgR_pure, asO, cmpO, cmpB, intAg, intA, List.length_map, lc, subM, leV, inns, innr, V.inn, us, true_or, or_true]) (by simp only [go_sem, seval, sR_len, sR_pure, sC_eq, hdrop, hfold, strR_len, strR_pure, sgR_len, sgR_pure, asO, cmpO, cmpB, intAg, intA, List.length_map, lc, subM, leV, inns, innr, V.inn, us, true_or, or_true]))
              · refine AWp.exit ?_
                refine AWp.seq ?_
                refine AWp.seq ?_
                refine AWp.rgnDS [138] [cmpO En .neq 47 4 eqSeg] enM (by simp only [go_sem, seval, sR_len, sR_pure, sC_eq, hdrop, hfold, strR_len, strR_pure, sgR_len, sgR_pure, asO, cmpO, cmpB, intAg, intA, List.length_map, lc, sgR_at (show q.2 < (sgP (l.set kk s)).length by simpa using h98), sgR_at (put_go hI.2 (show q.2 < (sgP (l.set kk s)).length by simpa using h98) (by simpa using h108) (fun e => by rw [line_iff.2 e] at h122; cases h122)).1, (put_go hI.2 (show q.2 < (sgP (l.set kk s)).length by simpa using h98) (by simpa using h108) (fun e => by rw [line_iff.2 e] at h122; cases h122)).2.1]; rfl) (by rfl) ?_ ?_
                · simp only [decide_eq_true_eq] at h98; exact ⟨⟨fun h => ⟨h, by omega, by simp at h; omega⟩, fun h => ⟨h, by omega, by omega⟩⟩, fun h => by rw [h]; rfl⟩
                refine AWp.condB (by simp only [go_sem, seval, sR_len, sR_pure, sC_eq, hdrop, hfold, strR_len, strR_pure, sgR_len, sgR_pure, asO, cmpO, cmpB, intAg, intA, List.length_map, lc]; rfl) (by simp only [go_sem, seval, sR_len, sR_pure, sC_eq, hdrop, hfold, strR_len, strR_pure, sgR_len, sgR_pure, asO, cmpO, cmpB, intAg, intA, List.length_map, lc]) (fun h139 => ?_) (fun h139 => ?_)
                · have g := (put_go hI.2 (show q.2 < (sgP (l.set kk s)).length by simpa using h98) (by simpa using h108) (fun e => by rw [line_iff.2 e] at h122; cases h122)).1; have := of_decide_eq_true h139; omega
                · refine AWp.skip ?_
                  refine AWp.rgn [] (by simp only [go_sem, seval, sR_len, sR_pure, sC_eq, hdrop, hfold, strR_len, strR_pure, sgR_len, sgR_pure, asO, cmpO, cmpB, intAg, intA, List.length_map, lc]; rfl) ?_ ?_
                  · (first | trivial | (simp; done) | (simp only [Bool.or_eq_false_iff, Bool.not_eq_false'] at h44; have hk := hK h44.1; have hp := pok_open h44.1; first | omega | exact ⟨of_eq_true (sR_rows _), by simp, by omega⟩ | exact ⟨⟨by omega, by omega⟩, hk⟩ | exact h44.1 | exact h44))
                  refine AWp.rgn [] (by simp only [go_sem, seval, sR_len, sR_pure, sC_eq, hdrop, hfold, strR_len, strR_pure, sgR_len, sgR_pure, asO, cmpO, cmpB, intAg, intA, List.length_map, lc]; rfl) ?_ ?_
                  · (first | trivial | (simp; done) | (simp only [Bool.or_eq_false_iff, Bool.not_eq_false'] at h44; have hk := hK h44.1; have hp := pok_open h44.1; first | omega | exact ⟨of_eq_true (sR_rows _), by simp, by omega⟩ | exact ⟨⟨by omega, by omega⟩, hk⟩ | exact h44.1 | exact h44))
                  refine Exists.intro ((n + 1, q.2 + 1)) ⟨?_, ?_, ?_⟩
                  · have g := put_go hI.2 (show q.2 < (sgP (l.set kk s)).length by simpa using h98) (by simpa using h108) (fun e => by rw [line_iff.2 e] at h122; cases h122); simp only [decide_eq_true_eq] at h98; exact ⟨by dsimp only; omega, by dsimp only; omega, g.2.2⟩
                  · simp only [decide_eq_true_eq] at h98; dsimp only; omega
                  exact Can.weak (Weak.lit (by simp only [go_sem, seval, sR_len, sR_pure, sC_eq, hdrop, hfold, strR_len, strR_pure, sgR_len, sgR_pure, asO, cmpO, cmpB, intAg, intA, List.length_map, lc, subM, leV, inns, innr, V.inn, us, true_or, or_true] <;> ((simp only [decide_eq_true_eq] at h98); rw [wrap64 (by omega) (by omega), wrap64 (by omega) (by omega)]; exact ⟨rfl, rfl⟩)) (by simp only [go_sem, seval, sR_len, sR_pure, sC_eq, hdrop, hfold, strR_len, strR_pure, sgR_len, sgR_pure, asO, cmpO, cmpB, intAg, intA, List.length_map, lc, subM, leV, inns, innr, V.inn, us, true_or, or_true]) (by simp only [go_sem, seval, sR_len, sR_pure, sC_eq, hdrop, hfold, strR_len, strR_pure, sgR_len, sgR_pure, asO, cmpO, cmpB, intAg, intA, List.length_map, lc, subM, leV, inns, innr, V.inn, us, true_or, or_true]))
          · refine AWp.exit ?_
            refine AWp.seq ?_
            refine AWp.block ?_
            refine AWp.loopK (fun n : Nat => ⟨[.no, .no, .no, .no, .no, .no, .no, .no, .i .i64 kk, .no, .no, .no, .no, .sl false (sgR (sgP l)), .no, .i .i64 n, .no, .no, .no, .no, .no, .no, .no, .no, .no, .no, .no, .no, .no, .no, .no, .no, .no, .no, .no, .no, .no, .no, .no, .no, .no, .no, .no, .no, .no, .no, .no, .no, .no, .no, .no, .no, .no, .no, .no, .no, .no, .no, .no, .no, .no, .no, .no, .no, .no, .no, .no, .no, .no, .no, .no, .no, .no, .no, .no, .no, .no, .no, .no, .no, .no, .no, .no, .no, .no, .no, .no, .no, .no, .no, .no, .no, .no, .no, .no, .no, .no, .no, .no, .no, .no, .no, .no, .no, .no, .no, .no, .no, .no, .no, .no, .no, .no, .no, .no, .no, .no, .no, .no, .no, .no, .no, .no, .no, .no, .no, .no, .no, .no, .no, .no, .no, .no, .no, .no, .no, .no, .no, .no, .no, .no, .no, .no, .no, .no, .no, .no, .no, .no, .no, .no, .no, .no, .no, .no, .no, .no, .no, .no, .no, .no, .no], memOf [], us []⟩) (fun n : Nat => n ≤ (sgP l).length ∧ ((sgP l).drop n).filter (notL kk) = []) (fun n : Nat => (sgP l).length - n) (q.1) ?_ ?_ (fun n hI => ?_)
            · simp only [decide_eq_false_iff_not] at h98; exact ⟨hI.1, by rw [hI.2.2, List.drop_of_length_le (by omega)]; rfl⟩
            · exact Can.weak (Weak.lit (by simp only [go_sem, seval, sR_len, sR_pure, sC_eq, hdrop, hfold, strR_len, strR_pure, sgR_len, sgR_pure, asO, cmpO, cmpB, intAg, intA, List.length_map, lc, subM, leV, inns, innr, V.inn, us, true_or, or_true] <;> ((try simp))) (by simp only [go_sem, seval, sR_len, sR_pure, sC_eq, hdrop, hfold, strR_len, strR_pure, sgR_len, sgR_pure, asO, cmpO, cmpB, intAg, intA, List.length_map, lc, subM, leV, inns, innr, V.inn, us, true_or, or_true]) (by simp only [go_sem, seval, sR_len, sR_pure, sC_eq, hdrop, hfold, strR_len, strR_pure, sgR_len, sgR_pure, asO, cmpO, cmpB, intAg, intA, List.length_map, lc, subM, leV, inns, innr, V.inn, us, true_or, or_true]))
            refine AWp.seq ?_
            refine AWp.seq ?_
            refine AWp.rgnS [152] [asO En { v := .i .i64 ((sgP l).getD n G0).1 }] (by simp only [go_sem, seval, sR_len, sR_pure, sC_eq, hdrop, hfold, strR_len, strR_pure, sgR_len, sgR_pure, asO, cmpO, cmpB, intAg, intA, List.length_map, lc]; rfl) ?_ ?_
            · exact ⟨fun h => ⟨h, by omega, by simpa using h, by rw [sgR_at (by simpa using h)]; rfl⟩, fun h => ⟨⟨h, by rw [sgR_at (by simpa using h)]; exact (by decide : 1 ≤ 4)⟩, by rw [sgR_at (by simpa using h)]; rfl⟩⟩
            refine AWp.condB (by simp only [go_sem, seval, sR_len, sR_pure, sC_eq, hdrop, hfold, strR_len, strR_pure, sgR_len, sgR_pure, asO, cmpO, cmpB, intAg, intA, List.length_map, lc]; rfl) (by simp only [go_sem, seval, sR_len, sR_pure, sC_eq, hdrop, hfold, strR_len, strR_pure, sgR_len, sgR_pure, asO, cmpO, cmpB, intAg, intA, List.length_map, lc]) (fun h155 => ?_) (fun h155 => ?_)
            · refine AWp.skip ?_
              refine AWp.block ?_
              refine AWp.rgn [] (by simp only [go_sem, seval, sR_len, sR_pure, sC_eq, hdrop, hfold, strR_len, strR_pure, sgR_len, sgR_pure, asO, cmpO, cmpB, intAg, intA, List.length_map, lc]; rfl) ?_ ?_
              · (first | trivial | (simp; done) | (simp only [Bool.or_eq_false_iff, Bool.not_eq_false'] at h44; have hk := hK h44.1; have hp := pok_open h44.1; first | omega | exact ⟨of_eq_true (sR_rows _), by simp, by omega⟩ | exact ⟨⟨by omega, by omega⟩, hk⟩ | exact h44.1 | exact h44))
              refine Exists.intro (n + 1) ⟨?_, ?_, ?_⟩
              · have e := line_iff.1 h155; exact ⟨by omega, by rw [← hI.2]; exact skip_f (d := G0) e.1 (by simp only [notL, Bool.not_eq_false', decide_eq_true_eq]; exact e.2)⟩
              · have e := line_iff.1 h155; omega
              exact Can.weak (Weak.lit (by simp only [go_sem, seval, sR_len, sR_pure, sC_eq, hdrop, hfold, strR_len, strR_pure, sgR_len, sgR_pure, asO, cmpO, cmpB, intAg, intA, List.length_map, lc, subM, leV, inns, innr, V.inn, us, true_or, or_true] <;> (rw [wrap64 (by omega) (by omega)]; simp)) (by simp only [go_sem, seval, sR_len, sR_pure, sC_eq, hdrop, hfold, strR_len, strR_pure, sgR_len, sgR_pure, asO, cmpO, cmpB, intAg, intA, List.length_map, lc, subM, leV, inns, innr, V.inn, us, true_or, or_true]) (by simp only [go_sem, seval, sR_len, sR_pure, sC_eq, hdrop, hfold, strR_len, strR_pure, sgR_len, sgR_pure, asO, cmpO, cmpB, intAg, intA, List.length_map, lc, subM, leV, inns, innr, V.inn, us, true_or, or_true]))
            · refine AWp.exit ?_
              refine AWp.seq ?_
              refine AWp.rgn [] (by simp only [go_sem, seval, sR_len, sR_pure, sC_eq, hdrop, hfold, strR_len, strR_pure, sgR_len, sgR_pure, asO, cmpO, cmpB, intAg, intA, List.length_map, lc]; rfl) ?_ ?_
              · (first | trivial | (simp; done) | (simp only [Bool.or_eq_false_iff, Bool.not_eq_false'] at h44; have hk := hK h44.1; have hp := pok_open h44.1; first | omega | exact ⟨of_eq_true (sR_rows _), by simp, by omega⟩ | exact ⟨⟨by omega, by omega⟩, hk⟩ | exact h44.1 | exact h44))
              refine AWp.ret (And.intro (.inr rfl) ?_)
              exact Out.plain (by simp only [Tryz.results5]; rfl) (by simp only [resCs, resC, go_sem, seval, sR_len, sR_pure, sC_eq, hdrop, hfold, strR_len, strR_pure, sgR_len, sgR_pure, asO, cmpO, cmpB, intAg, intA, List.length_map, lc] <;> (split <;> rfl)) (by simp only [resV, go_sem, seval, sR_len, sR_pure, sC_eq, hdrop, hfold, strR_len, strR_pure, sgR_len, sgR_pure, asO, cmpO, cmpB, intAg, intA, List.length_map, lc] <;> (rw [put_end hI.2 hI.1 (fun e => by rw [line_iff.2 e] at h155; cases h155)]; simp)) (by simp only [go_sem, seval, sR_len, sR_pure, sC_eq, hdrop, hfold, strR_len, strR_pure, sgR_len, sgR_pure, asO, cmpO, cmpB, intAg, intA, List.length_map, lc])
end Go.Proofs.YteihfmnmpdbkiaaGreatDoor
