/- Parts of the proof, one after another: Texts of lines without types, drawn. Conditions: none. -/
import Derived.Test.YteihfmnmpdbkiaaGreatDoorK8
import Derived.Test.YteihfmnmpdbkiaaGreatDoorKs
import Derived.Test.YteihfmnmpdbkiaaGreatDoorKq
set_option linter.unusedVariables false
set_option linter.unusedSimpArgs false
namespace Go.Proofs.YteihfmnmpdbkiaaGreatDoor
section
set_option maxRecDepth 100000
set_option maxHeartbeats 4000000

def tearA : List Str := [[], [32], [49], [10], [40], [120]]
def dAl (b : Str) : List Str := (dProg b 0).1.map fun s => btxt (bof s)
def dBAl (b : Str) : Str :=
  if lnText (dAl b) = [] ∨ 0 < pickI b (dProg b 0).2 3 then lnText (dAl b) else torn b ((dProg b 0).2 + 1) tearA (lnText (dAl b))
theorem dAl_len (b : Str) : (lnText (dAl b)).length ≤ 10000 := by
  obtain ⟨h1, h2, h3, h4, h5⟩ := dProg_p b (p := 0) (by decide) (by decide)
  have := ln_le (l := dAl b) (k := 120) fun s hs => by
    obtain ⟨x, _, rfl⟩ := List.mem_map.1 hs
    exact btxt_le _
  have h : (dAl b).length = (dProg b 0).1.length := by simp [dAl]
  rw [h] at this
  have := Nat.mul_le_mul_right 121 (show (dProg b 0).1.length ≤ 20 by omega)
  omega
theorem dBAl_len (b : Str) : (dBAl b).length ≤ 100000 := by
  obtain ⟨h1, h2, h3, h4, h5⟩ := dProg_p b (p := 0) (by decide) (by decide)
  have k1 := dAl_len b
  unfold dBAl
  split
  · omega
  · have := torn_len (b := b) (p := (dProg b 0).2 + 1) (l := tearA) (s := lnText (dAl b)) 6 (by decide) (by decide) (by omega) (by omega)
    omega
theorem strR_map {l : List Sl} {k : Nat} (hk : k < l.length) : strR ((l.take (k + 1)).map fun s => btxt (bof s)) = strR ((l.take k).map fun s => btxt (bof s)) ++ [[.s (btxt (bof (l.getD k S0)))]] := by
  rw [List.take_add_one, List.getElem?_eq_getElem hk, List.map_append, strR_app, List.getD_eq_getElem?_getD, List.getElem?_eq_getElem hk]; rfl
theorem DrawBareAll_f (c : Str) (h0 : (((lnText (dAl (c.take 2000))).length : Int) == 0) = false) : ACall En 64 [.sl false (byR c)] [] [.s (dBAl (c.take 2000))] [] := by
  have hb : (c.take 2000).length ≤ 2000 := by simp; omega
  have hO := l12Open_a c
  generalize hc : c.take 2000 = b at *
  obtain ⟨h1, h2, h3, h4, h5⟩ := dProg_p b (p := 0) (by decide) (by decide)
  have k1 := dAl_len b
  have hd : dBAl b = if lnText (dAl b) = [] ∨ 0 < pickI b (dProg b 0).2 3 then lnText (dAl b) else torn b ((dProg b 0).2 + 1) tearA (lnText (dAl b)) := rfl
  have L6 := l6Prog_a b 0 hb (by decide) (by decide)
  have hA : dAl b = (dProg b 0).1.map fun s => btxt (bof s) := rfl
  have T := sTextJoin_a (dAl b) (by rw [hA, List.length_map]; omega) (by omega)
  generalize dAl b = ls at *
  generalize dProg b 0 = P at *
  generalize lnText ls = s at *
  refine acall_of_body (fn := Tryz.f64) [] Tryz.func64 rfl rfl (by simp) fun C => ?_
  rw [entry_eq]
  simp only [Tryz.ntmps64, List.length_cons, List.length_nil, Nat.reduceAdd, Nat.reduceSub, List.replicate_succ, List.replicate_zero, List.cons_append, List.nil_append, numL]
  refine AWp.seq ?_
  refine AWp.rgn [] (by simp only [go_sem, seval, memEq, clrs, sR_len, sR_pure, sC_eq, bC_eq, strR_len, strR_pure, h0]; rfl) ?_ ?_
  · (first | trivial | (simp; done))
  refine AWp.seq ?_
  refine AWp.rgn [callN [] [90] hO] (by simp only [go_sem, seval, memEq, clrs, sR_len, sR_pure, sC_eq, bC_eq, strR_len, strR_pure, h0]; rfl) ?_ ?_
  · (first | trivial | (simp; done))
  refine AWp.seq ?_
  refine AWp.rgn [callN [90] [] L6] (by simp only [go_sem, seval, memEq, clrs, sR_len, sR_pure, sC_eq, bC_eq, strR_len, strR_pure, h0]; rfl) ?_ ?_
  · (first | trivial | (simp; done))
  refine AWp.seq ?_
  refine AWp.rgn [] (by simp only [go_sem, seval, memEq, clrs, sR_len, sR_pure, sC_eq, bC_eq, strR_len, strR_pure, h0]; rfl) ?_ ?_
  · (first | trivial | (simp; done))
  refine AWp.seqJ (fun u : Unit => ⟨[.no, .no, .no, .pt 90 2 0 0, .no, .sl false (strR ls), .no, .no, .no, .no, .no, .no, .no, .no, .no, .no, .no, .no, .no, .no, .no, .no, .no, .no, .no, .no, .no, .no, .no, .no, .no, .no, .no, .no, .no, .no, .no, .no, .no, .no, .no, .no, .no, .no, .no, .no, .no, .no, .no, .no, .no, .no, .no, .no, .no, .no, .no, .no], memOf [(90, rdB b P.2)], us [90]⟩) (fun u : Unit => True) ?_ (fun u hJ => ?_)
  · refine AWp.seq ?_
    refine AWp.rgn [] (by simp only [go_sem, seval, memEq, clrs, sR_len, sR_pure, sC_eq, bC_eq, strR_len, strR_pure, h0]; rfl) ?_ ?_
    · (first | trivial | (simp; done))
    refine AWp.block ?_
    refine AWp.loopK (fun k : Nat => ⟨[.no, .no, .no, .pt 90 2 0 0, .sl false (sR P.1), .ow 60 1 0 k, .i .i64 k, .no, .no, .no, .no, .no, .no, .no, .no, .no, .no, .no, .no, .no, .no, .no, .no, .no, .no, .no, .no, .no, .no, .no, .no, .no, .no, .no, .no, .no, .no, .no, .no, .no, .no, .no, .no, .no, .no, .no, .no, .no, .no, .no, .no, .no, .no, .no, .no, .no, .no, .no], memOf [(90, rdB b P.2), (60, ⟨9, 1, strR ((P.1.take k).map fun s => btxt (bof s))⟩)], us [90, 60]⟩) (fun k : Nat => k ≤ P.1.length) (fun k : Nat => P.1.length - k) (0) ?_ ?_ (fun k hI => ?_)
    · simp
    · refine Can.trans (Can.ownSlot 5 60 9 1 (by simp only [go_sem, seval, memEq, clrs, sR_len, sR_pure, sC_eq, bC_eq, strR_len, strR_pure, h0] <;> rfl) (by simp only [go_sem, seval, memEq, clrs, sR_len, sR_pure, sC_eq, bC_eq, strR_len, strR_pure, h0]) (by simp only [go_sem, seval, memEq, clrs, sR_len, sR_pure, sC_eq, bC_eq, strR_len, strR_pure, h0] <;> rfl)) ?_
      exact Can.weak (Weak.lit (by simp only [go_sem, seval, memEq, clrs, sR_len, sR_pure, sC_eq, bC_eq, strR_len, strR_pure, h0, subM, leV, inns, innr, V.inn, us, true_or, or_true] <;> ((try simp))) (by simp only [go_sem, seval, memEq, clrs, sR_len, sR_pure, sC_eq, bC_eq, strR_len, strR_pure, h0, subM, leV, inns, innr, V.inn, us, true_or, or_true]) (by simp only [go_sem, seval, memEq, clrs, sR_len, sR_pure, sC_eq, bC_eq, strR_len, strR_pure, h0, subM, leV, inns, innr, V.inn, us, true_or, or_true] <;> ((try simp [strR]))))
    refine AWp.seq ?_
    refine AWp.seq ?_
    refine AWp.rgn [] (by simp only [go_sem, seval, memEq, clrs, sR_len, sR_pure, sC_eq, bC_eq, strR_len, strR_pure, h0]; rfl) ?_ ?_
    · (first | trivial | (simp; done))
    refine AWp.condB (by simp only [go_sem, seval, memEq, clrs, sR_len, sR_pure, sC_eq, bC_eq, strR_len, strR_pure, h0]; rfl) (by simp only [go_sem, seval, memEq, clrs, sR_len, sR_pure, sC_eq, bC_eq, strR_len, strR_pure, h0]) (fun h17 => ?_) (fun h17 => ?_)
    · refine AWp.skip ?_
      refine AWp.seq ?_
      refine AWp.block ?_
      refine AWp.rgn [call0 (l7Of_a (P.1.getD k S0) (allS_of h5 (by simpa using h17)).1 (allS_of h5 (by simpa using h17)).2.1 (allS_of h5 (by simpa using h17)).2.2), callI (k < P.1.length) (fun h => sBareTxt_a (bof (P.1.getD k S0)) (smb_bof (allS_of h5 h).1))] (by simp only [go_sem, seval, memEq, clrs, sR_len, sR_pure, sC_eq, bC_eq, strR_len, strR_pure, h0, sR_get (show k < P.1.length by simpa using h17)]; rfl) ?_ ?_
      · (first | (simpa using h17) | (simp at h17; simp [fsOk, strR_len]; omega))
      refine AWp.rgn [] (by simp only [go_sem, seval, memEq, clrs, sR_len, sR_pure, sC_eq, bC_eq, strR_len, strR_pure, h0]; rfl) ?_ ?_
      · (first | trivial | (simp; done))
      refine Exists.intro (k + 1) ⟨?_, ?_, ?_⟩
      · simp at h17; omega
      · simp at h17; omega
      refine Can.trans (Can.swap 38 60 (by decide) (by decide) (by decide) (by decide) (by simp only [go_sem, seval, memEq, clrs, sR_len, sR_pure, sC_eq, bC_eq, strR_len, strR_pure, h0, V.cl]) (by simp only [go_sem, seval, memEq, clrs, sR_len, sR_pure, sC_eq, bC_eq, strR_len, strR_pure, h0, V.cl]) (by simp only [go_sem, seval, memEq, clrs, sR_len, sR_pure, sC_eq, bC_eq, strR_len, strR_pure, h0, swL_get, sw, swM, rnB] <;> rfl) (by simp only [go_sem, seval, memEq, clrs, sR_len, sR_pure, sC_eq, bC_eq, strR_len, strR_pure, h0, swL_get, sw, swM, rnB] <;> rfl) (by simp only [go_sem, seval, memEq, clrs, sR_len, sR_pure, sC_eq, bC_eq, strR_len, strR_pure, h0, swL_get, sw, swM, rnB] <;> rfl)) ?_
      exact Can.weak (Weak.lit (by simp only [go_sem, seval, memEq, clrs, sR_len, sR_pure, sC_eq, bC_eq, strR_len, strR_pure, h0, subM, leV, inns, innr, V.inn, us, true_or, or_true] <;> (rw [wrap64 (by simp at h17; omega) (by simp at h17; omega)]; (try simp))) (by simp only [go_sem, seval, memEq, clrs, sR_len, sR_pure, sC_eq, bC_eq, strR_len, strR_pure, h0, subM, leV, inns, innr, V.inn, us, true_or, or_true]) (by simp only [go_sem, seval, memEq, clrs, sR_len, sR_pure, sC_eq, bC_eq, strR_len, strR_pure, h0, subM, leV, inns, innr, V.inn, us, true_or, or_true] <;> (rw [strR_map (by simpa using h17)])))
    · refine AWp.exit ?_
      refine Exists.intro (()) ⟨?_, ?_⟩
      · trivial
      refine Can.trans (Can.frz 60 (by simp only [go_sem, seval, memEq, clrs, sR_len, sR_pure, sC_eq, bC_eq, strR_len, strR_pure, h0] <;> rfl) (by simp only [go_sem, seval, memEq, clrs, sR_len, sR_pure, sC_eq, bC_eq, strR_len, strR_pure, h0]) (by simp only [go_sem, seval, memEq, clrs, sR_len, sR_pure, sC_eq, bC_eq, strR_len, strR_pure, h0] <;> rfl) (by simp only [go_sem, seval, memEq, clrs, sR_len, sR_pure, sC_eq, bC_eq, strR_len, strR_pure, h0] <;> rfl)) ?_
      exact Can.weak (Weak.lit (by simp only [go_sem, seval, memEq, clrs, sR_len, sR_pure, sC_eq, bC_eq, strR_len, strR_pure, h0, subM, leV, inns, innr, V.inn, us, true_or, or_true] <;> (simp only [decide_eq_false_iff_not] at h17; (obtain rfl : k = P.1.length := (by omega)); rw [hA]; simp [List.take_of_length_le, leV, ler_refl, strR_len])) (by simp only [go_sem, seval, memEq, clrs, sR_len, sR_pure, sC_eq, bC_eq, strR_len, strR_pure, h0, subM, leV, inns, innr, V.inn, us, true_or, or_true]) (by simp only [go_sem, seval, memEq, clrs, sR_len, sR_pure, sC_eq, bC_eq, strR_len, strR_pure, h0, subM, leV, inns, innr, V.inn, us, true_or, or_true]))
  refine AWp.seq ?_
  refine AWp.rgn [call0 T] (by simp only [go_sem, seval, memEq, clrs, sR_len, sR_pure, sC_eq, bC_eq, strR_len, strR_pure, h0]; rfl) ?_ ?_
  · (first | trivial | (simp; done))
  refine AWp.seq ?_
  refine AWp.seq ?_
  refine AWp.rgn [callN [90] [] (pick_a b P.2 3 hb (by omega) (by omega))] (by simp only [go_sem, seval, memEq, clrs, sR_len, sR_pure, sC_eq, bC_eq, strR_len, strR_pure, h0]; rfl) ?_ ?_
  · (first | trivial | (simp; done))
  refine AWp.condB (by simp only [go_sem, seval, memEq, clrs, sR_len, sR_pure, sC_eq, bC_eq, strR_len, strR_pure, h0]; rfl) (by simp only [go_sem, seval, memEq, clrs, sR_len, sR_pure, sC_eq, bC_eq, strR_len, strR_pure, h0]) (fun h38 => ?_) (fun h38 => ?_)
  · refine AWp.seq ?_
    refine AWp.rgn [] (by simp only [go_sem, seval, memEq, clrs, sR_len, sR_pure, sC_eq, bC_eq, strR_len, strR_pure, h0]; rfl) ?_ ?_
    · (first | trivial | (simp; done))
    refine AWp.ret (And.intro (.inr rfl) ?_)
    exact Out.plain (by simp only [Tryz.results64]; rfl) (by simp only [resCs, resC, go_sem, seval, memEq, clrs, sR_len, sR_pure, sC_eq, bC_eq, strR_len, strR_pure, h0] <;> (split <;> rfl)) (by simp only [resV, go_sem, seval, memEq, clrs, sR_len, sR_pure, sC_eq, bC_eq, strR_len, strR_pure, h0] <;> (rw [hd, if_pos (.inr (by simpa using h38))])) (by simp only [go_sem, seval, memEq, clrs, sR_len, sR_pure, sC_eq, bC_eq, strR_len, strR_pure, h0])
  · refine AWp.skip ?_
    refine AWp.seq ?_
    refine AWp.rgn [callN [90] [] (pick_a b (P.2 + 1) s.length hb (by omega) (by omega))] (by simp only [go_sem, seval, memEq, clrs, sR_len, sR_pure, sC_eq, bC_eq, strR_len, strR_pure, h0]; rfl) ?_ ?_
    · (first | trivial | (simp; done))
    refine AWp.seq ?_
    refine AWp.rgnD [callN [90] [] (of_a b (P.2 + 1 + 1) tearA (by decide) hb (by omega) (by omega)), callN [90] [] (pick_a b (P.2 + 1 + 1 + 1) 2 hb (by omega) (by omega))] enM (by simp only [go_sem, seval, memEq, clrs, sR_len, sR_pure, sC_eq, bC_eq, strR_len, strR_pure, h0]; rfl) (by rfl) ?_ ?_
    · (obtain ⟨q1, q2, q3, q4, q5, q6, q7⟩ := torn_p (b := b) (p := P.2 + 1) h0 (by omega) (by omega) (by omega); have q8 := of_len (b := b) (p := P.2 + 1 + 1) (l := tearA) (by decide) (by omega) (by omega) 6 (by decide); rw [q3]; refine ⟨⟨⟨⟨⟨⟨q1, q2, Int.le_refl _, by simp⟩, by simp [tearA, strR, ler, les, leV], by simp⟩, by omega⟩, by simp⟩, q4, q5, Int.le_refl _⟩, ?_⟩; simp only [List.length_append, List.length_drop, List.length_take] at q7 ⊢; omega)
    refine AWp.ret (And.intro (.inr rfl) ?_)
    exact Out.plain (by simp only [Tryz.results64]; rfl) (by simp only [resCs, resC, go_sem, seval, memEq, clrs, sR_len, sR_pure, sC_eq, bC_eq, strR_len, strR_pure, h0] <;> (split <;> rfl)) (by simp only [resV, go_sem, seval, memEq, clrs, sR_len, sR_pure, sC_eq, bC_eq, strR_len, strR_pure, h0] <;> (rw [hd, if_neg (by rw [beq_eq_false_iff_ne] at h0; rintro (h | h); exact h0 (by rw [h]; rfl); simp at h38; omega), torn, (torn_p (b := b) (p := P.2 + 1) h0 (by omega) (by omega) (by omega)).2.2.1, (torn_p (b := b) (p := P.2 + 1) h0 (by omega) (by omega) (by omega)).2.2.2.2.2.1, List.take_length])) (by simp only [go_sem, seval, memEq, clrs, sR_len, sR_pure, sC_eq, bC_eq, strR_len, strR_pure, h0])
theorem DrawBareAll_t (c : Str) (h0 : (((lnText (dAl (c.take 2000))).length : Int) == 0) = true) : ACall En 64 [.sl false (byR c)] [] [.s (dBAl (c.take 2000))] [] := by
  have hb : (c.take 2000).length ≤ 2000 := by simp; omega
  have hO := l12Open_a c
  generalize hc : c.take 2000 = b at *
  obtain ⟨h1, h2, h3, h4, h5⟩ := dProg_p b (p := 0) (by decide) (by decide)
  have k1 := dAl_len b
  have hd : dBAl b = if lnText (dAl b) = [] ∨ 0 < pickI b (dProg b 0).2 3 then lnText (dAl b) else torn b ((dProg b 0).2 + 1) tearA (lnText (dAl b)) := rfl
  have L6 := l6Prog_a b 0 hb (by decide) (by decide)
  have hA : dAl b = (dProg b 0).1.map fun s => btxt (bof s) := rfl
  have T := sTextJoin_a (dAl b) (by rw [hA, List.length_map]; omega) (by omega)
  generalize dAl b = ls at *
  generalize dProg b 0 = P at *
  generalize lnText ls = s at *
  refine acall_of_body (fn := Tryz.f64) [] Tryz.func64 rfl rfl (by simp) fun C => ?_
  rw [entry_eq]
  simp only [Tryz.ntmps64, List.length_cons, List.length_nil, Nat.reduceAdd, Nat.reduceSub, List.replicate_succ, List.replicate_zero, List.cons_append, List.nil_append, numL]
  refine AWp.seq ?_
  refine AWp.rgn [] (by simp only [go_sem, seval, memEq, clrs, sR_len, sR_pure, sC_eq, bC_eq, strR_len, strR_pure, h0]; rfl) ?_ ?_
  · (first | trivial | (simp; done))
  refine AWp.seq ?_
  refine AWp.rgn [callN [] [90] hO] (by simp only [go_sem, seval, memEq, clrs, sR_len, sR_pure, sC_eq, bC_eq, strR_len, strR_pure, h0]; rfl) ?_ ?_
  · (first | trivial | (simp; done))
  refine AWp.seq ?_
  refine AWp.rgn [callN [90] [] L6] (by simp only [go_sem, seval, memEq, clrs, sR_len, sR_pure, sC_eq, bC_eq, strR_len, strR_pure, h0]; rfl) ?_ ?_
  · (first | trivial | (simp; done))
  refine AWp.seq ?_
  refine AWp.rgn [] (by simp only [go_sem, seval, memEq, clrs, sR_len, sR_pure, sC_eq, bC_eq, strR_len, strR_pure, h0]; rfl) ?_ ?_
  · (first | trivial | (simp; done))
  refine AWp.seqJ (fun u : Unit => ⟨[.no, .no, .no, .pt 90 2 0 0, .no, .sl false (strR ls), .no, .no, .no, .no, .no, .no, .no, .no, .no, .no, .no, .no, .no, .no, .no, .no, .no, .no, .no, .no, .no, .no, .no, .no, .no, .no, .no, .no, .no, .no, .no, .no, .no, .no, .no, .no, .no, .no, .no, .no, .no, .no, .no, .no, .no, .no, .no, .no, .no, .no, .no, .no], memOf [(90, rdB b P.2)], us [90]⟩) (fun u : Unit => True) ?_ (fun u hJ => ?_)
  · refine AWp.seq ?_
    refine AWp.rgn [] (by simp only [go_sem, seval, memEq, clrs, sR_len, sR_pure, sC_eq, bC_eq, strR_len, strR_pure, h0]; rfl) ?_ ?_
    · (first | trivial | (simp; done))
    refine AWp.block ?_
    refine AWp.loopK (fun k : Nat => ⟨[.no, .no, .no, .pt 90 2 0 0, .sl false (sR P.1), .ow 60 1 0 k, .i .i64 k, .no, .no, .no, .no, .no, .no, .no, .no, .no, .no, .no, .no, .no, .no, .no, .no, .no, .no, .no, .no, .no, .no, .no, .no, .no, .no, .no, .no, .no, .no, .no, .no, .no, .no, .no, .no, .no, .no, .no, .no, .no, .no, .no, .no, .no, .no, .no, .no, .no, .no, .no], memOf [(90, rdB b P.2), (60, ⟨9, 1, strR ((P.1.take k).map fun s => btxt (bof s))⟩)], us [90, 60]⟩) (fun k : Nat => k ≤ P.1.length) (fun k : Nat => P.1.length - k) (0) ?_ ?_ (fun k hI => ?_)
    · simp
    · refine Can.trans (Can.ownSlot 5 60 9 1 (by simp only [go_sem, seval, memEq, clrs, sR_len, sR_pure, sC_eq, bC_eq, strR_len, strR_pure, h0] <;> rfl) (by simp only [go_sem, seval, memEq, clrs, sR_len, sR_pure, sC_eq, bC_eq, strR_len, strR_pure, h0]) (by simp only [go_sem, seval, memEq, clrs, sR_len, sR_pure, sC_eq, bC_eq, strR_len, strR_pure, h0] <;> rfl)) ?_
      exact Can.weak (Weak.lit (by simp only [go_sem, seval, memEq, clrs, sR_len, sR_pure, sC_eq, bC_eq, strR_len, strR_pure, h0, subM, leV, inns, innr, V.inn, us, true_or, or_true] <;> ((try simp))) (by simp only [go_sem, seval, memEq, clrs, sR_len, sR_pure, sC_eq, bC_eq, strR_len, strR_pure, h0, subM, leV, inns, innr, V.inn, us, true_or, or_true]) (by simp only [go_sem, seval, memEq, clrs, sR_len, sR_pure, sC_eq, bC_eq, strR_len, strR_pure, h0, subM, leV, inns, innr, V.inn, us, true_or, or_true] <;> ((try simp [strR]))))
    refine AWp.seq ?_
    refine AWp.seq ?_
    refine AWp.rgn [] (by simp only [go_sem, seval, memEq, clrs, sR_len, sR_pure, sC_eq, bC_eq, strR_len, strR_pure, h0]; rfl) ?_ ?_
    · (first | trivial | (simp; done))
    refine AWp.condB (by simp only [go_sem, seval, memEq, clrs, sR_len, sR_pure, sC_eq, bC_eq, strR_len, strR_pure, h0]; rfl) (by simp only [go_sem, seval, memEq, clrs, sR_len, sR_pure, sC_eq, bC_eq, strR_len, strR_pure, h0]) (fun h17 => ?_) (fun h17 => ?_)
    · refine AWp.skip ?_
      refine AWp.seq ?_
      refine AWp.block ?_
      refine AWp.rgn [call0 (l7Of_a (P.1.getD k S0) (allS_of h5 (by simpa using h17)).1 (allS_of h5 (by simpa using h17)).2.1 (allS_of h5 (by simpa using h17)).2.2), callI (k < P.1.length) (fun h => sBareTxt_a (bof (P.1.getD k S0)) (smb_bof (allS_of h5 h).1))] (by simp only [go_sem, seval, memEq, clrs, sR_len, sR_pure, sC_eq, bC_eq, strR_len, strR_pure, h0, sR_get (show k < P.1.length by simpa using h17)]; rfl) ?_ ?_
      · (first | (simpa using h17) | (simp at h17; simp [fsOk, strR_len]; omega))
      refine AWp.rgn [] (by simp only [go_sem, seval, memEq, clrs, sR_len, sR_pure, sC_eq, bC_eq, strR_len, strR_pure, h0]; rfl) ?_ ?_
      · (first | trivial | (simp; done))
      refine Exists.intro (k + 1) ⟨?_, ?_, ?_⟩
      · simp at h17; omega
      · simp at h17; omega
      refine Can.trans (Can.swap 38 60 (by decide) (by decide) (by decide) (by decide) (by simp only [go_sem, seval, memEq, clrs, sR_len, sR_pure, sC_eq, bC_eq, strR_len, strR_pure, h0, V.cl]) (by simp only [go_sem, seval, memEq, clrs, sR_len, sR_pure, sC_eq, bC_eq, strR_len, strR_pure, h0, V.cl]) (by simp only [go_sem, seval, memEq, clrs, sR_len, sR_pure, sC_eq, bC_eq, strR_len, strR_pure, h0, swL_get, sw, swM, rnB] <;> rfl) (by simp only [go_sem, seval, memEq, clrs, sR_len, sR_pure, sC_eq, bC_eq, strR_len, strR_pure, h0, swL_get, sw, swM, rnB] <;> rfl) (by simp only [go_sem, seval, memEq, clrs, sR_len, sR_pure, sC_eq, bC_eq, strR_len, strR_pure, h0, swL_get, sw, swM, rnB] <;> rfl)) ?_
      exact Can.weak (Weak.lit (by simp only [go_sem, seval, memEq, clrs, sR_len, sR_pure, sC_eq, bC_eq, strR_len, strR_pure, h0, subM, leV, inns, innr, V.inn, us, true_or, or_true] <;> (rw [wrap64 (by simp at h17; omega) (by simp at h17; omega)]; (try simp))) (by simp only [go_sem, seval, memEq, clrs, sR_len, sR_pure, sC_eq, bC_eq, strR_len, strR_pure, h0, subM, leV, inns, innr, V.inn, us, true_or, or_true]) (by simp only [go_sem, seval, memEq, clrs, sR_len, sR_pure, sC_eq, bC_eq, strR_len, strR_pure, h0, subM, leV, inns, innr, V.inn, us, true_or, or_true] <;> (rw [strR_map (by simpa using h17)])))
    · refine AWp.exit ?_
      refine Exists.intro (()) ⟨?_, ?_⟩
      · trivial
      refine Can.trans (Can.frz 60 (by simp only [go_sem, seval, memEq, clrs, sR_len, sR_pure, sC_eq, bC_eq, strR_len, strR_pure, h0] <;> rfl) (by simp only [go_sem, seval, memEq, clrs, sR_len, sR_pure, sC_eq, bC_eq, strR_len, strR_pure, h0]) (by simp only [go_sem, seval, memEq, clrs, sR_len, sR_pure, sC_eq, bC_eq, strR_len, strR_pure, h0] <;> rfl) (by simp only [go_sem, seval, memEq, clrs, sR_len, sR_pure, sC_eq, bC_eq, strR_len, strR_pure, h0] <;> rfl)) ?_
      exact Can.weak (Weak.lit (by simp only [go_sem, seval, memEq, clrs, sR_len, sR_pure, sC_eq, bC_eq, strR_len, strR_pure, h0, subM, leV, inns, innr, V.inn, us, true_or, or_true] <;> (simp only [decide_eq_false_iff_not] at h17; (obtain rfl : k = P.1.length := (by omega)); rw [hA]; simp [List.take_of_length_le, leV, ler_refl, strR_len])) (by simp only [go_sem, seval, memEq, clrs, sR_len, sR_pure, sC_eq, bC_eq, strR_len, strR_pure, h0, subM, leV, inns, innr, V.inn, us, true_or, or_true]) (by simp only [go_sem, seval, memEq, clrs, sR_len, sR_pure, sC_eq, bC_eq, strR_len, strR_pure, h0, subM, leV, inns, innr, V.inn, us, true_or, or_true]))
  refine AWp.seq ?_
  refine AWp.rgn [call0 T] (by simp only [go_sem, seval, memEq, clrs, sR_len, sR_pure, sC_eq, bC_eq, strR_len, strR_pure, h0]; rfl) ?_ ?_
  · (first | trivial | (simp; done))
  refine AWp.seq ?_
  refine AWp.seq ?_
  refine AWp.rgn [callN [90] [] (pick_a b P.2 3 hb (by omega) (by omega))] (by simp only [go_sem, seval, memEq, clrs, sR_len, sR_pure, sC_eq, bC_eq, strR_len, strR_pure, h0]; rfl) ?_ ?_
  · (first | trivial | (simp; done))
  refine AWp.condB (by simp only [go_sem, seval, memEq, clrs, sR_len, sR_pure, sC_eq, bC_eq, strR_len, strR_pure, h0]; rfl) (by simp only [go_sem, seval, memEq, clrs, sR_len, sR_pure, sC_eq, bC_eq, strR_len, strR_pure, h0]) (fun h38 => ?_) (fun h38 => ?_)
  · refine AWp.seq ?_
    refine AWp.rgn [] (by simp only [go_sem, seval, memEq, clrs, sR_len, sR_pure, sC_eq, bC_eq, strR_len, strR_pure, h0]; rfl) ?_ ?_
    · (first | trivial | (simp; done))
    refine AWp.ret (And.intro (.inr rfl) ?_)
    exact Out.plain (by simp only [Tryz.results64]; rfl) (by simp only [resCs, resC, go_sem, seval, memEq, clrs, sR_len, sR_pure, sC_eq, bC_eq, strR_len, strR_pure, h0] <;> (split <;> rfl)) (by simp only [resV, go_sem, seval, memEq, clrs, sR_len, sR_pure, sC_eq, bC_eq, strR_len, strR_pure, h0] <;> (rw [hd, if_pos (.inl (by cases s with | nil => rfl | cons x r => rw [beq_iff_eq, List.length_cons] at h0; omega))])) (by simp only [go_sem, seval, memEq, clrs, sR_len, sR_pure, sC_eq, bC_eq, strR_len, strR_pure, h0])
  · simp at h38
theorem DrawBareAll_a (c : Str) : ACall En 64 [.sl false (byR c)] [] [.s (dBAl (c.take 2000))] [] := by
  cases h0 : (((lnText (dAl (c.take 2000))).length : Int) == 0) with
  | true => exact DrawBareAll_t c h0
  | false => exact DrawBareAll_f c h0
end
end Go.Proofs.YteihfmnmpdbkiaaGreatDoor
