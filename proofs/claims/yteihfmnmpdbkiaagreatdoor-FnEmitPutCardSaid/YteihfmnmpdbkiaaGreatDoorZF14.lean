/- The law FnEmitText: what it answers. Conditions: none. -/
import Derived.Test.YteihfmnmpdbkiaaGreatDoorK4
import Derived.Test.YteihfmnmpdbkiaaGreatDoorKz
import Derived.Test.YteihfmnmpdbkiaaGreatDoorKw
set_option linter.unusedVariables false
set_option linter.unusedSimpArgs false
namespace Go.Proofs.YteihfmnmpdbkiaaGreatDoor
set_option maxRecDepth 100000
set_option maxHeartbeats 8000000

theorem sgN_pre (l : List Sl) (i : Nat) : ∀ d, sgN l i <+: sgN l (i + d)
  | 0 => List.prefix_refl _
  | d + 1 => (sgN_pre l i d).trans (by rw [← Nat.add_assoc, sgN]; exact List.prefix_append _ _)
theorem sgK_pre (i : Int) (ts : List Tk) (fs : List Int) (k : Nat) : sgK i ts fs k <+: sgs i ts fs := by
  unfold sgK sgs
  conv => rhs; rw [← List.take_append_drop k (ts.zip fs), List.filterMap_append]
  exact List.prefix_append _ _
theorem pre_at {α : Type} {d x : α} {a l : List α} (h : a ++ [x] <+: l) : a.length < l.length ∧ l.getD a.length d = x := by
  obtain ⟨t, rfl⟩ := h
  simp [List.getD_eq_getElem?_getD]
theorem pre_app {α : Type} {a b c l : List α} (h : a ++ b <+: l) (h2 : c <+: b) : a ++ c <+: l := by
  obtain ⟨t, rfl⟩ := h2
  rw [← List.append_assoc] at h
  exact (List.prefix_append _ _).trans h
/-- the place of a line's word in the program's list -/
theorem seg_at {l : List Sl} (hp : pok l = true) {i k : Nat} (hi : i < l.length) (hk : k < (emF (l.getD i S0)).length) (h0 : 0 ≤ (emF (l.getD i S0)).getD k 0) :
    (sgN l i).length + (sgK i (tkE (l.getD i S0)) (emF (l.getD i S0)) k).length < (sgP l).length ∧ (sgP l).getD ((sgN l i).length + (sgK i (tkE (l.getD i S0)) (emF (l.getD i S0)) k).length) G0 = ((i : Int), ((tkE (l.getD i S0)).getD k T0k).col, (i : Int), (emF (l.getD i S0)).getD k 0) := by
  have hs := (pok_open hp).2.2 i hi
  have hl := tkE_len hs
  have h1 := sgK_pre i (tkE (l.getD i S0)) (emF (l.getD i S0)) (k + 1)
  rw [sgK_succ (by omega) hk, if_pos h0] at h1
  have h2 : sgN l i ++ sgS i (l.getD i S0) <+: sgP l := by
    have := sgN_pre l (i + 1) (l.length - (i + 1))
    rw [show i + 1 + (l.length - (i + 1)) = l.length by omega] at this
    unfold sgP; rw [if_pos hp]; exact this
  have h3 := pre_app h2 h1
  rw [← List.append_assoc] at h3
  have := pre_at (d := G0) h3
  rw [List.length_append] at this
  exact this
theorem map_emT {l : List Sl} {i : Nat} (h : i < l.length) : (l.map emT).getD i [] = emT (l.getD i S0) := by
  simp [List.getD_eq_getElem?_getD, List.getElem?_eq_getElem h]
theorem lawEmitText_a (b : Str) : ACall En 6 [.sl false (byR b)] [] [.b true] [] := by
  have DA := DrawEmitText_a b
  obtain ⟨la, sa⟩ := d6_p (b.take 2000) (p := 0) (by decide) (by decide)
  generalize (d6 (b.take 2000) 0).1 = l at *
  have hl : (emText l).length ≤ 2000 := by
    unfold emText; split
    · rename_i h; exact (emTs_le h).1
    · simp
  have hg := sgP_le l
  have hT : pok l = true → tLines (emText l) = l.map emT := fun h => tLines_emText h
  have hE : ∀ i, i < l.length → ACall En 16 [.ag (sC (l.getD i S0))] [] [.s (emT (l.getD i S0)), .sl false (inR (emF (l.getD i S0)))] [] := fun i h => iEmitLine_a (l.getD i S0) (allS_at sa h)
  have hO := sgok_P l
  refine acall_of_body (fn := Tryz.f6) [] Tryz.func6 rfl rfl (by simp) fun C => ?_
  rw [entry_eq]
  simp only [Tryz.ntmps6, List.length_cons, List.length_nil, Nat.reduceAdd, Nat.reduceSub, List.replicate_succ, List.replicate_zero, List.cons_append, List.nil_append, numL]
  refine AWp.seq ?_
  refine AWp.rgn [] (by simp only [go_sem, seval, inR_len, inR_pure, sR_len, sR_pure, sC_eq, strR_len, strR_pure, sgR_len, sgR_pure, cmpO, cmpB, intAg, intA, hO, List.length_map]; rfl) ?_ ?_
  · (first | trivial | (simp; done) | (simpa using h34) | (simp only [decide_eq_true_eq] at h77; exact ⟨by omega, by omega⟩) | (simp only [decide_eq_true_eq] at h57; first | exact ⟨⟨by omega, by omega⟩, by omega⟩ | exact ⟨by omega, by omega⟩))
  refine AWp.seq ?_
  refine AWp.seq ?_
  refine AWp.rgn [] (by simp only [go_sem, seval, inR_len, inR_pure, sR_len, sR_pure, sC_eq, strR_len, strR_pure, sgR_len, sgR_pure, cmpO, cmpB, intAg, intA, hO, List.length_map]; rfl) ?_ ?_
  · (first | trivial | (simp; done) | (simpa using h34) | (simp only [decide_eq_true_eq] at h77; exact ⟨by omega, by omega⟩) | (simp only [decide_eq_true_eq] at h57; first | exact ⟨⟨by omega, by omega⟩, by omega⟩ | exact ⟨by omega, by omega⟩))
  refine AWp.condB (by simp only [go_sem, seval, inR_len, inR_pure, sR_len, sR_pure, sC_eq, strR_len, strR_pure, sgR_len, sgR_pure, cmpO, cmpB, intAg, intA, hO, List.length_map]; rfl) (by simp only [go_sem, seval, inR_len, inR_pure, sR_len, sR_pure, sC_eq, strR_len, strR_pure, sgR_len, sgR_pure, cmpO, cmpB, intAg, intA, hO, List.length_map]) (fun h14 => ?_) (fun h14 => ?_)
  · refine AWp.seq ?_
    refine AWp.rgn [] (by simp only [go_sem, seval, inR_len, inR_pure, sR_len, sR_pure, sC_eq, strR_len, strR_pure, sgR_len, sgR_pure, cmpO, cmpB, intAg, intA, hO, List.length_map]; rfl) ?_ ?_
    · (first | trivial | (simp; done) | (simpa using h34) | (simp only [decide_eq_true_eq] at h77; exact ⟨by omega, by omega⟩) | (simp only [decide_eq_true_eq] at h57; first | exact ⟨⟨by omega, by omega⟩, by omega⟩ | exact ⟨by omega, by omega⟩))
    refine AWp.ret (And.intro (.inr rfl) ?_)
    exact Out.plain (by simp only [Tryz.results6]; rfl) (by simp only [resCs, resC, go_sem, seval, inR_len, inR_pure, sR_len, sR_pure, sC_eq, strR_len, strR_pure, sgR_len, sgR_pure, cmpO, cmpB, intAg, intA, hO, List.length_map] <;> (split <;> rfl)) (by simp only [resV, go_sem, seval, inR_len, inR_pure, sR_len, sR_pure, sC_eq, strR_len, strR_pure, sgR_len, sgR_pure, cmpO, cmpB, intAg, intA, hO, List.length_map] <;> (simp)) (by simp only [go_sem, seval, inR_len, inR_pure, sR_len, sR_pure, sC_eq, strR_len, strR_pure, sgR_len, sgR_pure, cmpO, cmpB, intAg, intA, hO, List.length_map])
  · refine AWp.skip ?_
    refine AWp.seq ?_
    refine AWp.rgn [call0 DA] (by simp only [go_sem, seval, inR_len, inR_pure, sR_len, sR_pure, sC_eq, strR_len, strR_pure, sgR_len, sgR_pure, cmpO, cmpB, intAg, intA, hO, List.length_map]; rfl) ?_ ?_
    · (first | trivial | (simp; done) | (simpa using h34) | (simp only [decide_eq_true_eq] at h77; exact ⟨by omega, by omega⟩) | (simp only [decide_eq_true_eq] at h57; first | exact ⟨⟨by omega, by omega⟩, by omega⟩ | exact ⟨by omega, by omega⟩))
    refine AWp.seq ?_
    refine AWp.rgn [call0 (iEmitText_a l sa (by omega))] (by simp only [go_sem, seval, inR_len, inR_pure, sR_len, sR_pure, sC_eq, strR_len, strR_pure, sgR_len, sgR_pure, cmpO, cmpB, intAg, intA, hO, List.length_map]; rfl) ?_ ?_
    · (first | trivial | (simp; done) | (simpa using h34) | (simp only [decide_eq_true_eq] at h77; exact ⟨by omega, by omega⟩) | (simp only [decide_eq_true_eq] at h57; first | exact ⟨⟨by omega, by omega⟩, by omega⟩ | exact ⟨by omega, by omega⟩))
    refine AWp.seq ?_
    refine AWp.rgn [call0 (iEmitSegs_a l sa (by omega))] (by simp only [go_sem, seval, inR_len, inR_pure, sR_len, sR_pure, sC_eq, strR_len, strR_pure, sgR_len, sgR_pure, cmpO, cmpB, intAg, intA, hO, List.length_map]; rfl) ?_ ?_
    · (first | trivial | (simp; done) | (simpa using h34) | (simp only [decide_eq_true_eq] at h77; exact ⟨by omega, by omega⟩) | (simp only [decide_eq_true_eq] at h57; first | exact ⟨⟨by omega, by omega⟩, by omega⟩ | exact ⟨by omega, by omega⟩))
    refine AWp.seq ?_
    refine AWp.seq ?_
    refine AWp.rgn [call0 (sEmitText_a l sa (by omega)), call0 (sEmitSegs_a l sa (by omega)), call0 (segsSame_a (sgP l) (sgP l) (by omega) (by omega))] (by simp only [go_sem, seval, inR_len, inR_pure, sR_len, sR_pure, sC_eq, strR_len, strR_pure, sgR_len, sgR_pure, cmpO, cmpB, intAg, intA, hO, List.length_map]; rfl) ?_ ?_
    · (first | trivial | (simp; done) | (simpa using h34) | (simp only [decide_eq_true_eq] at h77; exact ⟨by omega, by omega⟩) | (simp only [decide_eq_true_eq] at h57; first | exact ⟨⟨by omega, by omega⟩, by omega⟩ | exact ⟨by omega, by omega⟩))
    refine AWp.condB (by simp only [go_sem, seval, inR_len, inR_pure, sR_len, sR_pure, sC_eq, strR_len, strR_pure, sgR_len, sgR_pure, cmpO, cmpB, intAg, intA, hO, List.length_map]; rfl) (by simp only [go_sem, seval, inR_len, inR_pure, sR_len, sR_pure, sC_eq, strR_len, strR_pure, sgR_len, sgR_pure, cmpO, cmpB, intAg, intA, hO, List.length_map]) (fun h31 => ?_) (fun h31 => ?_)
    · cases h31
    · refine AWp.skip ?_
      refine AWp.seq ?_
      refine AWp.seq ?_
      refine AWp.rgn [call0 (sProgOk_a l sa (by omega))] (by simp only [go_sem, seval, inR_len, inR_pure, sR_len, sR_pure, sC_eq, strR_len, strR_pure, sgR_len, sgR_pure, cmpO, cmpB, intAg, intA, hO, List.length_map]; rfl) ?_ ?_
      · (first | trivial | (simp; done) | (simpa using h34) | (simp only [decide_eq_true_eq] at h77; exact ⟨by omega, by omega⟩) | (simp only [decide_eq_true_eq] at h57; first | exact ⟨⟨by omega, by omega⟩, by omega⟩ | exact ⟨by omega, by omega⟩))
      refine AWp.condB (by simp only [go_sem, seval, inR_len, inR_pure, sR_len, sR_pure, sC_eq, strR_len, strR_pure, sgR_len, sgR_pure, cmpO, cmpB, intAg, intA, hO, List.length_map]; rfl) (by simp only [go_sem, seval, inR_len, inR_pure, sR_len, sR_pure, sC_eq, strR_len, strR_pure, sgR_len, sgR_pure, cmpO, cmpB, intAg, intA, hO, List.length_map]) (fun h34 => ?_) (fun h34 => ?_)
      · refine AWp.seq ?_
        refine AWp.rgn [] (by simp only [go_sem, seval, inR_len, inR_pure, sR_len, sR_pure, sC_eq, strR_len, strR_pure, sgR_len, sgR_pure, cmpO, cmpB, intAg, intA, hO, List.length_map]; rfl) ?_ ?_
        · (first | trivial | (simp; done) | (simpa using h34) | (simp only [decide_eq_true_eq] at h77; exact ⟨by omega, by omega⟩) | (simp only [decide_eq_true_eq] at h57; first | exact ⟨⟨by omega, by omega⟩, by omega⟩ | exact ⟨by omega, by omega⟩))
        refine AWp.ret (And.intro (.inr rfl) ?_)
        exact Out.plain (by simp only [Tryz.results6]; rfl) (by simp only [resCs, resC, go_sem, seval, inR_len, inR_pure, sR_len, sR_pure, sC_eq, strR_len, strR_pure, sgR_len, sgR_pure, cmpO, cmpB, intAg, intA, hO, List.length_map] <;> (split <;> rfl)) (by simp only [resV, go_sem, seval, inR_len, inR_pure, sR_len, sR_pure, sC_eq, strR_len, strR_pure, sgR_len, sgR_pure, cmpO, cmpB, intAg, intA, hO, List.length_map] <;> (simp at h34; simp [emText, sgP, h34])) (by simp only [go_sem, seval, inR_len, inR_pure, sR_len, sR_pure, sC_eq, strR_len, strR_pure, sgR_len, sgR_pure, cmpO, cmpB, intAg, intA, hO, List.length_map])
      · refine AWp.skip ?_
        refine AWp.seq ?_
        refine AWp.rgn [callI (pok l = true) (fun h => hT h ▸ iTextLines_a (emText l) (by omega))] (by simp only [go_sem, seval, inR_len, inR_pure, sR_len, sR_pure, sC_eq, strR_len, strR_pure, sgR_len, sgR_pure, cmpO, cmpB, intAg, intA, hO, List.length_map]; rfl) ?_ ?_
        · (first | trivial | (simp; done) | (simpa using h34) | (simp only [decide_eq_true_eq] at h77; exact ⟨by omega, by omega⟩) | (simp only [decide_eq_true_eq] at h57; first | exact ⟨⟨by omega, by omega⟩, by omega⟩ | exact ⟨by omega, by omega⟩))
        refine AWp.seq ?_
        refine AWp.seq ?_
        refine AWp.rgn [call0 (segsOk_a (sgP l) (by omega))] (by simp only [go_sem, seval, inR_len, inR_pure, sR_len, sR_pure, sC_eq, strR_len, strR_pure, sgR_len, sgR_pure, cmpO, cmpB, intAg, intA, hO, List.length_map]; rfl) ?_ ?_
        · (first | trivial | (simp; done) | (simpa using h34) | (simp only [decide_eq_true_eq] at h77; exact ⟨by omega, by omega⟩) | (simp only [decide_eq_true_eq] at h57; first | exact ⟨⟨by omega, by omega⟩, by omega⟩ | exact ⟨by omega, by omega⟩))
        refine AWp.condB (by simp only [go_sem, seval, inR_len, inR_pure, sR_len, sR_pure, sC_eq, strR_len, strR_pure, sgR_len, sgR_pure, cmpO, cmpB, intAg, intA, hO, List.length_map]; rfl) (by simp only [go_sem, seval, inR_len, inR_pure, sR_len, sR_pure, sC_eq, strR_len, strR_pure, sgR_len, sgR_pure, cmpO, cmpB, intAg, intA, hO, List.length_map]) (fun h53 => ?_) (fun h53 => ?_)
        · simp at h53
        · refine AWp.skip ?_
          refine AWp.seq ?_
          refine AWp.rgn [] (by simp only [go_sem, seval, inR_len, inR_pure, sR_len, sR_pure, sC_eq, strR_len, strR_pure, sgR_len, sgR_pure, cmpO, cmpB, intAg, intA, hO, List.length_map]; rfl) ?_ ?_
          · (first | trivial | (simp; done) | (simpa using h34) | (simp only [decide_eq_true_eq] at h77; exact ⟨by omega, by omega⟩) | (simp only [decide_eq_true_eq] at h57; first | exact ⟨⟨by omega, by omega⟩, by omega⟩ | exact ⟨by omega, by omega⟩))
          refine AWp.seq ?_
          refine AWp.seq ?_
          refine AWp.rgn [] (by simp only [go_sem, seval, inR_len, inR_pure, sR_len, sR_pure, sC_eq, strR_len, strR_pure, sgR_len, sgR_pure, cmpO, cmpB, intAg, intA, hO, List.length_map]; rfl) ?_ ?_
          · (first | trivial | (simp; done) | (simpa using h34) | (simp only [decide_eq_true_eq] at h77; exact ⟨by omega, by omega⟩) | (simp only [decide_eq_true_eq] at h57; first | exact ⟨⟨by omega, by omega⟩, by omega⟩ | exact ⟨by omega, by omega⟩))
          refine AWp.block ?_
          refine AWp.loopK (fun i : Nat => ⟨[.no, .no, .no, .sl false (sR l), .no, .sl false (sgR (sgP l)), .sl false (strR (l.map emT)), .i .i64 (sgN l i).length, .i .i64 i, .no, .no, .no, .no, .no, .no, .no, .no, .no, .no, .no, .no, .no, .no, .no, .no, .no, .no, .no, .no, .no, .no, .no, .no, .no, .no, .no, .no, .no, .no, .no, .no, .no, .no, .no, .no, .no, .no, .no, .no, .no, .no, .no, .no, .no, .no, .no, .no, .no, .no, .no, .no, .no, .no, .no, .no, .no, .no, .no, .no, .no, .no, .no, .no, .no, .no, .no, .no, .no, .no, .no, .no, .no, .no, .no, .no, .no, .no, .no, .no, .no, .no, .no, .no, .no, .no, .no, .no, .no, .no, .no, .no, .no, .no, .no, .no, .no, .no, .no, .no, .no, .no, .no, .no, .no, .no, .no, .no, .no, .no], memOf [], us []⟩) (fun i : Nat => i ≤ l.length ∧ pok l = true) (fun i : Nat => l.length - i) (0) ?_ ?_ (fun i hI => ?_)
          · exact ⟨Nat.zero_le _, by simpa using h34⟩
          · exact Can.weak (Weak.lit (by simp only [go_sem, seval, inR_len, inR_pure, sR_len, sR_pure, sC_eq, strR_len, strR_pure, sgR_len, sgR_pure, cmpO, cmpB, intAg, intA, hO, List.length_map, subM, leV, inns, innr, V.inn, us, true_or, or_true] <;> (rfl)) (by simp only [go_sem, seval, inR_len, inR_pure, sR_len, sR_pure, sC_eq, strR_len, strR_pure, sgR_len, sgR_pure, cmpO, cmpB, intAg, intA, hO, List.length_map, subM, leV, inns, innr, V.inn, us, true_or, or_true]) (by simp only [go_sem, seval, inR_len, inR_pure, sR_len, sR_pure, sC_eq, strR_len, strR_pure, sgR_len, sgR_pure, cmpO, cmpB, intAg, intA, hO, List.length_map, subM, leV, inns, innr, V.inn, us, true_or, or_true]))
          refine AWp.seq ?_
          refine AWp.seq ?_
          refine AWp.rgn [] (by simp only [go_sem, seval, inR_len, inR_pure, sR_len, sR_pure, sC_eq, strR_len, strR_pure, sgR_len, sgR_pure, cmpO, cmpB, intAg, intA, hO, List.length_map]; rfl) ?_ ?_
          · (first | trivial | (simp; done) | (simpa using h34) | (simp only [decide_eq_true_eq] at h77; exact ⟨by omega, by omega⟩) | (simp only [decide_eq_true_eq] at h57; first | exact ⟨⟨by omega, by omega⟩, by omega⟩ | exact ⟨by omega, by omega⟩))
          refine AWp.condB (by simp only [go_sem, seval, inR_len, inR_pure, sR_len, sR_pure, sC_eq, strR_len, strR_pure, sgR_len, sgR_pure, cmpO, cmpB, intAg, intA, hO, List.length_map]; rfl) (by simp only [go_sem, seval, inR_len, inR_pure, sR_len, sR_pure, sC_eq, strR_len, strR_pure, sgR_len, sgR_pure, cmpO, cmpB, intAg, intA, hO, List.length_map]) (fun h57 => ?_) (fun h57 => ?_)
          · refine AWp.skip ?_
            refine AWp.seq ?_
            refine AWp.block ?_
            refine AWp.seq ?_
            refine AWp.rgn [callI (i < l.length) (hE i)] (by simp only [go_sem, seval, inR_len, inR_pure, sR_len, sR_pure, sC_eq, strR_len, strR_pure, sgR_len, sgR_pure, cmpO, cmpB, intAg, intA, hO, List.length_map, sR_get (show i < l.length by simpa using h57), sC_eq]; rfl) ?_ ?_
            · (first | trivial | (simp; done) | (simpa using h34) | (simp only [decide_eq_true_eq] at h77; exact ⟨by omega, by omega⟩) | (simp only [decide_eq_true_eq] at h57; first | exact ⟨⟨by omega, by omega⟩, by omega⟩ | exact ⟨by omega, by omega⟩))
            refine AWp.seq ?_
            refine AWp.seq ?_
            refine AWp.rgn [] (by simp only [go_sem, seval, inR_len, inR_pure, sR_len, sR_pure, sC_eq, strR_len, strR_pure, sgR_len, sgR_pure, cmpO, cmpB, intAg, intA, hO, List.length_map, strR_get (show i < (l.map emT).length by simpa using h57), map_emT (show i < l.length by simpa using h57)]; rfl) ?_ ?_
            · (first | trivial | (simp; done) | (simpa using h34) | (simp only [decide_eq_true_eq] at h77; exact ⟨by omega, by omega⟩) | (simp only [decide_eq_true_eq] at h57; first | exact ⟨⟨by omega, by omega⟩, by omega⟩ | exact ⟨by omega, by omega⟩))
            refine AWp.condB (by simp only [go_sem, seval, inR_len, inR_pure, sR_len, sR_pure, sC_eq, strR_len, strR_pure, sgR_len, sgR_pure, cmpO, cmpB, intAg, intA, hO, List.length_map]; rfl) (by simp only [go_sem, seval, inR_len, inR_pure, sR_len, sR_pure, sC_eq, strR_len, strR_pure, sgR_len, sgR_pure, cmpO, cmpB, intAg, intA, hO, List.length_map]) (fun h73 => ?_) (fun h73 => ?_)
            · simp at h73
            · refine AWp.skip ?_
              refine AWp.seq ?_
              refine AWp.rgn [] (by simp only [go_sem, seval, inR_len, inR_pure, sR_len, sR_pure, sC_eq, strR_len, strR_pure, sgR_len, sgR_pure, cmpO, cmpB, intAg, intA, hO, List.length_map]; rfl) ?_ ?_
              · (first | trivial | (simp; done) | (simpa using h34) | (simp only [decide_eq_true_eq] at h77; exact ⟨by omega, by omega⟩) | (simp only [decide_eq_true_eq] at h57; first | exact ⟨⟨by omega, by omega⟩, by omega⟩ | exact ⟨by omega, by omega⟩))
              refine AWp.block ?_
              refine AWp.loopK (fun k : Nat => ⟨[.no, .no, .no, .sl false (sR l), .no, .sl false (sgR (sgP l)), .sl false (strR (l.map emT)), .i .i64 (((sgN l i).length + (sgK i (tkE (l.getD i S0)) (emF (l.getD i S0)) k).length : Nat) : Int), .i .i64 i, .no, .sl false (inR (emF (l.getD i S0))), .i .i64 k, .no, .no, .no, .no, .no, .no, .no, .no, .no, .no, .no, .no, .no, .no, .no, .no, .no, .no, .no, .no, .no, .no, .no, .no, .no, .no, .no, .no, .no, .no, .no, .no, .no, .no, .no, .no, .no, .no, .no, .no, .no, .no, .no, .no, .no, .no, .no, .no, .no, .no, .no, .no, .no, .no, .no, .no, .no, .no, .no, .no, .no, .no, .no, .no, .no, .no, .no, .no, .no, .no, .no, .no, .no, .no, .no, .no, .no, .no, .no, .no, .no, .no, .no, .no, .no, .no, .no, .no, .no, .no, .no, .no, .no, .no, .no, .no, .no, .no, .no, .no, .no, .no, .no, .no, .no, .no, .no], memOf [], us []⟩) (fun k : Nat => k ≤ (emF (l.getD i S0)).length ∧ i ≤ l.length ∧ i < l.length ∧ pok l = true) (fun k : Nat => (emF (l.getD i S0)).length - k) (0) ?_ ?_ (fun k hI => ?_)
              · simp only [decide_eq_true_eq] at h57; exact ⟨Nat.zero_le _, hI.1, by omega, hI.2⟩
              · exact Can.weak (Weak.lit (by simp only [go_sem, seval, inR_len, inR_pure, sR_len, sR_pure, sC_eq, strR_len, strR_pure, sgR_len, sgR_pure, cmpO, cmpB, intAg, intA, hO, List.length_map, subM, leV, inns, innr, V.inn, us, true_or, or_true] <;> (simp [sgK_zero])) (by simp only [go_sem, seval, inR_len, inR_pure, sR_len, sR_pure, sC_eq, strR_len, strR_pure, sgR_len, sgR_pure, cmpO, cmpB, intAg, intA, hO, List.length_map, subM, leV, inns, innr, V.inn, us, true_or, or_true]) (by simp only [go_sem, seval, inR_len, inR_pure, sR_len, sR_pure, sC_eq, strR_len, strR_pure, sgR_len, sgR_pure, cmpO, cmpB, intAg, intA, hO, List.length_map, subM, leV, inns, innr, V.inn, us, true_or, or_true]))
              refine AWp.seq ?_
              refine AWp.seq ?_
              refine AWp.rgn [] (by simp only [go_sem, seval, inR_len, inR_pure, sR_len, sR_pure, sC_eq, strR_len, strR_pure, sgR_len, sgR_pure, cmpO, cmpB, intAg, intA, hO, List.length_map]; rfl) ?_ ?_
              · (first | trivial | (simp; done) | (simpa using h34) | (simp only [decide_eq_true_eq] at h77; exact ⟨by omega, by omega⟩) | (simp only [decide_eq_true_eq] at h57; first | exact ⟨⟨by omega, by omega⟩, by omega⟩ | exact ⟨by omega, by omega⟩))
              refine AWp.condB (by simp only [go_sem, seval, inR_len, inR_pure, sR_len, sR_pure, sC_eq, strR_len, strR_pure, sgR_len, sgR_pure, cmpO, cmpB, intAg, intA, hO, List.length_map]; rfl) (by simp only [go_sem, seval, inR_len, inR_pure, sR_len, sR_pure, sC_eq, strR_len, strR_pure, sgR_len, sgR_pure, cmpO, cmpB, intAg, intA, hO, List.length_map]) (fun h77 => ?_) (fun h77 => ?_)
              · refine AWp.skip ?_
                refine AWp.seq ?_
                refine AWp.block ?_
                refine AWp.seq ?_
                refine AWp.seq ?_
                refine AWp.rgn [] (by simp only [go_sem, seval, inR_len, inR_pure, sR_len, sR_pure, sC_eq, strR_len, strR_pure, sgR_len, sgR_pure, cmpO, cmpB, intAg, intA, hO, List.length_map, inR_get (show k < (emF (l.getD i S0)).length by simpa using h77)]; rfl) ?_ ?_
                · (first | trivial | (simp; done) | (simpa using h34) | (simp only [decide_eq_true_eq] at h77; exact ⟨by omega, by omega⟩) | (simp only [decide_eq_true_eq] at h57; first | exact ⟨⟨by omega, by omega⟩, by omega⟩ | exact ⟨by omega, by omega⟩))
                refine AWp.condB (by simp only [go_sem, seval, inR_len, inR_pure, sR_len, sR_pure, sC_eq, strR_len, strR_pure, sgR_len, sgR_pure, cmpO, cmpB, intAg, intA, hO, List.length_map]; rfl) (by simp only [go_sem, seval, inR_len, inR_pure, sR_len, sR_pure, sC_eq, strR_len, strR_pure, sgR_len, sgR_pure, cmpO, cmpB, intAg, intA, hO, List.length_map]) (fun h84 => ?_) (fun h84 => ?_)
                · refine AWp.exit ?_
                  refine AWp.rgn [] (by simp only [go_sem, seval, inR_len, inR_pure, sR_len, sR_pure, sC_eq, strR_len, strR_pure, sgR_len, sgR_pure, cmpO, cmpB, intAg, intA, hO, List.length_map]; rfl) ?_ ?_
                  · (first | trivial | (simp; done) | (simpa using h34) | (simp only [decide_eq_true_eq] at h77; exact ⟨by omega, by omega⟩) | (simp only [decide_eq_true_eq] at h57; first | exact ⟨⟨by omega, by omega⟩, by omega⟩ | exact ⟨by omega, by omega⟩))
                  refine Exists.intro (k + 1) ⟨?_, ?_, ?_⟩
                  · simp only [decide_eq_true_eq] at h77; exact ⟨by omega, hI.2⟩
                  · simp only [decide_eq_true_eq] at h77; omega
                  exact Can.weak (Weak.lit (by simp only [go_sem, seval, inR_len, inR_pure, sR_len, sR_pure, sC_eq, strR_len, strR_pure, sgR_len, sgR_pure, cmpO, cmpB, intAg, intA, hO, List.length_map, subM, leV, inns, innr, V.inn, us, true_or, or_true] <;> ((have ht := tkE_len ((pok_open hI.2.2.2).2.2 i hI.2.2.1)); (have he := emF_76 ((pok_open hI.2.2.2).2.2 i hI.2.2.1)); (simp only [decide_eq_true_eq] at h77); rw [sgK_succ (by omega) (by omega), if_neg (by have := of_decide_eq_true h84; omega), List.append_nil, wrap64 (by omega) (by omega)]; exact ⟨rfl, rfl⟩)) (by simp only [go_sem, seval, inR_len, inR_pure, sR_len, sR_pure, sC_eq, strR_len, strR_pure, sgR_len, sgR_pure, cmpO, cmpB, intAg, intA, hO, List.length_map, subM, leV, inns, innr, V.inn, us, true_or, or_true]) (by simp only [go_sem, seval, inR_len, inR_pure, sR_len, sR_pure, sC_eq, strR_len, strR_pure, sgR_len, sgR_pure, cmpO, cmpB, intAg, intA, hO, List.length_map, subM, leV, inns, innr, V.inn, us, true_or, or_true]))
                · refine AWp.skip ?_
                  refine AWp.seq ?_
                  refine AWp.seq ?_
                  refine AWp.rgnDS [111] [cmpO En .neq 45 2 eqPos] enM (by simp only [go_sem, seval, inR_len, inR_pure, sR_len, sR_pure, sC_eq, strR_len, strR_pure, sgR_len, sgR_pure, cmpO, cmpB, intAg, intA, hO, List.length_map, inR_get (show k < (emF (l.getD i S0)).length by simpa using h77), sgR_at (seg_at hI.2.2.2 hI.2.2.1 (show k < (emF (l.getD i S0)).length by simpa using h77) (by simpa using h84)).1, (seg_at hI.2.2.2 hI.2.2.1 (show k < (emF (l.getD i S0)).length by simpa using h77) (by simpa using h84)).2]; rfl) (by rfl) ?_ ?_
                  · (have q := (seg_at hI.2.2.2 hI.2.2.1 (show k < (emF (l.getD i S0)).length by simpa using h77) (by simpa using h84)).1); generalize (sgN l i).length + (sgK i (tkE (l.getD i S0)) (emF (l.getD i S0)) k).length = M at q ⊢; simp only [decide_eq_true_eq] at h77; generalize emF (l.getD i S0) = F at h77 ⊢; (have hd : decide ((M : Int) ≥ (sgP l).length) = false := decide_eq_false (by omega)); simp only [hd]; simp [fsOk]; omega
                  refine AWp.condB (by simp only [go_sem, seval, inR_len, inR_pure, sR_len, sR_pure, sC_eq, strR_len, strR_pure, sgR_len, sgR_pure, cmpO, cmpB, intAg, intA, hO, List.length_map]; rfl) (by simp only [go_sem, seval, inR_len, inR_pure, sR_len, sR_pure, sC_eq, strR_len, strR_pure, sgR_len, sgR_pure, cmpO, cmpB, intAg, intA, hO, List.length_map]) (fun h112 => ?_) (fun h112 => ?_)
                  · have q := (seg_at hI.2.2.2 hI.2.2.1 (show k < (emF (l.getD i S0)).length by simpa using h77) (by simpa using h84)).1; rw [decide_eq_false (p := (((sgN l i).length + (sgK i (tkE (l.getD i S0)) (emF (l.getD i S0)) k).length : Nat) : Int) ≥ (sgP l).length) (by omega)] at h112; simp at h112
                  · refine AWp.skip ?_
                    refine AWp.rgn [] (by simp only [go_sem, seval, inR_len, inR_pure, sR_len, sR_pure, sC_eq, strR_len, strR_pure, sgR_len, sgR_pure, cmpO, cmpB, intAg, intA, hO, List.length_map]; rfl) ?_ ?_
                    · (first | trivial | (simp; done) | (simpa using h34) | (simp only [decide_eq_true_eq] at h77; exact ⟨by omega, by omega⟩) | (simp only [decide_eq_true_eq] at h57; first | exact ⟨⟨by omega, by omega⟩, by omega⟩ | exact ⟨by omega, by omega⟩))
                    refine AWp.rgn [] (by simp only [go_sem, seval, inR_len, inR_pure, sR_len, sR_pure, sC_eq, strR_len, strR_pure, sgR_len, sgR_pure, cmpO, cmpB, intAg, intA, hO, List.length_map]; rfl) ?_ ?_
                    · (first | trivial | (simp; done) | (simpa using h34) | (simp only [decide_eq_true_eq] at h77; exact ⟨by omega, by omega⟩) | (simp only [decide_eq_true_eq] at h57; first | exact ⟨⟨by omega, by omega⟩, by omega⟩ | exact ⟨by omega, by omega⟩))
                    refine Exists.intro (k + 1) ⟨?_, ?_, ?_⟩
                    · simp only [decide_eq_true_eq] at h77; exact ⟨by omega, hI.2⟩
                    · simp only [decide_eq_true_eq] at h77; omega
                    exact Can.weak (Weak.lit (by simp only [go_sem, seval, inR_len, inR_pure, sR_len, sR_pure, sC_eq, strR_len, strR_pure, sgR_len, sgR_pure, cmpO, cmpB, intAg, intA, hO, List.length_map, subM, leV, inns, innr, V.inn, us, true_or, or_true] <;> ((have q := (seg_at hI.2.2.2 hI.2.2.1 (show k < (emF (l.getD i S0)).length by simpa using h77) (by simpa using h84)).1); (have ht := tkE_len ((pok_open hI.2.2.2).2.2 i hI.2.2.1)); (have he := emF_76 ((pok_open hI.2.2.2).2.2 i hI.2.2.1)); (simp only [decide_eq_true_eq] at h77); rw [sgK_succ (by omega) (by omega), if_pos (by have := of_decide_eq_false h84; omega), List.length_append, wrap64 (by omega) (by omega), wrap64 (by omega) (by omega)]; refine ⟨?_, rfl⟩; simp only [List.length_singleton]; omega)) (by simp only [go_sem, seval, inR_len, inR_pure, sR_len, sR_pure, sC_eq, strR_len, strR_pure, sgR_len, sgR_pure, cmpO, cmpB, intAg, intA, hO, List.length_map, subM, leV, inns, innr, V.inn, us, true_or, or_true]) (by simp only [go_sem, seval, inR_len, inR_pure, sR_len, sR_pure, sC_eq, strR_len, strR_pure, sgR_len, sgR_pure, cmpO, cmpB, intAg, intA, hO, List.length_map, subM, leV, inns, innr, V.inn, us, true_or, or_true]))
              · refine AWp.exit ?_
                refine AWp.rgn [] (by simp only [go_sem, seval, inR_len, inR_pure, sR_len, sR_pure, sC_eq, strR_len, strR_pure, sgR_len, sgR_pure, cmpO, cmpB, intAg, intA, hO, List.length_map]; rfl) ?_ ?_
                · (first | trivial | (simp; done) | (simpa using h34) | (simp only [decide_eq_true_eq] at h77; exact ⟨by omega, by omega⟩) | (simp only [decide_eq_true_eq] at h57; first | exact ⟨⟨by omega, by omega⟩, by omega⟩ | exact ⟨by omega, by omega⟩))
                refine Exists.intro (i + 1) ⟨?_, ?_, ?_⟩
                · simp only [decide_eq_true_eq] at h57; exact ⟨by omega, hI.2.2.2⟩
                · simp only [decide_eq_true_eq] at h57; omega
                exact Can.weak (Weak.lit (by simp only [go_sem, seval, inR_len, inR_pure, sR_len, sR_pure, sC_eq, strR_len, strR_pure, sgR_len, sgR_pure, cmpO, cmpB, intAg, intA, hO, List.length_map, subM, leV, inns, innr, V.inn, us, true_or, or_true] <;> (rw [sgK_end (.inr (by simp only [decide_eq_false_iff_not] at h77; omega)), sgN, List.length_append, wrap64 (by omega) (by omega)]; exact ⟨rfl, rfl⟩)) (by simp only [go_sem, seval, inR_len, inR_pure, sR_len, sR_pure, sC_eq, strR_len, strR_pure, sgR_len, sgR_pure, cmpO, cmpB, intAg, intA, hO, List.length_map, subM, leV, inns, innr, V.inn, us, true_or, or_true]) (by simp only [go_sem, seval, inR_len, inR_pure, sR_len, sR_pure, sC_eq, strR_len, strR_pure, sgR_len, sgR_pure, cmpO, cmpB, intAg, intA, hO, List.length_map, subM, leV, inns, innr, V.inn, us, true_or, or_true]))
          · refine AWp.exit ?_
            refine AWp.seq ?_
            refine AWp.rgn [] (by simp only [go_sem, seval, inR_len, inR_pure, sR_len, sR_pure, sC_eq, strR_len, strR_pure, sgR_len, sgR_pure, cmpO, cmpB, intAg, intA, hO, List.length_map]; rfl) ?_ ?_
            · (first | trivial | (simp; done) | (simpa using h34) | (simp only [decide_eq_true_eq] at h77; exact ⟨by omega, by omega⟩) | (simp only [decide_eq_true_eq] at h57; first | exact ⟨⟨by omega, by omega⟩, by omega⟩ | exact ⟨by omega, by omega⟩))
            refine AWp.ret (And.intro (.inr rfl) ?_)
            exact Out.plain (by simp only [Tryz.results6]; rfl) (by simp only [resCs, resC, go_sem, seval, inR_len, inR_pure, sR_len, sR_pure, sC_eq, strR_len, strR_pure, sgR_len, sgR_pure, cmpO, cmpB, intAg, intA, hO, List.length_map] <;> (split <;> rfl)) (by simp only [resV, go_sem, seval, inR_len, inR_pure, sR_len, sR_pure, sC_eq, strR_len, strR_pure, sgR_len, sgR_pure, cmpO, cmpB, intAg, intA, hO, List.length_map] <;> (simp only [decide_eq_false_iff_not] at h57; (obtain rfl : i = l.length := (by omega)); unfold sgP; rw [if_pos hI.2]; simp)) (by simp only [go_sem, seval, inR_len, inR_pure, sR_len, sR_pure, sC_eq, strR_len, strR_pure, sgR_len, sgR_pure, cmpO, cmpB, intAg, intA, hO, List.length_map])
end Go.Proofs.YteihfmnmpdbkiaaGreatDoor
