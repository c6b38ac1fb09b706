/- The law FnBareText: what it answers. Conditions: none. -/
import Derived.Test.YteihfmnmpdbkiaaGreatDoorK8
set_option linter.unusedVariables false
set_option linter.unusedSimpArgs false
namespace Go.Proofs.YteihfmnmpdbkiaaGreatDoor
set_option maxRecDepth 100000
set_option maxHeartbeats 8000000

theorem rdl_sm1 (w : Str) : smb ((bareR w).getD B0) = true := by
  obtain ⟨w1, w2⟩ := smW_wds w
  cases h : bareR w with
  | none => exact smb_B0
  | some b =>
    have : b = prdB (wdsOf w) := by
      by_cases hc : (tokLine w).isSome = true ∧ bok (prdB (wdsOf w)) = true ∧ btxt (prdB (wdsOf w)) = w
      · rw [bareR_some hc.1 hc.2.1 hc.2.2] at h; exact (Option.some.inj h).symm
      · rw [bareR_none hc] at h; cases h
    rw [this]; exact prdB_sm w1
theorem bsameR (a : Bl) : bsame a a = true := (bsame_iff a a).2 rfl
theorem rd_txt {x : Bl} (h : bok x = true) : bareR (btxt x) = some x := bareR_iff.2 ⟨h, by unfold btxt btext; rw [if_pos h]⟩
theorem rd_back (t : Str) : match bareR t with | none => True | some y => bok y = true ∧ btxt y = t := by
  cases h : bareR t with
  | none => trivial
  | some y => exact ⟨(bareR_iff.1 h).1, by unfold btxt; rw [if_pos (bareR_iff.1 h).1]; exact (bareR_iff.1 h).2⟩
theorem lawBareText_a (b c : Str) : ACall En 10 [.sl false (byR b), .sl false (byR c)] [] [.b true] [] := by
  have DT := DrawBareText_a b
  have DR := DrawBareRead_a c
  have DS := DrawBareSame_a b
  have x1 := (d7_p (b.take 2000) (p := 0) (by decide) (by decide)).2.2
  obtain ⟨s1, s2⟩ := dBS_sm b
  have l1 := dBRd_len (c.take 2000)
  generalize dBRd (c.take 2000) = t at *
  generalize (d7 (b.take 2000) 0).1 = x at *
  generalize (dBS b).1 = u at *
  generalize (dBS b).2 = v at *
  have k1 := btxt_le x
  have y1 : smb ((bareR (btxt x)).getD B0) = true := rdl_sm1 _
  have z1 : smb ((bareR t).getD B0) = true := rdl_sm1 _
  refine acall_of_body (fn := Tryz.f10) [] Tryz.func10 rfl rfl (by simp) fun C => ?_
  rw [entry_eq]
  simp only [Tryz.ntmps10, List.length_cons, List.length_nil, Nat.reduceAdd, Nat.reduceSub, List.replicate_succ, List.replicate_zero, List.cons_append, List.nil_append, numL]
  refine AWp.seq ?_
  refine AWp.rgn [] (by simp only [go_sem, seval, bC_eq, bC_pure2]; rfl) ?_ ?_
  · (first | trivial | (simp; done) | exact fun h => ⟨h, fun h2 => by rw [h, h2]; rfl⟩ | exact ⟨fun h => ⟨h, fun h2 => by rw [h, h2]; rfl⟩, fun h => by rw [h]; rfl⟩)
  refine AWp.seq ?_
  refine AWp.seq ?_
  refine AWp.rgn [] (by simp only [go_sem, seval, bC_eq, bC_pure2]; rfl) ?_ ?_
  · (first | trivial | (simp; done) | exact fun h => ⟨h, fun h2 => by rw [h, h2]; rfl⟩ | exact ⟨fun h => ⟨h, fun h2 => by rw [h, h2]; rfl⟩, fun h => by rw [h]; rfl⟩)
  refine AWp.condB (by simp only [go_sem, seval, bC_eq, bC_pure2]; rfl) (by simp only [go_sem, seval, bC_eq, bC_pure2]) (fun h23 => ?_) (fun h23 => ?_)
  · refine AWp.seq ?_
    refine AWp.rgn [] (by simp only [go_sem, seval, bC_eq, bC_pure2]; rfl) ?_ ?_
    · (first | trivial | (simp; done) | exact fun h => ⟨h, fun h2 => by rw [h, h2]; rfl⟩ | exact ⟨fun h => ⟨h, fun h2 => by rw [h, h2]; rfl⟩, fun h => by rw [h]; rfl⟩)
    refine AWp.ret (And.intro (.inr rfl) ?_)
    exact Out.plain (by simp only [Tryz.results10]; rfl) (by simp only [resCs, resC, go_sem, seval, bC_eq, bC_pure2] <;> (split <;> rfl)) (by simp only [resV, go_sem, seval, bC_eq, bC_pure2] <;> (rfl)) (by simp only [go_sem, seval, bC_eq, bC_pure2])
  · refine AWp.skip ?_
    refine AWp.seq ?_
    refine AWp.rgn [call0 DT] (by simp only [go_sem, seval, bC_eq, bC_pure2]; rfl) ?_ ?_
    · (first | trivial | (simp; done) | exact fun h => ⟨h, fun h2 => by rw [h, h2]; rfl⟩ | exact ⟨fun h => ⟨h, fun h2 => by rw [h, h2]; rfl⟩, fun h => by rw [h]; rfl⟩)
    refine AWp.seq ?_
    refine AWp.rgn [call0 (iBareText_a x x1)] (by simp only [go_sem, seval, bC_eq, bC_pure2]; rfl) ?_ ?_
    · (first | trivial | (simp; done) | exact fun h => ⟨h, fun h2 => by rw [h, h2]; rfl⟩ | exact ⟨fun h => ⟨h, fun h2 => by rw [h, h2]; rfl⟩, fun h => by rw [h]; rfl⟩)
    refine AWp.seq ?_
    refine AWp.rgn [call0 (iBareRead_a (btxt x) (by omega))] (by simp only [go_sem, seval, bC_eq, bC_pure2]; rfl) ?_ ?_
    · (first | trivial | (simp; done) | exact fun h => ⟨h, fun h2 => by rw [h, h2]; rfl⟩ | exact ⟨fun h => ⟨h, fun h2 => by rw [h, h2]; rfl⟩, fun h => by rw [h]; rfl⟩)
    refine AWp.seq ?_
    refine AWp.seq ?_
    refine AWp.rgnD [call0 (sBareTxt_a x x1), call0 (iBareOk_a x x1), call0 (sBareOk_a x x1), call0 (sBareOk_a x x1), call0 (iBareSame_a ((bareR (btxt x)).getD B0) x y1 x1)] enM (by simp only [go_sem, seval, bC_eq, bC_pure2]; rfl) (by rfl) ?_ ?_
    · (first | trivial | (simp; done) | exact fun h => ⟨h, fun h2 => by rw [h, h2]; rfl⟩ | exact ⟨fun h => ⟨h, fun h2 => by rw [h, h2]; rfl⟩, fun h => by rw [h]; rfl⟩)
    refine AWp.condB (by simp only [go_sem, seval, bC_eq, bC_pure2]; rfl) (by simp only [go_sem, seval, bC_eq, bC_pure2]) (fun h57 => ?_) (fun h57 => ?_)
    · refine AWp.seq ?_
      refine AWp.rgn [] (by simp only [go_sem, seval, bC_eq, bC_pure2]; rfl) ?_ ?_
      · (first | trivial | (simp; done) | exact fun h => ⟨h, fun h2 => by rw [h, h2]; rfl⟩ | exact ⟨fun h => ⟨h, fun h2 => by rw [h, h2]; rfl⟩, fun h => by rw [h]; rfl⟩)
      refine AWp.ret (And.intro (.inr rfl) ?_)
      exact Out.plain (by simp only [Tryz.results10]; rfl) (by simp only [resCs, resC, go_sem, seval, bC_eq, bC_pure2] <;> (split <;> rfl)) (by simp only [resV, go_sem, seval, bC_eq, bC_pure2] <;> (exfalso; simp only [Bool.and_eq_true] at h57; have e := rd_txt h57.1; rw [e] at h57; simp [bsameR] at h57)) (by simp only [go_sem, seval, bC_eq, bC_pure2])
    · refine AWp.skip ?_
      refine AWp.seq ?_
      refine AWp.rgn [call0 DR] (by simp only [go_sem, seval, bC_eq, bC_pure2]; rfl) ?_ ?_
      · (first | trivial | (simp; done) | exact fun h => ⟨h, fun h2 => by rw [h, h2]; rfl⟩ | exact ⟨fun h => ⟨h, fun h2 => by rw [h, h2]; rfl⟩, fun h => by rw [h]; rfl⟩)
      refine AWp.seq ?_
      refine AWp.rgn [call0 (iBareRead_a t (by omega))] (by simp only [go_sem, seval, bC_eq, bC_pure2]; rfl) ?_ ?_
      · (first | trivial | (simp; done) | exact fun h => ⟨h, fun h2 => by rw [h, h2]; rfl⟩ | exact ⟨fun h => ⟨h, fun h2 => by rw [h, h2]; rfl⟩, fun h => by rw [h]; rfl⟩)
      refine AWp.seq ?_
      refine AWp.rgn [call0 (sBareRead_a t (by omega))] (by simp only [go_sem, seval, bC_eq, bC_pure2]; rfl) ?_ ?_
      · (first | trivial | (simp; done) | exact fun h => ⟨h, fun h2 => by rw [h, h2]; rfl⟩ | exact ⟨fun h => ⟨h, fun h2 => by rw [h, h2]; rfl⟩, fun h => by rw [h]; rfl⟩)
      refine AWp.seq ?_
      refine AWp.rgn [call0 DS] (by simp only [go_sem, seval, bC_eq, bC_pure2]; rfl) ?_ ?_
      · (first | trivial | (simp; done) | exact fun h => ⟨h, fun h2 => by rw [h, h2]; rfl⟩ | exact ⟨fun h => ⟨h, fun h2 => by rw [h, h2]; rfl⟩, fun h => by rw [h]; rfl⟩)
      refine AWp.seq ?_
      refine AWp.rgnD [call0 (iBareText_a ((bareR t).getD B0) z1), call0 (iBareOk_a ((bareR t).getD B0) z1), call0 (iBareSame_a u v s1 s2), call0 (sBareSame_a u v s1 s2), call0 (iBareSame_a u u s1 s1)] enM (by simp only [go_sem, seval, bC_eq, bC_pure2]; rfl) (by rfl) ?_ ?_
      · (first | trivial | (simp; done) | exact fun h => ⟨h, fun h2 => by rw [h, h2]; rfl⟩ | exact ⟨fun h => ⟨h, fun h2 => by rw [h, h2]; rfl⟩, fun h => by rw [h]; rfl⟩)
      refine AWp.ret (And.intro (.inr rfl) ?_)
      exact Out.plain (by simp only [Tryz.results10]; rfl) (by simp only [resCs, resC, go_sem, seval, bC_eq, bC_pure2] <;> (split <;> rfl)) (by simp only [resV, go_sem, seval, bC_eq, bC_pure2] <;> (have e := rd_back t; cases h : bareR t with | none => simp [bsameR] | some y => (rw [h] at e; simp [e.1, e.2, bsameR]))) (by simp only [go_sem, seval, bC_eq, bC_pure2])
end Go.Proofs.YteihfmnmpdbkiaaGreatDoor
