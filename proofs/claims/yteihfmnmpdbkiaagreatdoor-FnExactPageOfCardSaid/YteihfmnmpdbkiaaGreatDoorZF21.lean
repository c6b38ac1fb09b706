/- The law FnExactPageOf: what it answers. Conditions: none. -/
import Derived.Test.YteihfmnmpdbkiaaGreatDoorK11
set_option linter.unusedVariables false
set_option linter.unusedSimpArgs false
namespace Go.Proofs.YteihfmnmpdbkiaaGreatDoor
set_option maxRecDepth 100000
set_option maxHeartbeats 4000000

theorem pgOf_frmL (s : Str) : (pgOf s).frm.length ≤ 1000000 := by
  unfold pgOf
  split
  · cases h : stmtR s with
    | none => simp
    | some x => have := emFL (stmtR_iff.1 h).1; dsimp only; omega
  · simp [Pg0]
theorem lawExactPageOf_a (s : Str) (hl : s.length ≤ 9223372036854775807) : ACall En 12 [.s s] [] [.b true] [] := by
  have PO := fun h : s.length ≤ 1048576 => iPageOfO_a s (by omega)
  have PI := fun h : s.length ≤ 1048576 => iPageOf_a s (by omega)
  have PS := fun h : s.length ≤ 1048576 => sPageOf_a s (by omega)
  have L := pgOf_frmL s
  generalize pgOf s = p at *
  refine acall_of_body (fn := Tryz.f12) [] Tryz.func12 rfl rfl (by simp) fun C => ?_
  rw [entry_eq]
  simp only [Tryz.ntmps12, List.length_cons, List.length_nil, Nat.reduceAdd, Nat.reduceSub, List.replicate_succ, List.replicate_zero, List.cons_append, List.nil_append, numL]
  refine AWp.seq ?_
  refine AWp.rgn [] (by simp only [go_sem, seval, inR_pure, inR_len, seqI_len, pgO_eq, pgC_eq, memEq, clrs]; rfl) ?_ ?_
  · (first | trivial | (simp; done) | (simp only [decide_eq_false_iff_not] at h10; omega) | (simp only [decide_eq_false_iff_not] at h10; exact ⟨by simp, by omega⟩))
  refine AWp.seq ?_
  refine AWp.seq ?_
  refine AWp.rgn [] (by simp only [go_sem, seval, inR_pure, inR_len, seqI_len, pgO_eq, pgC_eq, memEq, clrs]; rfl) ?_ ?_
  · (first | trivial | (simp; done) | (simp only [decide_eq_false_iff_not] at h10; omega) | (simp only [decide_eq_false_iff_not] at h10; exact ⟨by simp, by omega⟩))
  refine AWp.condB (by simp only [go_sem, seval, inR_pure, inR_len, seqI_len, pgO_eq, pgC_eq, memEq, clrs]; rfl) (by simp only [go_sem, seval, inR_pure, inR_len, seqI_len, pgO_eq, pgC_eq, memEq, clrs]) (fun h10 => ?_) (fun h10 => ?_)
  · refine AWp.seq ?_
    refine AWp.rgn [] (by simp only [go_sem, seval, inR_pure, inR_len, seqI_len, pgO_eq, pgC_eq, memEq, clrs]; rfl) ?_ ?_
    · (first | trivial | (simp; done) | (simp only [decide_eq_false_iff_not] at h10; omega) | (simp only [decide_eq_false_iff_not] at h10; exact ⟨by simp, by omega⟩))
    refine AWp.ret (And.intro (.inr rfl) ?_)
    exact Out.plain (by simp only [Tryz.results12]; rfl) (by simp only [resCs, resC, go_sem, seval, inR_pure, inR_len, seqI_len, pgO_eq, pgC_eq, memEq, clrs] <;> (split <;> rfl)) (by simp only [resV, go_sem, seval, inR_pure, inR_len, seqI_len, pgO_eq, pgC_eq, memEq, clrs] <;> (rfl)) (by simp only [go_sem, seval, inR_pure, inR_len, seqI_len, pgO_eq, pgC_eq, memEq, clrs])
  · refine AWp.skip ?_
    refine AWp.seq ?_
    refine AWp.rgn [callI (s.length ≤ 1048576) PS] (by simp only [go_sem, seval, inR_pure, inR_len, seqI_len, pgO_eq, pgC_eq, memEq, clrs]; rfl) ?_ ?_
    · (first | trivial | (simp; done) | (simp only [decide_eq_false_iff_not] at h10; omega) | (simp only [decide_eq_false_iff_not] at h10; exact ⟨by simp, by omega⟩))
    refine AWp.seq ?_
    refine AWp.rgn [callNI [] [24] (s.length ≤ 1048576) PO] (by simp only [go_sem, seval, inR_pure, inR_len, seqI_len, pgO_eq, pgC_eq, memEq, clrs]; rfl) ?_ ?_
    · (first | trivial | (simp; done) | (simp only [decide_eq_false_iff_not] at h10; omega) | (simp only [decide_eq_false_iff_not] at h10; exact ⟨by simp, by omega⟩))
    refine AWp.seq ?_
    refine AWp.seq ?_
    refine AWp.rgn [callN [24] [] (eqPageO_a p p L L)] (by simp only [go_sem, seval, inR_pure, inR_len, seqI_len, pgO_eq, pgC_eq, memEq, clrs]; rfl) ?_ ?_
    · (first | trivial | (simp; done) | (simp only [decide_eq_false_iff_not] at h10; omega) | (simp only [decide_eq_false_iff_not] at h10; exact ⟨by simp, by omega⟩))
    refine AWp.condB (by simp only [go_sem, seval, inR_pure, inR_len, seqI_len, pgO_eq, pgC_eq, memEq, clrs]; rfl) (by simp only [go_sem, seval, inR_pure, inR_len, seqI_len, pgO_eq, pgC_eq, memEq, clrs]) (fun h18 => ?_) (fun h18 => ?_)
    · simp at h18
    · refine AWp.skip ?_
      refine AWp.seq ?_
      refine AWp.rgn [] (by simp only [go_sem, seval, inR_pure, inR_len, seqI_len, pgO_eq, pgC_eq, memEq, clrs]; rfl) ?_ ?_
      · (first | trivial | (simp; done) | (simp only [decide_eq_false_iff_not] at h10; omega) | (simp only [decide_eq_false_iff_not] at h10; exact ⟨by simp, by omega⟩))
      refine AWp.seq ?_
      refine AWp.rgn [callN [24] [] (markPage_a p 1 L (by decide) (by decide))] (by simp only [go_sem, seval, inR_pure, inR_len, seqI_len, pgO_eq, pgC_eq, memEq, clrs]; rfl) ?_ ?_
      · (first | trivial | (simp; done) | (simp only [decide_eq_false_iff_not] at h10; omega) | (simp only [decide_eq_false_iff_not] at h10; exact ⟨by simp, by omega⟩))
      refine AWp.seq ?_
      refine AWp.rgn [] (by simp only [go_sem, seval, inR_pure, inR_len, seqI_len, pgO_eq, pgC_eq, memEq, clrs]; rfl) ?_ ?_
      · (first | trivial | (simp; done) | (simp only [decide_eq_false_iff_not] at h10; omega) | (simp only [decide_eq_false_iff_not] at h10; exact ⟨by simp, by omega⟩))
      refine AWp.seq ?_
      refine AWp.rgn [callN [24] [] (heldPage_a p 1 L (by decide) (by decide))] (by simp only [go_sem, seval, inR_pure, inR_len, seqI_len, pgO_eq, pgC_eq, memEq, clrs]; rfl) ?_ ?_
      · (first | trivial | (simp; done) | (simp only [decide_eq_false_iff_not] at h10; omega) | (simp only [decide_eq_false_iff_not] at h10; exact ⟨by simp, by omega⟩))
      refine AWp.seq ?_
      refine AWp.seq ?_
      refine AWp.rgn [] (by simp only [go_sem, seval, inR_pure, inR_len, seqI_len, pgO_eq, pgC_eq, memEq, clrs]; rfl) ?_ ?_
      · (first | trivial | (simp; done) | (simp only [decide_eq_false_iff_not] at h10; omega) | (simp only [decide_eq_false_iff_not] at h10; exact ⟨by simp, by omega⟩))
      refine AWp.condB (by simp only [go_sem, seval, inR_pure, inR_len, seqI_len, pgO_eq, pgC_eq, memEq, clrs]; rfl) (by simp only [go_sem, seval, inR_pure, inR_len, seqI_len, pgO_eq, pgC_eq, memEq, clrs]) (fun h26 => ?_) (fun h26 => ?_)
      · simp at h26; omega
      · refine AWp.skip ?_
        refine AWp.seq ?_
        refine AWp.seq ?_
        refine AWp.rgn [] (by simp only [go_sem, seval, inR_pure, inR_len, seqI_len, pgO_eq, pgC_eq, memEq, clrs]; rfl) ?_ ?_
        · (first | trivial | (simp; done) | (simp only [decide_eq_false_iff_not] at h10; omega) | (simp only [decide_eq_false_iff_not] at h10; exact ⟨by simp, by omega⟩))
        refine AWp.condB (by simp only [go_sem, seval, inR_pure, inR_len, seqI_len, pgO_eq, pgC_eq, memEq, clrs]; rfl) (by simp only [go_sem, seval, inR_pure, inR_len, seqI_len, pgO_eq, pgC_eq, memEq, clrs]) (fun h29 => ?_) (fun h29 => ?_)
        · simp at h29
        · refine AWp.skip ?_
          refine AWp.seq ?_
          refine AWp.rgn [callI (s.length ≤ 1048576) PI] (by simp only [go_sem, seval, inR_pure, inR_len, seqI_len, pgO_eq, pgC_eq, memEq, clrs]; rfl) ?_ ?_
          · (first | trivial | (simp; done) | (simp only [decide_eq_false_iff_not] at h10; omega) | (simp only [decide_eq_false_iff_not] at h10; exact ⟨by simp, by omega⟩))
          refine AWp.seq ?_
          refine AWp.seq ?_
          refine AWp.rgn [call0 (eqPage_a p p L L)] (by simp only [go_sem, seval, inR_pure, inR_len, seqI_len, pgO_eq, pgC_eq, memEq, clrs]; rfl) ?_ ?_
          · (first | trivial | (simp; done) | (simp only [decide_eq_false_iff_not] at h10; omega) | (simp only [decide_eq_false_iff_not] at h10; exact ⟨by simp, by omega⟩))
          refine AWp.condB (by simp only [go_sem, seval, inR_pure, inR_len, seqI_len, pgO_eq, pgC_eq, memEq, clrs]; rfl) (by simp only [go_sem, seval, inR_pure, inR_len, seqI_len, pgO_eq, pgC_eq, memEq, clrs]) (fun h35 => ?_) (fun h35 => ?_)
          · simp at h35
          · refine AWp.skip ?_
            refine AWp.seq ?_
            refine AWp.rgn [] (by simp only [go_sem, seval, inR_pure, inR_len, seqI_len, pgO_eq, pgC_eq, memEq, clrs]; rfl) ?_ ?_
            · (first | trivial | (simp; done) | (simp only [decide_eq_false_iff_not] at h10; omega) | (simp only [decide_eq_false_iff_not] at h10; exact ⟨by simp, by omega⟩))
            refine AWp.seq ?_
            refine AWp.rgn [callN [24] [] (heldPage_a p 1 L (by decide) (by decide))] (by simp only [go_sem, seval, inR_pure, inR_len, seqI_len, pgO_eq, pgC_eq, memEq, clrs]; rfl) ?_ ?_
            · (first | trivial | (simp; done) | (simp only [decide_eq_false_iff_not] at h10; omega) | (simp only [decide_eq_false_iff_not] at h10; exact ⟨by simp, by omega⟩))
            refine AWp.seq ?_
            refine AWp.seq ?_
            refine AWp.rgn [] (by simp only [go_sem, seval, inR_pure, inR_len, seqI_len, pgO_eq, pgC_eq, memEq, clrs]; rfl) ?_ ?_
            · (first | trivial | (simp; done) | (simp only [decide_eq_false_iff_not] at h10; omega) | (simp only [decide_eq_false_iff_not] at h10; exact ⟨by simp, by omega⟩))
            refine AWp.condB (by simp only [go_sem, seval, inR_pure, inR_len, seqI_len, pgO_eq, pgC_eq, memEq, clrs]; rfl) (by simp only [go_sem, seval, inR_pure, inR_len, seqI_len, pgO_eq, pgC_eq, memEq, clrs]) (fun h40 => ?_) (fun h40 => ?_)
            · simp at h40; omega
            · refine AWp.skip ?_
              refine AWp.seq ?_
              refine AWp.seq ?_
              refine AWp.rgn [] (by simp only [go_sem, seval, inR_pure, inR_len, seqI_len, pgO_eq, pgC_eq, memEq, clrs]; rfl) ?_ ?_
              · (first | trivial | (simp; done) | (simp only [decide_eq_false_iff_not] at h10; omega) | (simp only [decide_eq_false_iff_not] at h10; exact ⟨by simp, by omega⟩))
              refine AWp.condB (by simp only [go_sem, seval, inR_pure, inR_len, seqI_len, pgO_eq, pgC_eq, memEq, clrs]; rfl) (by simp only [go_sem, seval, inR_pure, inR_len, seqI_len, pgO_eq, pgC_eq, memEq, clrs]) (fun h43 => ?_) (fun h43 => ?_)
              · simp at h43
              · refine AWp.skip ?_
                refine AWp.seq ?_
                refine AWp.rgn [] (by simp only [go_sem, seval, inR_pure, inR_len, seqI_len, pgO_eq, pgC_eq, memEq, clrs]; rfl) ?_ ?_
                · (first | trivial | (simp; done) | (simp only [decide_eq_false_iff_not] at h10; omega) | (simp only [decide_eq_false_iff_not] at h10; exact ⟨by simp, by omega⟩))
                refine AWp.ret (And.intro (.inr rfl) ?_)
                exact Out.plain (by simp only [Tryz.results12]; rfl) (by simp only [resCs, resC, go_sem, seval, inR_pure, inR_len, seqI_len, pgO_eq, pgC_eq, memEq, clrs] <;> (split <;> rfl)) (by simp only [resV, go_sem, seval, inR_pure, inR_len, seqI_len, pgO_eq, pgC_eq, memEq, clrs] <;> (rfl)) (by simp only [go_sem, seval, inR_pure, inR_len, seqI_len, pgO_eq, pgC_eq, memEq, clrs])
end Go.Proofs.YteihfmnmpdbkiaaGreatDoor
