/- The law FnExactEmitText: what it answers. Conditions: none. -/
import Derived.Test.YthljacdbmhonfaaGreatDoorKq
set_option linter.unusedVariables false
set_option linter.unusedSimpArgs false
namespace Go.Proofs.YthljacdbmhonfaaGreatDoor
set_option maxRecDepth 100000
set_option maxHeartbeats 4000000

theorem lawExactEmitText_a (l : List Sl) (hb : (∀ s ∈ l, bdS s = true) ∧ l.length ≤ 9223372036854775807) : ACall En 12 [.sl false (sR l)] [] [.b true] [] := by
  have hs : 0 ≤ szSl l 1048576 → allS l = true ∧ l.length ≤ 1048576 := szSl_sm
  refine acall_of_body (fn := Tryz.f12) [] Tryz.func12 rfl rfl (by simp) fun C => ?_
  rw [entry_eq]
  simp only [Tryz.ntmps12, List.length_cons, List.length_nil, Nat.reduceAdd, Nat.reduceSub, List.replicate_succ, List.replicate_zero, List.cons_append, List.nil_append, numL]
  refine AWp.seq ?_
  refine AWp.rgn [] (by simp only [go_sem, seval, sR_pure, sR_len]; rfl) ?_ ?_
  · (first | trivial | (simp; done) | (simp only [decide_eq_false_iff_not] at h11; omega) | (simp only [decide_eq_false_iff_not] at h11; exact ⟨by omega, by omega⟩))
  refine AWp.seq ?_
  refine AWp.rgn [] (by simp only [go_sem, seval, sR_pure, sR_len]; rfl) ?_ ?_
  · (first | trivial | (simp; done) | (simp only [decide_eq_false_iff_not] at h11; omega) | (simp only [decide_eq_false_iff_not] at h11; exact ⟨by omega, by omega⟩))
  refine AWp.seq ?_
  refine AWp.rgn [call0 (szStmtS_a l hb.1 hb.2 1048576 (by decide) (by decide))] (by simp only [go_sem, seval, sR_pure, sR_len]; rfl) ?_ ?_
  · (first | trivial | (simp; done) | (simp only [decide_eq_false_iff_not] at h11; omega) | (simp only [decide_eq_false_iff_not] at h11; exact ⟨by omega, by omega⟩))
  refine AWp.seq ?_
  refine AWp.seq ?_
  refine AWp.rgn [] (by simp only [go_sem, seval, sR_pure, sR_len]; rfl) ?_ ?_
  · (first | trivial | (simp; done) | (simp only [decide_eq_false_iff_not] at h11; omega) | (simp only [decide_eq_false_iff_not] at h11; exact ⟨by omega, by omega⟩))
  refine AWp.condB (by simp only [go_sem, seval, sR_pure, sR_len]; rfl) (by simp only [go_sem, seval, sR_pure, sR_len]) (fun h11 => ?_) (fun h11 => ?_)
  · refine AWp.seq ?_
    refine AWp.rgn [] (by simp only [go_sem, seval, sR_pure, sR_len]; rfl) ?_ ?_
    · (first | trivial | (simp; done) | (simp only [decide_eq_false_iff_not] at h11; omega) | (simp only [decide_eq_false_iff_not] at h11; exact ⟨by omega, by omega⟩))
    refine AWp.ret (And.intro (.inr rfl) ?_)
    exact Out.plain (by simp only [Tryz.results12]; rfl) (by simp only [resCs, resC, go_sem, seval, sR_pure, sR_len] <;> (split <;> rfl)) (by simp only [resV, go_sem, seval, sR_pure, sR_len] <;> (rfl)) (by simp only [go_sem, seval, sR_pure, sR_len])
  · refine AWp.skip ?_
    refine AWp.seq ?_
    refine AWp.rgn [callI (0 ≤ szSl l 1048576) (fun h => toStmtS_a l (hs h).1 (hs h).2), callI (0 ≤ szSl l 1048576) (fun h => sEmitText_a l (hs h).1 (by have := (hs h).2; omega))] (by simp only [go_sem, seval, sR_pure, sR_len]; rfl) ?_ ?_
    · (first | trivial | (simp; done) | (simp only [decide_eq_false_iff_not] at h11; omega) | (simp only [decide_eq_false_iff_not] at h11; exact ⟨by omega, by omega⟩))
    refine AWp.seq ?_
    refine AWp.rgn [callI (0 ≤ szSl l 1048576) (fun h => toStmtS_a l (hs h).1 (hs h).2)] (by simp only [go_sem, seval, sR_pure, sR_len]; rfl) ?_ ?_
    · (first | trivial | (simp; done) | (simp only [decide_eq_false_iff_not] at h11; omega) | (simp only [decide_eq_false_iff_not] at h11; exact ⟨by omega, by omega⟩))
    refine AWp.seq ?_
    refine AWp.rgn [callI (0 ≤ szSl l 1048576) (fun h => iEmitText_a l (hs h).1 (by have := (hs h).2; omega))] (by simp only [go_sem, seval, sR_pure, sR_len]; rfl) ?_ ?_
    · (first | trivial | (simp; done) | (simp only [decide_eq_false_iff_not] at h11; omega) | (simp only [decide_eq_false_iff_not] at h11; exact ⟨by omega, by omega⟩))
    refine AWp.seq ?_
    refine AWp.seq ?_
    refine AWp.rgn [] (by simp only [go_sem, seval, sR_pure, sR_len]; rfl) ?_ ?_
    · (first | trivial | (simp; done) | (simp only [decide_eq_false_iff_not] at h11; omega) | (simp only [decide_eq_false_iff_not] at h11; exact ⟨by omega, by omega⟩))
    refine AWp.condB (by simp only [go_sem, seval, sR_pure, sR_len]; rfl) (by simp only [go_sem, seval, sR_pure, sR_len]) (fun h21 => ?_) (fun h21 => ?_)
    · simp at h21
    · refine AWp.skip ?_
      refine AWp.seq ?_
      refine AWp.seq ?_
      refine AWp.rgn [callI (0 ≤ szSl l 1048576) (fun h => toStmtS_a l (hs h).1 (hs h).2), callI (0 ≤ szSl l 1048576) (fun h => eqStmtS_a l l (hs h).1 (hs h).1 (hs h).2 (hs h).2)] (by simp only [go_sem, seval, sR_pure, sR_len]; rfl) ?_ ?_
      · (first | trivial | (simp; done) | (simp only [decide_eq_false_iff_not] at h11; omega) | (simp only [decide_eq_false_iff_not] at h11; exact ⟨by omega, by omega⟩))
      refine AWp.condB (by simp only [go_sem, seval, sR_pure, sR_len]; rfl) (by simp only [go_sem, seval, sR_pure, sR_len]) (fun h26 => ?_) (fun h26 => ?_)
      · simp [ssames_refl] at h26
      · refine AWp.skip ?_
        refine AWp.seq ?_
        refine AWp.rgn [] (by simp only [go_sem, seval, sR_pure, sR_len]; rfl) ?_ ?_
        · (first | trivial | (simp; done) | (simp only [decide_eq_false_iff_not] at h11; omega) | (simp only [decide_eq_false_iff_not] at h11; exact ⟨by omega, by omega⟩))
        refine AWp.ret (And.intro (.inr rfl) ?_)
        exact Out.plain (by simp only [Tryz.results12]; rfl) (by simp only [resCs, resC, go_sem, seval, sR_pure, sR_len] <;> (split <;> rfl)) (by simp only [resV, go_sem, seval, sR_pure, sR_len] <;> (rfl)) (by simp only [go_sem, seval, sR_pure, sR_len])
end Go.Proofs.YthljacdbmhonfaaGreatDoor
