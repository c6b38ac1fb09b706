/- The law FnExactBareAll: what it answers. Conditions: none. -/
import Derived.Test.YteihfmnmpdbkiaaGreatDoorK7
import Derived.Test.YteihfmnmpdbkiaaGreatDoorK8
set_option linter.unusedVariables false
set_option linter.unusedSimpArgs false
namespace Go.Proofs.YteihfmnmpdbkiaaGreatDoor
set_option maxRecDepth 100000
set_option maxHeartbeats 4000000

theorem said_len (l : List Bl) : (brun l).1.length ≤ 16 := by
  unfold brun
  split
  · rename_i h
    have := (runs_lt (l := l) (Nat.le_refl _) (lok_open h).2.1).2.2
    rwa [List.take_length] at this
  · simp
theorem ball_len (s : Str) : (ball s).1.length ≤ 16 := by
  unfold ball; split
  · exact said_len _
  · simp
theorem lawExactBareAll_a (s : Str) (hl : s.length ≤ 9223372036854775807) : ACall En 11 [.s s] [] [.b true] [] := by
  refine acall_of_body (fn := Tryz.f11) [] Tryz.func11 rfl rfl (by simp) fun C => ?_
  rw [entry_eq]
  simp only [Tryz.ntmps11, List.length_cons, List.length_nil, Nat.reduceAdd, Nat.reduceSub, List.replicate_succ, List.replicate_zero, List.cons_append, List.nil_append, numL]
  refine AWp.seq ?_
  refine AWp.rgn [] (by simp only [go_sem, seval, inR_pure, inR_len, seqI_len]; rfl) ?_ ?_
  · (first | trivial | (simp; done) | (simp only [decide_eq_false_iff_not] at h13; refine ⟨?_, by omega⟩; first | (simp; done) | (rw [List.take_of_length_le (by simp [inR_len, seqI_len])]; exact ler_refl _)) | (simp only [decide_eq_false_iff_not] at h13; omega))
  refine AWp.seq ?_
  refine AWp.seq ?_
  refine AWp.rgn [] (by simp only [go_sem, seval, inR_pure, inR_len, seqI_len]; rfl) ?_ ?_
  · (first | trivial | (simp; done) | (simp only [decide_eq_false_iff_not] at h13; refine ⟨?_, by omega⟩; first | (simp; done) | (rw [List.take_of_length_le (by simp [inR_len, seqI_len])]; exact ler_refl _)) | (simp only [decide_eq_false_iff_not] at h13; omega))
  refine AWp.condB (by simp only [go_sem, seval, inR_pure, inR_len, seqI_len]; rfl) (by simp only [go_sem, seval, inR_pure, inR_len, seqI_len]) (fun h13 => ?_) (fun h13 => ?_)
  · refine AWp.seq ?_
    refine AWp.rgn [] (by simp only [go_sem, seval, inR_pure, inR_len, seqI_len]; rfl) ?_ ?_
    · (first | trivial | (simp; done) | (simp only [decide_eq_false_iff_not] at h13; refine ⟨?_, by omega⟩; first | (simp; done) | (rw [List.take_of_length_le (by simp [inR_len, seqI_len])]; exact ler_refl _)) | (simp only [decide_eq_false_iff_not] at h13; omega))
    refine AWp.ret (And.intro (.inr rfl) ?_)
    exact Out.plain (by simp only [Tryz.results11]; rfl) (by simp only [resCs, resC, go_sem, seval, inR_pure, inR_len, seqI_len] <;> (split <;> rfl)) (by simp only [resV, go_sem, seval, inR_pure, inR_len, seqI_len] <;> (rfl)) (by simp only [go_sem, seval, inR_pure, inR_len, seqI_len])
  · refine AWp.skip ?_
    refine AWp.seq ?_
    refine AWp.rgn [callI (s.length ≤ 1048576) (fun h => sBareAll_a s (by omega))] (by simp only [go_sem, seval, inR_pure, inR_len, seqI_len]; rfl) ?_ ?_
    · (first | trivial | (simp; done) | (simp only [decide_eq_false_iff_not] at h13; refine ⟨?_, by omega⟩; first | (simp; done) | (rw [List.take_of_length_le (by simp [inR_len, seqI_len])]; exact ler_refl _)) | (simp only [decide_eq_false_iff_not] at h13; omega))
    refine AWp.seq ?_
    refine AWp.rgn [callNI [] [31] (s.length ≤ 1048576) (fun h => iBareAllO_a s (by omega))] (by simp only [go_sem, seval, inR_pure, inR_len, seqI_len]; rfl) ?_ ?_
    · (first | trivial | (simp; done) | (simp only [decide_eq_false_iff_not] at h13; refine ⟨?_, by omega⟩; first | (simp; done) | (rw [List.take_of_length_le (by simp [inR_len, seqI_len])]; exact ler_refl _)) | (simp only [decide_eq_false_iff_not] at h13; omega))
    refine AWp.seq ?_
    refine AWp.seq ?_
    refine AWp.rgn [callBI (s.length ≤ 1048576) (fun h => eqIntS_a (ball s).1 (ball s).1 (by have := ball_len s; omega) (by have := ball_len s; omega))] (by simp only [go_sem, seval, inR_pure, inR_len, seqI_len]; rfl) ?_ ?_
    · (first | trivial | (simp; done) | (simp only [decide_eq_false_iff_not] at h13; refine ⟨?_, by omega⟩; first | (simp; done) | (rw [List.take_of_length_le (by simp [inR_len, seqI_len])]; exact ler_refl _)) | (simp only [decide_eq_false_iff_not] at h13; omega))
    refine AWp.condB (by simp only [go_sem, seval, inR_pure, inR_len, seqI_len]; rfl) (by simp only [go_sem, seval, inR_pure, inR_len, seqI_len]) (fun h32 => ?_) (fun h32 => ?_)
    · simp at h32
    · refine AWp.skip ?_
      refine AWp.seq ?_
      refine AWp.rgn [] (by simp only [go_sem, seval, inR_pure, inR_len, seqI_len]; rfl) ?_ ?_
      · (first | trivial | (simp; done) | (simp only [decide_eq_false_iff_not] at h13; refine ⟨?_, by omega⟩; first | (simp; done) | (rw [List.take_of_length_le (by simp [inR_len, seqI_len])]; exact ler_refl _)) | (simp only [decide_eq_false_iff_not] at h13; omega))
      refine AWp.seq ?_
      refine AWp.rgn [callNI [31] [] (s.length ≤ 1048576) (fun h => markIntS_a (ball s).1 1 (by have := ball_len s; omega) (by decide) (by decide))] (by simp only [go_sem, seval, inR_pure, inR_len, seqI_len]; rfl) ?_ ?_
      · (first | trivial | (simp; done) | (simp only [decide_eq_false_iff_not] at h13; refine ⟨?_, by omega⟩; first | (simp; done) | (rw [List.take_of_length_le (by simp [inR_len, seqI_len])]; exact ler_refl _)) | (simp only [decide_eq_false_iff_not] at h13; omega))
      refine AWp.seq ?_
      refine AWp.rgn [] (by simp only [go_sem, seval, inR_pure, inR_len, seqI_len]; rfl) ?_ ?_
      · (first | trivial | (simp; done) | (simp only [decide_eq_false_iff_not] at h13; refine ⟨?_, by omega⟩; first | (simp; done) | (rw [List.take_of_length_le (by simp [inR_len, seqI_len])]; exact ler_refl _)) | (simp only [decide_eq_false_iff_not] at h13; omega))
      refine AWp.seq ?_
      refine AWp.rgn [callBI (s.length ≤ 1048576) (fun h => heldIntS_a (ball s).1.length 1 (by have := ball_len s; omega) (by decide) (by decide))] (by simp only [go_sem, seval, inR_pure, inR_len, seqI_len]; rfl) ?_ ?_
      · (first | trivial | (simp; done) | (simp only [decide_eq_false_iff_not] at h13; refine ⟨?_, by omega⟩; first | (simp; done) | (rw [List.take_of_length_le (by simp [inR_len, seqI_len])]; exact ler_refl _)) | (simp only [decide_eq_false_iff_not] at h13; omega))
      refine AWp.seq ?_
      refine AWp.seq ?_
      refine AWp.rgn [] (by simp only [go_sem, seval, inR_pure, inR_len, seqI_len]; rfl) ?_ ?_
      · (first | trivial | (simp; done) | (simp only [decide_eq_false_iff_not] at h13; refine ⟨?_, by omega⟩; first | (simp; done) | (rw [List.take_of_length_le (by simp [inR_len, seqI_len])]; exact ler_refl _)) | (simp only [decide_eq_false_iff_not] at h13; omega))
      refine AWp.condB (by simp only [go_sem, seval, inR_pure, inR_len, seqI_len]; rfl) (by simp only [go_sem, seval, inR_pure, inR_len, seqI_len]) (fun h40 => ?_) (fun h40 => ?_)
      · simp at h40; omega
      · refine AWp.skip ?_
        refine AWp.seq ?_
        refine AWp.seq ?_
        refine AWp.rgn [] (by simp only [go_sem, seval, inR_pure, inR_len, seqI_len]; rfl) ?_ ?_
        · (first | trivial | (simp; done) | (simp only [decide_eq_false_iff_not] at h13; refine ⟨?_, by omega⟩; first | (simp; done) | (rw [List.take_of_length_le (by simp [inR_len, seqI_len])]; exact ler_refl _)) | (simp only [decide_eq_false_iff_not] at h13; omega))
        refine AWp.condB (by simp only [go_sem, seval, inR_pure, inR_len, seqI_len]; rfl) (by simp only [go_sem, seval, inR_pure, inR_len, seqI_len]) (fun h43 => ?_) (fun h43 => ?_)
        · simp at h43
        · refine AWp.skip ?_
          refine AWp.seq ?_
          refine AWp.rgn [callI (s.length ≤ 1048576) (fun h => iBareAll_a s (by omega))] (by simp only [go_sem, seval, inR_pure, inR_len, seqI_len]; rfl) ?_ ?_
          · (first | trivial | (simp; done) | (simp only [decide_eq_false_iff_not] at h13; refine ⟨?_, by omega⟩; first | (simp; done) | (rw [List.take_of_length_le (by simp [inR_len, seqI_len])]; exact ler_refl _)) | (simp only [decide_eq_false_iff_not] at h13; omega))
          refine AWp.seq ?_
          refine AWp.seq ?_
          refine AWp.rgn [callBI (s.length ≤ 1048576) (fun h => eqIntS_a (ball s).1 (ball s).1 (by have := ball_len s; omega) (by have := ball_len s; omega))] (by simp only [go_sem, seval, inR_pure, inR_len, seqI_len]; rfl) ?_ ?_
          · (first | trivial | (simp; done) | (simp only [decide_eq_false_iff_not] at h13; refine ⟨?_, by omega⟩; first | (simp; done) | (rw [List.take_of_length_le (by simp [inR_len, seqI_len])]; exact ler_refl _)) | (simp only [decide_eq_false_iff_not] at h13; omega))
          refine AWp.condB (by simp only [go_sem, seval, inR_pure, inR_len, seqI_len]; rfl) (by simp only [go_sem, seval, inR_pure, inR_len, seqI_len]) (fun h57 => ?_) (fun h57 => ?_)
          · simp at h57
          · refine AWp.skip ?_
            refine AWp.seq ?_
            refine AWp.rgn [] (by simp only [go_sem, seval, inR_pure, inR_len, seqI_len]; rfl) ?_ ?_
            · (first | trivial | (simp; done) | (simp only [decide_eq_false_iff_not] at h13; refine ⟨?_, by omega⟩; first | (simp; done) | (rw [List.take_of_length_le (by simp [inR_len, seqI_len])]; exact ler_refl _)) | (simp only [decide_eq_false_iff_not] at h13; omega))
            refine AWp.seq ?_
            refine AWp.rgn [callBI (s.length ≤ 1048576) (fun h => heldIntS_a (ball s).1.length 1 (by have := ball_len s; omega) (by decide) (by decide))] (by simp only [go_sem, seval, inR_pure, inR_len, seqI_len]; rfl) ?_ ?_
            · (first | trivial | (simp; done) | (simp only [decide_eq_false_iff_not] at h13; refine ⟨?_, by omega⟩; first | (simp; done) | (rw [List.take_of_length_le (by simp [inR_len, seqI_len])]; exact ler_refl _)) | (simp only [decide_eq_false_iff_not] at h13; omega))
            refine AWp.seq ?_
            refine AWp.seq ?_
            refine AWp.rgn [] (by simp only [go_sem, seval, inR_pure, inR_len, seqI_len]; rfl) ?_ ?_
            · (first | trivial | (simp; done) | (simp only [decide_eq_false_iff_not] at h13; refine ⟨?_, by omega⟩; first | (simp; done) | (rw [List.take_of_length_le (by simp [inR_len, seqI_len])]; exact ler_refl _)) | (simp only [decide_eq_false_iff_not] at h13; omega))
            refine AWp.condB (by simp only [go_sem, seval, inR_pure, inR_len, seqI_len]; rfl) (by simp only [go_sem, seval, inR_pure, inR_len, seqI_len]) (fun h62 => ?_) (fun h62 => ?_)
            · simp at h62; omega
            · refine AWp.skip ?_
              refine AWp.seq ?_
              refine AWp.seq ?_
              refine AWp.rgn [] (by simp only [go_sem, seval, inR_pure, inR_len, seqI_len]; rfl) ?_ ?_
              · (first | trivial | (simp; done) | (simp only [decide_eq_false_iff_not] at h13; refine ⟨?_, by omega⟩; first | (simp; done) | (rw [List.take_of_length_le (by simp [inR_len, seqI_len])]; exact ler_refl _)) | (simp only [decide_eq_false_iff_not] at h13; omega))
              refine AWp.condB (by simp only [go_sem, seval, inR_pure, inR_len, seqI_len]; rfl) (by simp only [go_sem, seval, inR_pure, inR_len, seqI_len]) (fun h65 => ?_) (fun h65 => ?_)
              · simp at h65
              · refine AWp.skip ?_
                refine AWp.seq ?_
                refine AWp.rgn [] (by simp only [go_sem, seval, inR_pure, inR_len, seqI_len]; rfl) ?_ ?_
                · (first | trivial | (simp; done) | (simp only [decide_eq_false_iff_not] at h13; refine ⟨?_, by omega⟩; first | (simp; done) | (rw [List.take_of_length_le (by simp [inR_len, seqI_len])]; exact ler_refl _)) | (simp only [decide_eq_false_iff_not] at h13; omega))
                refine AWp.ret (And.intro (.inr rfl) ?_)
                exact Out.plain (by simp only [Tryz.results11]; rfl) (by simp only [resCs, resC, go_sem, seval, inR_pure, inR_len, seqI_len] <;> (split <;> rfl)) (by simp only [resV, go_sem, seval, inR_pure, inR_len, seqI_len] <;> (rfl)) (by simp only [go_sem, seval, inR_pure, inR_len, seqI_len])
end Go.Proofs.YteihfmnmpdbkiaaGreatDoor
