/- The law FnEmitSay: what it answers. Conditions: none. -/
import Derived.Test.YteihfmnmpdbkiaaGreatDoorKz
import Derived.Test.YteihfmnmpdbkiaaGreatDoorKy
import Derived.Test.YteihfmnmpdbkiaaGreatDoorKb
set_option linter.unusedVariables false
set_option linter.unusedSimpArgs false
namespace Go.Proofs.YteihfmnmpdbkiaaGreatDoor
set_option maxRecDepth 100000
set_option maxHeartbeats 8000000

theorem emText_len (l : List Sl) : (emText l).length ≤ 2000 := by
  unfold emText
  split
  · rename_i h; exact (emTs_le h).1
  · simp
theorem prun_len (l : List Sl) : (prun l).1.length ≤ 16 := by
  unfold prun
  split
  · rename_i h
    have := (pruns_lt (l := l) (Nat.le_refl _) (pok_open h).2.1).2.2
    rwa [List.take_of_length_le (by rw [List.length_map]; exact Nat.le_refl _)] at this
  · simp
theorem lawEmitSay_a (b : Str) : ACall En 8 [.sl false (byR b)] [] [.b true] [] := by
  have DA := DrawEmitSegs_a b
  obtain ⟨la, sa⟩ := d6_p (b.take 2000) (p := 0) (by decide) (by decide)
  generalize (d6 (b.take 2000) 0).1 = l at *
  have hl := emText_len l
  have hq := prun_len l
  have hB : pok l = true → ball (emText l) = prun l := fun h => ball_emText h
  refine acall_of_body (fn := Tryz.f8) [] Tryz.func8 rfl rfl (by simp) fun C => ?_
  rw [entry_eq]
  simp only [Tryz.ntmps8, List.length_cons, List.length_nil, Nat.reduceAdd, Nat.reduceSub, List.replicate_succ, List.replicate_zero, List.cons_append, List.nil_append, numL]
  refine AWp.seq ?_
  refine AWp.rgn [] (by simp only [go_sem, seval, inR_len, inR_pure, sR_pure]; rfl) ?_ ?_
  · (first | trivial | (simp; done) | (simp at h25; simp [h25]; done) | (simp at h53; simp [inR_get h53]; omega))
  refine AWp.seq ?_
  refine AWp.seq ?_
  refine AWp.rgn [] (by simp only [go_sem, seval, inR_len, inR_pure, sR_pure]; rfl) ?_ ?_
  · (first | trivial | (simp; done) | (simp at h25; simp [h25]; done) | (simp at h53; simp [inR_get h53]; omega))
  refine AWp.condB (by simp only [go_sem, seval, inR_len, inR_pure, sR_pure]; rfl) (by simp only [go_sem, seval, inR_len, inR_pure, sR_pure]) (fun h12 => ?_) (fun h12 => ?_)
  · refine AWp.seq ?_
    refine AWp.rgn [] (by simp only [go_sem, seval, inR_len, inR_pure, sR_pure]; rfl) ?_ ?_
    · (first | trivial | (simp; done) | (simp at h25; simp [h25]; done) | (simp at h53; simp [inR_get h53]; omega))
    refine AWp.ret (And.intro (.inr rfl) ?_)
    exact Out.plain (by simp only [Tryz.results8]; rfl) (by simp only [resCs, resC, go_sem, seval, inR_len, inR_pure, sR_pure] <;> (split <;> rfl)) (by simp only [resV, go_sem, seval, inR_len, inR_pure, sR_pure] <;> (simp)) (by simp only [go_sem, seval, inR_len, inR_pure, sR_pure])
  · refine AWp.skip ?_
    refine AWp.seq ?_
    refine AWp.rgn [call0 DA] (by simp only [go_sem, seval, inR_len, inR_pure, sR_pure]; rfl) ?_ ?_
    · (first | trivial | (simp; done) | (simp at h25; simp [h25]; done) | (simp at h53; simp [inR_get h53]; omega))
    refine AWp.seq ?_
    refine AWp.rgn [call0 (iEmitText_a l sa (by omega))] (by simp only [go_sem, seval, inR_len, inR_pure, sR_pure]; rfl) ?_ ?_
    · (first | trivial | (simp; done) | (simp at h25; simp [h25]; done) | (simp at h53; simp [inR_get h53]; omega))
    refine AWp.seq ?_
    refine AWp.seq ?_
    refine AWp.rgn [call0 (sEmitText_a l sa (by omega)), call0 (sProgOk_a l sa (by omega))] (by simp only [go_sem, seval, inR_len, inR_pure, sR_pure]; rfl) ?_ ?_
    · (first | trivial | (simp; done) | (simp at h25; simp [h25]; done) | (simp at h53; simp [inR_get h53]; omega))
    refine AWp.condB (by simp only [go_sem, seval, inR_len, inR_pure, sR_pure]; rfl) (by simp only [go_sem, seval, inR_len, inR_pure, sR_pure]) (fun h25 => ?_) (fun h25 => ?_)
    · refine AWp.seq ?_
      refine AWp.rgn [call0 (sEmitText_a l sa (by omega))] (by simp only [go_sem, seval, inR_len, inR_pure, sR_pure]; rfl) ?_ ?_
      · (first | trivial | (simp; done) | (simp at h25; simp [h25]; done) | (simp at h53; simp [inR_get h53]; omega))
      refine AWp.ret (And.intro (.inr rfl) ?_)
      exact Out.plain (by simp only [Tryz.results8]; rfl) (by simp only [resCs, resC, go_sem, seval, inR_len, inR_pure, sR_pure] <;> (split <;> rfl)) (by simp only [resV, go_sem, seval, inR_len, inR_pure, sR_pure] <;> (simp)) (by simp only [go_sem, seval, inR_len, inR_pure, sR_pure])
    · refine AWp.skip ?_
      refine AWp.seq ?_
      refine AWp.rgn [call0 (iProgRun_a l sa (by omega))] (by simp only [go_sem, seval, inR_len, inR_pure, sR_pure]; rfl) ?_ ?_
      · (first | trivial | (simp; done) | (simp at h25; simp [h25]; done) | (simp at h53; simp [inR_get h53]; omega))
      refine AWp.seq ?_
      refine AWp.rgn [callI (pok l = true) (fun h => hB h ▸ iBareAll_a (emText l) (by omega))] (by simp only [go_sem, seval, inR_len, inR_pure, sR_pure]; rfl) ?_ ?_
      · (first | trivial | (simp; done) | (simp at h25; simp [h25]; done) | (simp at h53; simp [inR_get h53]; omega))
      refine AWp.seq ?_
      refine AWp.seq ?_
      refine AWp.rgn [] (by simp only [go_sem, seval, inR_len, inR_pure, sR_pure]; rfl) ?_ ?_
      · (first | trivial | (simp; done) | (simp at h25; simp [h25]; done) | (simp at h53; simp [inR_get h53]; omega))
      refine AWp.condB (by simp only [go_sem, seval, inR_len, inR_pure, sR_pure]; rfl) (by simp only [go_sem, seval, inR_len, inR_pure, sR_pure]) (fun h49 => ?_) (fun h49 => ?_)
      · simp at h49
      · refine AWp.skip ?_
        refine AWp.seq ?_
        refine AWp.seq ?_
        refine AWp.rgn [] (by simp only [go_sem, seval, inR_len, inR_pure, sR_pure]; rfl) ?_ ?_
        · (first | trivial | (simp; done) | (simp at h25; simp [h25]; done) | (simp at h53; simp [inR_get h53]; omega))
        refine AWp.block ?_
        refine AWp.loopK (fun k : Nat => ⟨[.no, .no, .no, .no, .no, .sl false (inR (prun l).1), .no, .sl false (inR (prun l).1), .no, .i .i64 k, .no, .no, .no, .no, .no, .no, .no, .no, .no, .no, .no, .no, .no, .no, .no, .no, .no, .no, .no, .no, .no, .no, .no, .no, .no, .no, .no, .no, .no, .no, .no, .no, .no, .no, .no, .no, .no, .no, .no, .no, .no, .no, .no, .no, .no, .no, .no, .no, .no, .no, .no, .no, .no, .no, .no], memOf [], us []⟩) (fun k : Nat => k ≤ (prun l).1.length) (fun k : Nat => (prun l).1.length - k) (0) ?_ ?_ (fun k hI => ?_)
        · simp
        · exact Can.weak (Weak.lit (by simp only [go_sem, seval, inR_len, inR_pure, sR_pure, subM, leV, inns, innr, V.inn, us, true_or, or_true] <;> ((try simp))) (by simp only [go_sem, seval, inR_len, inR_pure, sR_pure, subM, leV, inns, innr, V.inn, us, true_or, or_true]) (by simp only [go_sem, seval, inR_len, inR_pure, sR_pure, subM, leV, inns, innr, V.inn, us, true_or, or_true]))
        refine AWp.seq ?_
        refine AWp.seq ?_
        refine AWp.rgn [] (by simp only [go_sem, seval, inR_len, inR_pure, sR_pure]; rfl) ?_ ?_
        · (first | trivial | (simp; done) | (simp at h25; simp [h25]; done) | (simp at h53; simp [inR_get h53]; omega))
        refine AWp.condB (by simp only [go_sem, seval, inR_len, inR_pure, sR_pure]; rfl) (by simp only [go_sem, seval, inR_len, inR_pure, sR_pure]) (fun h53 => ?_) (fun h53 => ?_)
        · refine AWp.skip ?_
          refine AWp.seq ?_
          refine AWp.block ?_
          refine AWp.seq ?_
          refine AWp.rgnD [] enM (by simp only [go_sem, seval, inR_len, inR_pure, sR_pure, inR_get (show k < (prun l).1.length by simpa using h53)]; rfl) (by rfl) ?_ ?_
          · (first | trivial | (simp; done) | (simp at h25; simp [h25]; done) | (simp at h53; simp [inR_get h53]; omega))
          refine AWp.condB (by simp only [go_sem, seval, inR_len, inR_pure, sR_pure]; rfl) (by simp only [go_sem, seval, inR_len, inR_pure, sR_pure]) (fun h64 => ?_) (fun h64 => ?_)
          · simp at h64
          · refine AWp.skip ?_
            refine AWp.rgn [] (by simp only [go_sem, seval, inR_len, inR_pure, sR_pure]; rfl) ?_ ?_
            · (first | trivial | (simp; done) | (simp at h25; simp [h25]; done) | (simp at h53; simp [inR_get h53]; omega))
            refine Exists.intro (k + 1) ⟨?_, ?_, ?_⟩
            · simp at h53; omega
            · simp at h53; omega
            exact Can.weak (Weak.lit (by simp only [go_sem, seval, inR_len, inR_pure, sR_pure, subM, leV, inns, innr, V.inn, us, true_or, or_true] <;> (rw [wrap64 (by omega) (by omega)]; simp)) (by simp only [go_sem, seval, inR_len, inR_pure, sR_pure, subM, leV, inns, innr, V.inn, us, true_or, or_true]) (by simp only [go_sem, seval, inR_len, inR_pure, sR_pure, subM, leV, inns, innr, V.inn, us, true_or, or_true]))
        · refine AWp.exit ?_
          refine AWp.seq ?_
          refine AWp.rgn [] (by simp only [go_sem, seval, inR_len, inR_pure, sR_pure]; rfl) ?_ ?_
          · (first | trivial | (simp; done) | (simp at h25; simp [h25]; done) | (simp at h53; simp [inR_get h53]; omega))
          refine AWp.ret (And.intro (.inr rfl) ?_)
          exact Out.plain (by simp only [Tryz.results8]; rfl) (by simp only [resCs, resC, go_sem, seval, inR_len, inR_pure, sR_pure] <;> (split <;> rfl)) (by simp only [resV, go_sem, seval, inR_len, inR_pure, sR_pure] <;> (simp)) (by simp only [go_sem, seval, inR_len, inR_pure, sR_pure])
end Go.Proofs.YteihfmnmpdbkiaaGreatDoor
