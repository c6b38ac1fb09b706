/- The law FnBareRun: what it answers. Conditions: none. -/
import Derived.Test.YteihfmnmpdbkiaaGreatDoorK9
import Derived.Test.YteihfmnmpdbkiaaGreatDoorK7
set_option linter.unusedVariables false
set_option linter.unusedSimpArgs false
namespace Go.Proofs.YteihfmnmpdbkiaaGreatDoor
set_option maxRecDepth 100000
set_option maxHeartbeats 8000000

theorem said_len (l : List Bl) : (brun l).1.length ≤ 16 := by
  unfold brun
  split
  · rename_i h
    have := (runs_lt (l := l) (Nat.le_refl _) (lok_open h).2.1).2.2
    rwa [List.take_length] at this
  · simp
theorem ball_len (s : Str) : (ball s).1.length ≤ 16 := by
  unfold ball; split
  · exact said_len _
  · simp
theorem brun_pre {l : List Bl} {k : Nat} (h : (brun l).2 = true) (h1 : 1 ≤ k) (hk : k ≤ l.length) : (brun (l.take k)).2 = true ∧ (brun (l.take k)).1.length ≤ (brun l).1.length := by
  unfold brun at h ⊢
  split at h
  next hl =>
    have hl' : lok (l.take k) = true := by
      simp only [lok, Bool.and_eq_true, decide_eq_true_eq] at hl ⊢
      refine ⟨⟨by rw [List.length_take]; omega, by rw [List.length_take]; omega⟩, ?_⟩
      rw [List.all_eq_true] at *
      exact fun x hx => hl.2 x (List.mem_of_mem_take hx)
    rw [if_pos hl', if_pos hl]
    refine ⟨?_, ?_⟩
    · cases hq : (runs (l.take k)).ok with
      | true => rfl
      | false => rw [runs_stop hk hq, hq] at h; cases h
    · have e : runs l = (l.drop k).foldl stepR (runs (l.take k)) := by
        conv => lhs; rw [← List.take_append_drop k l]
        rw [runs_app]
      rw [e]
      exact (fold_said (l.drop k) (runs (l.take k))).length_le
  next hl => cases h
theorem allB_tk {l : List Bl} (h : allB l = true) (k : Nat) : allB (l.take k) = true := List.all_eq_true.2 fun x hx => List.all_eq_true.1 h x (List.mem_of_mem_take hx)
theorem bLR_tk (l : List Bl) (k : Nat) : (bLR l).take k = bLR (l.take k) := by simp [bLR, List.map_take]
/-- how many lines are run again -/
def nAg (n m : Nat) : Nat := 1 + n % m
theorem nAg_p {n m : Nat} (hm : 0 < m) : 1 ≤ nAg n m ∧ nAg n m ≤ m := by have := Nat.mod_lt n hm; unfold nAg; omega
theorem nAg_e {n m : Nat} (hm : 0 < m) (hb : m ≤ 1000) : IntKind.i64.wrap (1 + (n : Int).tmod m) = (nAg n m : Int) := by
  have e : (n : Int).tmod m = ((n % m : Nat) : Int) := by rw [Int.tmod_eq_emod_of_nonneg (by omega)]; rfl
  have := Nat.mod_lt n hm
  rw [e, wrap64 (by omega) (by omega)]; unfold nAg; omega
theorem lawBareRun_a (b c : Str) : ACall En 14 [.sl false (byR b), .sl false (byR c)] [] [.b true] [] := by
  have DA := DrawBareRun_a b
  have DB := DrawBareAll_a c
  obtain ⟨a1, a2⟩ := dBR_p (b.take 2000)
  have l1 := dBAl_len (c.take 2000)
  generalize dBR (b.take 2000) = l at *
  generalize dBAl (c.take 2000) = t at *
  have r1 := iBareRun_a l a2 (by omega)
  have r2 := sBareRun_a l a2 (by omega)
  have r3 := iBareAll_a t (by omega)
  have r4 := sBareAll_a t (by omega)
  have n1 := said_len l
  have n2 := ball_len t
  have n3 : (brun l).2 = true → 0 < l.length → _ := fun h h2 => brun_pre h (nAg_p (n := c.length) h2).1 (nAg_p h2).2
  have r5 := iBareRun_a (l.take (nAg c.length l.length)) (allB_tk a2 _) (by rw [List.length_take]; omega)
  generalize brun (l.take (nAg c.length l.length)) = w at *
  generalize brun l = u at *
  generalize ball t = v at *
  refine acall_of_body (fn := Tryz.f14) [] Tryz.func14 rfl rfl (by simp) fun C => ?_
  rw [entry_eq]
  simp only [Tryz.ntmps14, List.length_cons, List.length_nil, Nat.reduceAdd, Nat.reduceSub, List.replicate_succ, List.replicate_zero, List.cons_append, List.nil_append, numL]
  refine AWp.seq ?_
  refine AWp.rgn [] (by simp only [go_sem, seval, inR_len, inR_pure, bLR_len, bLR_pure, bLR_tk]; rfl) ?_ ?_
  · (first | trivial | (simp; done))
  refine AWp.seq ?_
  refine AWp.seq ?_
  refine AWp.rgn [] (by simp only [go_sem, seval, inR_len, inR_pure, bLR_len, bLR_pure, bLR_tk]; rfl) ?_ ?_
  · (first | trivial | (simp; done))
  refine AWp.condB (by simp only [go_sem, seval, inR_len, inR_pure, bLR_len, bLR_pure, bLR_tk]; rfl) (by simp only [go_sem, seval, inR_len, inR_pure, bLR_len, bLR_pure, bLR_tk]) (fun h27 => ?_) (fun h27 => ?_)
  · refine AWp.seq ?_
    refine AWp.rgn [] (by simp only [go_sem, seval, inR_len, inR_pure, bLR_len, bLR_pure, bLR_tk]; rfl) ?_ ?_
    · (first | trivial | (simp; done))
    refine AWp.ret (And.intro (.inr rfl) ?_)
    exact Out.plain (by simp only [Tryz.results14]; rfl) (by simp only [resCs, resC, go_sem, seval, inR_len, inR_pure, bLR_len, bLR_pure, bLR_tk] <;> (split <;> rfl)) (by simp only [resV, go_sem, seval, inR_len, inR_pure, bLR_len, bLR_pure, bLR_tk] <;> (rfl)) (by simp only [go_sem, seval, inR_len, inR_pure, bLR_len, bLR_pure, bLR_tk])
  · refine AWp.skip ?_
    refine AWp.seq ?_
    refine AWp.rgn [call0 DA] (by simp only [go_sem, seval, inR_len, inR_pure, bLR_len, bLR_pure, bLR_tk]; rfl) ?_ ?_
    · (first | trivial | (simp; done))
    refine AWp.seq ?_
    refine AWp.rgn [call0 r1] (by simp only [go_sem, seval, inR_len, inR_pure, bLR_len, bLR_pure, bLR_tk]; rfl) ?_ ?_
    · (first | trivial | (simp; done))
    refine AWp.seq ?_
    refine AWp.rgn [call0 r2] (by simp only [go_sem, seval, inR_len, inR_pure, bLR_len, bLR_pure, bLR_tk]; rfl) ?_ ?_
    · (first | trivial | (simp; done))
    refine AWp.seq ?_
    refine AWp.seq ?_
    refine AWp.rgn [] (by simp only [go_sem, seval, inR_len, inR_pure, bLR_len, bLR_pure, bLR_tk]; rfl) ?_ ?_
    · (first | trivial | (simp; done))
    refine AWp.condB (by simp only [go_sem, seval, inR_len, inR_pure, bLR_len, bLR_pure, bLR_tk]; rfl) (by simp only [go_sem, seval, inR_len, inR_pure, bLR_len, bLR_pure, bLR_tk]) (fun h49 => ?_) (fun h49 => ?_)
    · simp at h49
    · refine AWp.skip ?_
      refine AWp.seq ?_
      refine AWp.seq ?_
      refine AWp.rgn [] (by simp only [go_sem, seval, inR_len, inR_pure, bLR_len, bLR_pure, bLR_tk]; rfl) ?_ ?_
      · (first | trivial | (simp; done))
      refine AWp.block ?_
      refine AWp.loopK (fun k : Nat => ⟨[.no, .sl false (byR c), .no, .no, .no, .sl false (bLR l), .sl false (inR u.1), .b u.2, .sl false (inR u.1), .no, .i .i64 k, .no, .no, .no, .no, .no, .no, .no, .no, .no, .no, .no, .no, .no, .no, .no, .no, .no, .no, .no, .no, .no, .no, .no, .no, .no, .no, .no, .no, .no, .no, .no, .no, .no, .no, .no, .no, .no, .no, .no, .no, .no, .no, .no, .no, .no, .no, .no, .no, .no, .no, .no, .no, .no, .no, .no, .no, .no, .no, .no, .no, .no, .no, .no, .no, .no, .no, .no, .no, .no, .no, .no, .no, .no, .no, .no, .no, .no, .no, .no, .no, .no, .no, .no, .no, .no, .no, .no, .no, .no, .no, .no, .no, .no, .no, .no, .no, .no, .no, .no, .no, .no, .no, .no, .no, .no, .no, .no, .no, .no, .no, .no, .no, .no, .no, .no, .no, .no, .no, .no], memOf [], us []⟩) (fun k : Nat => k ≤ u.1.length) (fun k : Nat => u.1.length - k) (0) ?_ ?_ (fun k hI => ?_)
      · simp
      · exact Can.weak (Weak.lit (by simp only [go_sem, seval, inR_len, inR_pure, bLR_len, bLR_pure, bLR_tk, subM, leV, inns, innr, V.inn, us, true_or, or_true] <;> ((try simp))) (by simp only [go_sem, seval, inR_len, inR_pure, bLR_len, bLR_pure, bLR_tk, subM, leV, inns, innr, V.inn, us, true_or, or_true]) (by simp only [go_sem, seval, inR_len, inR_pure, bLR_len, bLR_pure, bLR_tk, subM, leV, inns, innr, V.inn, us, true_or, or_true]))
      refine AWp.seq ?_
      refine AWp.seq ?_
      refine AWp.rgn [] (by simp only [go_sem, seval, inR_len, inR_pure, bLR_len, bLR_pure, bLR_tk]; rfl) ?_ ?_
      · (first | trivial | (simp; done))
      refine AWp.condB (by simp only [go_sem, seval, inR_len, inR_pure, bLR_len, bLR_pure, bLR_tk]; rfl) (by simp only [go_sem, seval, inR_len, inR_pure, bLR_len, bLR_pure, bLR_tk]) (fun h53 => ?_) (fun h53 => ?_)
      · refine AWp.skip ?_
        refine AWp.seq ?_
        refine AWp.block ?_
        refine AWp.seq ?_
        refine AWp.rgnD [] enM (by simp only [go_sem, seval, inR_len, inR_pure, bLR_len, bLR_pure, bLR_tk, inR_get (show k < u.1.length by simpa using h53)]; rfl) (by rfl) ?_ ?_
        · simp at h53; simp; omega
        refine AWp.condB (by simp only [go_sem, seval, inR_len, inR_pure, bLR_len, bLR_pure, bLR_tk]; rfl) (by simp only [go_sem, seval, inR_len, inR_pure, bLR_len, bLR_pure, bLR_tk]) (fun h64 => ?_) (fun h64 => ?_)
        · simp at h64
        · refine AWp.skip ?_
          refine AWp.rgn [] (by simp only [go_sem, seval, inR_len, inR_pure, bLR_len, bLR_pure, bLR_tk]; rfl) ?_ ?_
          · (first | trivial | (simp; done))
          refine Exists.intro (k + 1) ⟨?_, ?_, ?_⟩
          · simp at h53; omega
          · simp at h53; omega
          exact Can.weak (Weak.lit (by simp only [go_sem, seval, inR_len, inR_pure, bLR_len, bLR_pure, bLR_tk, subM, leV, inns, innr, V.inn, us, true_or, or_true] <;> (rw [wrap64 (by simp at h53; omega) (by simp at h53; omega)]; (try simp))) (by simp only [go_sem, seval, inR_len, inR_pure, bLR_len, bLR_pure, bLR_tk, subM, leV, inns, innr, V.inn, us, true_or, or_true]) (by simp only [go_sem, seval, inR_len, inR_pure, bLR_len, bLR_pure, bLR_tk, subM, leV, inns, innr, V.inn, us, true_or, or_true]))
      · refine AWp.exit ?_
        refine AWp.seq ?_
        refine AWp.rgn [call0 DB] (by simp only [go_sem, seval, inR_len, inR_pure, bLR_len, bLR_pure, bLR_tk]; rfl) ?_ ?_
        · (first | trivial | (simp; done))
        refine AWp.seq ?_
        refine AWp.rgn [call0 r3] (by simp only [go_sem, seval, inR_len, inR_pure, bLR_len, bLR_pure, bLR_tk]; rfl) ?_ ?_
        · (first | trivial | (simp; done))
        refine AWp.seq ?_
        refine AWp.rgn [call0 r4] (by simp only [go_sem, seval, inR_len, inR_pure, bLR_len, bLR_pure, bLR_tk]; rfl) ?_ ?_
        · (first | trivial | (simp; done))
        refine AWp.seq ?_
        refine AWp.seq ?_
        refine AWp.rgn [] (by simp only [go_sem, seval, inR_len, inR_pure, bLR_len, bLR_pure, bLR_tk]; rfl) ?_ ?_
        · (first | trivial | (simp; done))
        refine AWp.condB (by simp only [go_sem, seval, inR_len, inR_pure, bLR_len, bLR_pure, bLR_tk]; rfl) (by simp only [go_sem, seval, inR_len, inR_pure, bLR_len, bLR_pure, bLR_tk]) (fun h86 => ?_) (fun h86 => ?_)
        · simp at h86
        · refine AWp.skip ?_
          refine AWp.seq ?_
          refine AWp.seq ?_
          refine AWp.rgn [] (by simp only [go_sem, seval, inR_len, inR_pure, bLR_len, bLR_pure, bLR_tk]; rfl) ?_ ?_
          · (first | trivial | (simp; done))
          refine AWp.block ?_
          refine AWp.loopK (fun k : Nat => ⟨[.no, .sl false (byR c), .no, .no, .no, .sl false (bLR l), .sl false (inR u.1), .b u.2, .no, .no, .no, .no, .sl false (inR v.1), .no, .sl false (inR v.1), .no, .i .i64 k, .no, .no, .no, .no, .no, .no, .no, .no, .no, .no, .no, .no, .no, .no, .no, .no, .no, .no, .no, .no, .no, .no, .no, .no, .no, .no, .no, .no, .no, .no, .no, .no, .no, .no, .no, .no, .no, .no, .no, .no, .no, .no, .no, .no, .no, .no, .no, .no, .no, .no, .no, .no, .no, .no, .no, .no, .no, .no, .no, .no, .no, .no, .no, .no, .no, .no, .no, .no, .no, .no, .no, .no, .no, .no, .no, .no, .no, .no, .no, .no, .no, .no, .no, .no, .no, .no, .no, .no, .no, .no, .no, .no, .no, .no, .no, .no, .no, .no, .no, .no, .no, .no, .no, .no, .no, .no, .no, .no, .no, .no, .no, .no, .no], memOf [], us []⟩) (fun k : Nat => k ≤ v.1.length) (fun k : Nat => v.1.length - k) (0) ?_ ?_ (fun k hI => ?_)
          · simp
          · exact Can.weak (Weak.lit (by simp only [go_sem, seval, inR_len, inR_pure, bLR_len, bLR_pure, bLR_tk, subM, leV, inns, innr, V.inn, us, true_or, or_true] <;> ((try simp))) (by simp only [go_sem, seval, inR_len, inR_pure, bLR_len, bLR_pure, bLR_tk, subM, leV, inns, innr, V.inn, us, true_or, or_true]) (by simp only [go_sem, seval, inR_len, inR_pure, bLR_len, bLR_pure, bLR_tk, subM, leV, inns, innr, V.inn, us, true_or, or_true]))
          refine AWp.seq ?_
          refine AWp.seq ?_
          refine AWp.rgn [] (by simp only [go_sem, seval, inR_len, inR_pure, bLR_len, bLR_pure, bLR_tk]; rfl) ?_ ?_
          · (first | trivial | (simp; done))
          refine AWp.condB (by simp only [go_sem, seval, inR_len, inR_pure, bLR_len, bLR_pure, bLR_tk]; rfl) (by simp only [go_sem, seval, inR_len, inR_pure, bLR_len, bLR_pure, bLR_tk]) (fun h90 => ?_) (fun h90 => ?_)
          · refine AWp.skip ?_
            refine AWp.seq ?_
            refine AWp.block ?_
            refine AWp.seq ?_
            refine AWp.rgnD [] enM (by simp only [go_sem, seval, inR_len, inR_pure, bLR_len, bLR_pure, bLR_tk, inR_get (show k < v.1.length by simpa using h90)]; rfl) (by rfl) ?_ ?_
            · simp at h90; simp; omega
            refine AWp.condB (by simp only [go_sem, seval, inR_len, inR_pure, bLR_len, bLR_pure, bLR_tk]; rfl) (by simp only [go_sem, seval, inR_len, inR_pure, bLR_len, bLR_pure, bLR_tk]) (fun h101 => ?_) (fun h101 => ?_)
            · simp at h101
            · refine AWp.skip ?_
              refine AWp.rgn [] (by simp only [go_sem, seval, inR_len, inR_pure, bLR_len, bLR_pure, bLR_tk]; rfl) ?_ ?_
              · (first | trivial | (simp; done))
              refine Exists.intro (k + 1) ⟨?_, ?_, ?_⟩
              · simp at h90; omega
              · simp at h90; omega
              exact Can.weak (Weak.lit (by simp only [go_sem, seval, inR_len, inR_pure, bLR_len, bLR_pure, bLR_tk, subM, leV, inns, innr, V.inn, us, true_or, or_true] <;> (rw [wrap64 (by simp at h90; omega) (by simp at h90; omega)]; (try simp))) (by simp only [go_sem, seval, inR_len, inR_pure, bLR_len, bLR_pure, bLR_tk, subM, leV, inns, innr, V.inn, us, true_or, or_true]) (by simp only [go_sem, seval, inR_len, inR_pure, bLR_len, bLR_pure, bLR_tk, subM, leV, inns, innr, V.inn, us, true_or, or_true]))
          · refine AWp.exit ?_
            refine AWp.seq ?_
            refine AWp.seq ?_
            refine AWp.rgn [] (by simp only [go_sem, seval, inR_len, inR_pure, bLR_len, bLR_pure, bLR_tk]; rfl) ?_ ?_
            · (first | trivial | (simp; done))
            refine AWp.condB (by simp only [go_sem, seval, inR_len, inR_pure, bLR_len, bLR_pure, bLR_tk]; rfl) (by simp only [go_sem, seval, inR_len, inR_pure, bLR_len, bLR_pure, bLR_tk]) (fun h108 => ?_) (fun h108 => ?_)
            · refine AWp.seq ?_
              refine AWp.rgn [] (by simp only [go_sem, seval, inR_len, inR_pure, bLR_len, bLR_pure, bLR_tk]; rfl) ?_ ?_
              · (first | trivial | (simp; done))
              refine AWp.ret (And.intro (.inr rfl) ?_)
              exact Out.plain (by simp only [Tryz.results14]; rfl) (by simp only [resCs, resC, go_sem, seval, inR_len, inR_pure, bLR_len, bLR_pure, bLR_tk] <;> (split <;> rfl)) (by simp only [resV, go_sem, seval, inR_len, inR_pure, bLR_len, bLR_pure, bLR_tk] <;> (rfl)) (by simp only [go_sem, seval, inR_len, inR_pure, bLR_len, bLR_pure, bLR_tk])
            · refine AWp.skip ?_
              refine AWp.seq ?_
              refine AWp.rgn [] (by simp only [go_sem, seval, inR_len, inR_pure, bLR_len, bLR_pure, bLR_tk]; rfl) ?_ ?_
              · simp only [Bool.or_eq_false_iff, beq_eq_false_iff_ne] at h108; exact h108.1
              refine AWp.seq ?_
              refine AWp.rgn [call0 r5] (by simp only [go_sem, seval, inR_len, inR_pure, bLR_len, bLR_pure, bLR_tk]; rfl) ?_ ?_
              · (simp only [Bool.or_eq_false_iff, beq_eq_false_iff_ne] at h108; (have hm : 0 < l.length := (by omega); have q := nAg_p (n := c.length) hm; rw [nAg_e hm (by omega), Int.toNat_natCast]; exact ⟨⟨by omega, by omega, Int.le_refl _, by simp⟩, ler_refl _⟩))
              refine AWp.seq ?_
              refine AWp.rgn [] (by simp only [go_sem, seval, inR_len, inR_pure, bLR_len, bLR_pure, bLR_tk]; rfl) ?_ ?_
              · (first | trivial | (simp; done))
              refine AWp.ret (And.intro (.inr rfl) ?_)
              exact Out.plain (by simp only [Tryz.results14]; rfl) (by simp only [resCs, resC, go_sem, seval, inR_len, inR_pure, bLR_len, bLR_pure, bLR_tk] <;> (split <;> rfl)) (by simp only [resV, go_sem, seval, inR_len, inR_pure, bLR_len, bLR_pure, bLR_tk] <;> (simp only [Bool.or_eq_false_iff, beq_eq_false_iff_ne, Bool.not_eq_false'] at h108; have q := n3 h108.2 (by omega); rw [q.1, decide_eq_true (by omega)]; rfl)) (by simp only [go_sem, seval, inR_len, inR_pure, bLR_len, bLR_pure, bLR_tk])
end Go.Proofs.YteihfmnmpdbkiaaGreatDoor
