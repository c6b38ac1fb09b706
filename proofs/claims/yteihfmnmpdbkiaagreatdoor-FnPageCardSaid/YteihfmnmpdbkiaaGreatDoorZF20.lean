/- The law FnPage: what it answers. Conditions: none. -/
import Derived.Test.YteihfmnmpdbkiaaGreatDoorK11
set_option linter.unusedVariables false
set_option linter.unusedSimpArgs false
namespace Go.Proofs.YteihfmnmpdbkiaaGreatDoor
set_option maxRecDepth 100000
set_option maxHeartbeats 8000000

theorem pgR_one (p : Pg) : pgR [p] = [pgC p] := rfl
theorem pgOf_frm (s : Str) : (pgOf s).frm.length ≤ 1000000 := by
  unfold pgOf
  split
  · cases h : stmtR s with
    | none => simp
    | some x => have := emFL (stmtR_iff.1 h).1; dsimp only; omega
  · simp [Pg0]
theorem bofOk_txt {s : Sl} (h : sok s = true) : btxt (bofOk s) = emT s := by
  unfold bofOk emT btxt
  rw [if_pos h, if_pos h, if_pos (bok_bof h)]
theorem bofOk_smb {s : Sl} (hs : sms' s = true) : smb (bofOk s) = true := by
  unfold bofOk; split
  · exact smb_bof hs
  · exact smb_B0
theorem lawPage_a (c : Str) : ACall En 13 [.sl false (byR c)] [] [.b true] [] := by
  have DA := DrawPageOf_a c
  have l1 := dPg_len (c.take 2000)
  generalize dPg (c.take 2000) = s at *
  have PI := iPageOf_a s (by omega)
  have PS := sPageOf_a s (by omega)
  have W := wbSame_a [pgOf s] [pgOf s] (by simp) (by simp) (fun p hp => by simp at hp; subst hp; exact Nat.le_trans (pgOf_frm s) (by decide))
  have X1 := stmtR_sm s
  have X2 := @stmtR_ok s
  have P1 := @pgOf_no s
  have P2 := @pgOf_bad s
  have P3 := @pgOf_ok s
  have X3 := @isLn_stmt s
  have R := iStmtRead_a s (by omega)
  have B1 := @bofOk_txt ((stmtR s).getD S0)
  rw [pgR_one] at W
  generalize (stmtR s).getD S0 = x at *
  generalize (stmtR s).isSome = ok at *
  generalize pgOf s = p at *
  refine acall_of_body (fn := Tryz.f13) [] Tryz.func13 rfl rfl (by simp) fun C => ?_
  rw [entry_eq]
  simp only [Tryz.ntmps13, List.length_cons, List.length_nil, Nat.reduceAdd, Nat.reduceSub, List.replicate_succ, List.replicate_zero, List.cons_append, List.nil_append, numL]
  refine AWp.seq ?_
  refine AWp.rgn [] (by simp only [go_sem, seval, sC_eq, bC_eq, inR_pure, inR_len, pgC_eq, pgR_one]; rfl) ?_ ?_
  · (first | trivial | (simp; done) | exact fun h => ⟨h, fun h2 => by rw [h, h2]; rfl⟩)
  refine AWp.seq ?_
  refine AWp.seq ?_
  refine AWp.rgn [] (by simp only [go_sem, seval, sC_eq, bC_eq, inR_pure, inR_len, pgC_eq, pgR_one]; rfl) ?_ ?_
  · (first | trivial | (simp; done) | exact fun h => ⟨h, fun h2 => by rw [h, h2]; rfl⟩)
  refine AWp.condB (by simp only [go_sem, seval, sC_eq, bC_eq, inR_pure, inR_len, pgC_eq, pgR_one]; rfl) (by simp only [go_sem, seval, sC_eq, bC_eq, inR_pure, inR_len, pgC_eq, pgR_one]) (fun h12 => ?_) (fun h12 => ?_)
  · refine AWp.seq ?_
    refine AWp.rgn [] (by simp only [go_sem, seval, sC_eq, bC_eq, inR_pure, inR_len, pgC_eq, pgR_one]; rfl) ?_ ?_
    · (first | trivial | (simp; done) | exact fun h => ⟨h, fun h2 => by rw [h, h2]; rfl⟩)
    refine AWp.ret (And.intro (.inr rfl) ?_)
    exact Out.plain (by simp only [Tryz.results13]; rfl) (by simp only [resCs, resC, go_sem, seval, sC_eq, bC_eq, inR_pure, inR_len, pgC_eq, pgR_one] <;> (split <;> rfl)) (by simp only [resV, go_sem, seval, sC_eq, bC_eq, inR_pure, inR_len, pgC_eq, pgR_one] <;> (rfl)) (by simp only [go_sem, seval, sC_eq, bC_eq, inR_pure, inR_len, pgC_eq, pgR_one])
  · refine AWp.skip ?_
    refine AWp.seq ?_
    refine AWp.rgn [call0 DA] (by simp only [go_sem, seval, sC_eq, bC_eq, inR_pure, inR_len, pgC_eq, pgR_one]; rfl) ?_ ?_
    · (first | trivial | (simp; done) | exact fun h => ⟨h, fun h2 => by rw [h, h2]; rfl⟩)
    refine AWp.seq ?_
    refine AWp.rgn [call0 PI] (by simp only [go_sem, seval, sC_eq, bC_eq, inR_pure, inR_len, pgC_eq, pgR_one]; rfl) ?_ ?_
    · (first | trivial | (simp; done) | exact fun h => ⟨h, fun h2 => by rw [h, h2]; rfl⟩)
    refine AWp.seq ?_
    refine AWp.rgn [call0 PS] (by simp only [go_sem, seval, sC_eq, bC_eq, inR_pure, inR_len, pgC_eq, pgR_one]; rfl) ?_ ?_
    · (first | trivial | (simp; done) | exact fun h => ⟨h, fun h2 => by rw [h, h2]; rfl⟩)
    refine AWp.seq ?_
    refine AWp.seq ?_
    refine AWp.rgn [call0 W] (by simp only [go_sem, seval, sC_eq, bC_eq, inR_pure, inR_len, pgC_eq, pgR_one]; rfl) ?_ ?_
    · (first | trivial | (simp; done) | exact fun h => ⟨h, fun h2 => by rw [h, h2]; rfl⟩)
    refine AWp.condB (by simp only [go_sem, seval, sC_eq, bC_eq, inR_pure, inR_len, pgC_eq, pgR_one]; rfl) (by simp only [go_sem, seval, sC_eq, bC_eq, inR_pure, inR_len, pgC_eq, pgR_one]) (fun h24 => ?_) (fun h24 => ?_)
    · simp at h24
    · refine AWp.skip ?_
      refine AWp.seq ?_
      refine AWp.rgn [call0 R] (by simp only [go_sem, seval, sC_eq, bC_eq, inR_pure, inR_len, pgC_eq, pgR_one]; rfl) ?_ ?_
      · (first | trivial | (simp; done) | exact fun h => ⟨h, fun h2 => by rw [h, h2]; rfl⟩)
      refine AWp.seq ?_
      refine AWp.seq ?_
      refine AWp.rgn [] (by simp only [go_sem, seval, sC_eq, bC_eq, inR_pure, inR_len, pgC_eq, pgR_one]; rfl) ?_ ?_
      · (first | trivial | (simp; done) | exact fun h => ⟨h, fun h2 => by rw [h, h2]; rfl⟩)
      refine AWp.condB (by simp only [go_sem, seval, sC_eq, bC_eq, inR_pure, inR_len, pgC_eq, pgR_one]; rfl) (by simp only [go_sem, seval, sC_eq, bC_eq, inR_pure, inR_len, pgC_eq, pgR_one]) (fun h31 => ?_) (fun h31 => ?_)
      · refine AWp.seq ?_
        refine AWp.rgn [] (by simp only [go_sem, seval, sC_eq, bC_eq, inR_pure, inR_len, pgC_eq, pgR_one]; rfl) ?_ ?_
        · (first | trivial | (simp; done) | exact fun h => ⟨h, fun h2 => by rw [h, h2]; rfl⟩)
        refine AWp.ret (And.intro (.inr rfl) ?_)
        exact Out.plain (by simp only [Tryz.results13]; rfl) (by simp only [resCs, resC, go_sem, seval, sC_eq, bC_eq, inR_pure, inR_len, pgC_eq, pgR_one] <;> (split <;> rfl)) (by simp only [resV, go_sem, seval, sC_eq, bC_eq, inR_pure, inR_len, pgC_eq, pgR_one] <;> (have k : ok = false := (by simpa using h31); cases hs : isLn s with | true => (rw [P2 hs k]; simp) | false => (rw [P1 hs]; simp [Pg0]))) (by simp only [go_sem, seval, sC_eq, bC_eq, inR_pure, inR_len, pgC_eq, pgR_one])
      · refine AWp.skip ?_
        refine AWp.seq ?_
        refine AWp.rgn [call0 (iEmitLine_a x X1)] (by simp only [go_sem, seval, sC_eq, bC_eq, inR_pure, inR_len, pgC_eq, pgR_one]; rfl) ?_ ?_
        · (first | trivial | (simp; done) | exact fun h => ⟨h, fun h2 => by rw [h, h2]; rfl⟩)
        refine AWp.seq ?_
        refine AWp.rgnD [call0 (iBareOf_a x X1), call0 (iBareText_a (bofOk x) (bofOk_smb X1))] enM (by simp only [go_sem, seval, sC_eq, bC_eq, inR_pure, inR_len, pgC_eq, pgR_one]; rfl) (by rfl) ?_ ?_
        · (first | trivial | (simp; done) | exact fun h => ⟨h, fun h2 => by rw [h, h2]; rfl⟩)
        refine AWp.ret (And.intro (.inr rfl) ?_)
        exact Out.plain (by simp only [Tryz.results13]; rfl) (by simp only [resCs, resC, go_sem, seval, sC_eq, bC_eq, inR_pure, inR_len, pgC_eq, pgR_one] <;> (split <;> rfl)) (by simp only [resV, go_sem, seval, sC_eq, bC_eq, inR_pure, inR_len, pgC_eq, pgR_one] <;> (have k : ok = true := (by simpa using h31); rw [P3 (X3 k) k, B1 (X2 k)]; simp)) (by simp only [go_sem, seval, sC_eq, bC_eq, inR_pure, inR_len, pgC_eq, pgR_one])
end Go.Proofs.YteihfmnmpdbkiaaGreatDoor
