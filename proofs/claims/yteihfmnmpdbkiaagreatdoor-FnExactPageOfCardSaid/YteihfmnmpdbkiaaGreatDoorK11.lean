/- Parts of the proof, one after another: Lines, drawn and torn. | A line, drawn for a page. | Pages: what is new in them. Conditions: none. -/
import Derived.Test.YteihfmnmpdbkiaaGreatDoorK10
import Derived.Test.YteihfmnmpdbkiaaGreatDoorK8
set_option linter.unusedVariables false
set_option linter.unusedSimpArgs false
namespace Go.Proofs.YteihfmnmpdbkiaaGreatDoor
section
set_option maxRecDepth 100000
set_option maxHeartbeats 4000000
end

section
set_option maxRecDepth 100000
set_option maxHeartbeats 4000000
end

section
set_option maxRecDepth 100000
set_option maxHeartbeats 4000000

theorem pg_eqs {p q : Pg} : (p = q) ↔ (p.line = q.line ∧ p.good = q.good ∧ p.text = q.text ∧ p.frm = q.frm) := by
  constructor
  · rintro rfl; exact ⟨rfl, rfl, rfl, rfl⟩
  · intro h; obtain ⟨a, b, c, d⟩ := p; obtain ⟨a', b', c', d'⟩ := q; simp_all
def pgO (l : Nat) (p : Pg) : List V := [.s p.line, .b p.good, .s p.text, .ow l 1 0 p.frm.length]
theorem pgO_eq (l : Nat) (p : Pg) : pgO l p = [.s p.line, .b p.good, .s p.text, .ow l 1 0 p.frm.length] := rfl
theorem iPageOfO_a (s : Str) (hs : s.length ≤ 281474976710656) : ACall En 55 [.s s] [] [.ag (pgO 0 (pgOf s))] [⟨3, 1, inR (pgOf s).frm⟩] := by
  have X1 := stmtR_sm s
  have X2 := @stmtR_ok s
  have P1 := @pgOf_no s
  have P2 := @pgOf_bad s
  have P3 := @pgOf_ok s
  have R := iStmtRead_a s hs
  generalize (stmtR s).getD S0 = x at *
  generalize (stmtR s).isSome = ok at *
  refine acall_of_body (fn := Tryz.f55) [38] Tryz.func55 rfl rfl (by simp) fun C => ?_
  rw [entry_eq]
  simp only [Tryz.ntmps55, List.length_cons, List.length_nil, Nat.reduceAdd, Nat.reduceSub, List.replicate_succ, List.replicate_zero, List.cons_append, List.nil_append, numL]
  refine AWp.seq ?_
  refine AWp.rgn [] (by simp only [go_sem, seval, sC_eq, inR_pure, inR_len, pgO_eq]; rfl) ?_ ?_
  · (first | trivial | (simp; done) | (simpa using h17) | exact ⟨by simpa using h17, rfl⟩)
  refine AWp.seq ?_
  refine AWp.seq ?_
  refine AWp.rgn [call0 (isLine_a s hs)] (by simp only [go_sem, seval, sC_eq, inR_pure, inR_len, pgO_eq]; rfl) ?_ ?_
  · (first | trivial | (simp; done) | (simpa using h17) | exact ⟨by simpa using h17, rfl⟩)
  refine AWp.condB (by simp only [go_sem, seval, sC_eq, inR_pure, inR_len, pgO_eq]; rfl) (by simp only [go_sem, seval, sC_eq, inR_pure, inR_len, pgO_eq]) (fun h9 => ?_) (fun h9 => ?_)
  · refine AWp.seq ?_
    refine AWp.rgn [] (by simp only [go_sem, seval, sC_eq, inR_pure, inR_len, pgO_eq]; rfl) ?_ ?_
    · (first | trivial | (simp; done) | (simpa using h17) | exact ⟨by simpa using h17, rfl⟩)
    refine AWp.can (Can.ownCell 12 3 38 3 1 (by simp only [go_sem, seval, sC_eq, inR_pure, inR_len, pgO_eq] <;> rfl) (by simp only [go_sem, seval, sC_eq, inR_pure, inR_len, pgO_eq] <;> rfl) (by simp only [go_sem, seval, sC_eq, inR_pure, inR_len, pgO_eq] <;> rfl) (by simp only [go_sem, seval, sC_eq, inR_pure, inR_len, pgO_eq] <;> rfl) (by simp only [go_sem, seval, sC_eq, inR_pure, inR_len, pgO_eq] <;> rfl)) ?_
    refine AWp.ret (And.intro (.inr rfl) ?_)
    exact Out.mem' (by simp only [Tryz.results55]; rfl) (by simp only [resCs, resC, go_sem, seval, sC_eq, inR_pure, inR_len, pgO_eq]) (by simp only [resV, rns, rn, go_sem, seval, sC_eq, inR_pure, inR_len, pgO_eq] <;> (rw [P1 (by simpa using h9)]; simp [Pg0])) (by simp) rfl (by decide) (by simp only [go_sem, seval, sC_eq, inR_pure, inR_len, pgO_eq]) (by simp only [clrs, go_sem, seval, sC_eq, inR_pure, inR_len, pgO_eq]) (by simp only [memEq, go_sem, seval, sC_eq, inR_pure, inR_len, pgO_eq] <;> (rw [P1 (by simpa using h9)]; simp [Pg0, inR]))
  · refine AWp.skip ?_
    refine AWp.seq ?_
    refine AWp.rgn [call0 R] (by simp only [go_sem, seval, sC_eq, inR_pure, inR_len, pgO_eq]; rfl) ?_ ?_
    · (first | trivial | (simp; done) | (simpa using h17) | exact ⟨by simpa using h17, rfl⟩)
    refine AWp.seq ?_
    refine AWp.seq ?_
    refine AWp.rgn [] (by simp only [go_sem, seval, sC_eq, inR_pure, inR_len, pgO_eq]; rfl) ?_ ?_
    · (first | trivial | (simp; done) | (simpa using h17) | exact ⟨by simpa using h17, rfl⟩)
    refine AWp.condB (by simp only [go_sem, seval, sC_eq, inR_pure, inR_len, pgO_eq]; rfl) (by simp only [go_sem, seval, sC_eq, inR_pure, inR_len, pgO_eq]) (fun h17 => ?_) (fun h17 => ?_)
    · refine AWp.seq ?_
      refine AWp.rgn [] (by simp only [go_sem, seval, sC_eq, inR_pure, inR_len, pgO_eq]; rfl) ?_ ?_
      · (first | trivial | (simp; done) | (simpa using h17) | exact ⟨by simpa using h17, rfl⟩)
      refine AWp.can (Can.ownCell 12 3 38 3 1 (by simp only [go_sem, seval, sC_eq, inR_pure, inR_len, pgO_eq] <;> rfl) (by simp only [go_sem, seval, sC_eq, inR_pure, inR_len, pgO_eq] <;> rfl) (by simp only [go_sem, seval, sC_eq, inR_pure, inR_len, pgO_eq] <;> rfl) (by simp only [go_sem, seval, sC_eq, inR_pure, inR_len, pgO_eq] <;> rfl) (by simp only [go_sem, seval, sC_eq, inR_pure, inR_len, pgO_eq] <;> rfl)) ?_
      refine AWp.ret (And.intro (.inr rfl) ?_)
      exact Out.mem' (by simp only [Tryz.results55]; rfl) (by simp only [resCs, resC, go_sem, seval, sC_eq, inR_pure, inR_len, pgO_eq]) (by simp only [resV, rns, rn, go_sem, seval, sC_eq, inR_pure, inR_len, pgO_eq] <;> (rw [P2 (by simpa using h9) (by simpa using h17)]; simp)) (by simp) rfl (by decide) (by simp only [go_sem, seval, sC_eq, inR_pure, inR_len, pgO_eq]) (by simp only [clrs, go_sem, seval, sC_eq, inR_pure, inR_len, pgO_eq]) (by simp only [memEq, go_sem, seval, sC_eq, inR_pure, inR_len, pgO_eq] <;> (rw [P2 (by simpa using h9) (by simpa using h17)]; simp [inR]))
    · refine AWp.skip ?_
      refine AWp.seq ?_
      refine AWp.rgn [callI (ok = true) (fun h => emit_f x (X2 h) X1)] (by simp only [go_sem, seval, sC_eq, inR_pure, inR_len, pgO_eq]; rfl) ?_ ?_
      · (first | trivial | (simp; done) | (simpa using h17) | exact ⟨by simpa using h17, rfl⟩)
      refine AWp.seq ?_
      refine AWp.rgn [callNI [] [38] (ok = true) (fun h => cloneI_a (emF x) (by have := emFL (X2 h); omega))] (by simp only [go_sem, seval, sC_eq, inR_pure, inR_len, pgO_eq]; rfl) ?_ ?_
      · (first | trivial | (simp; done) | (simpa using h17) | exact ⟨by simpa using h17, rfl⟩)
      refine AWp.ret (And.intro (.inr rfl) ?_)
      exact Out.mem' (by simp only [Tryz.results55]; rfl) (by simp only [resCs, resC, go_sem, seval, sC_eq, inR_pure, inR_len, pgO_eq]) (by simp only [resV, rns, rn, go_sem, seval, sC_eq, inR_pure, inR_len, pgO_eq] <;> (rw [P3 (by simpa using h9) (by simpa using h17)])) (by simp) rfl (by decide) (by simp only [go_sem, seval, sC_eq, inR_pure, inR_len, pgO_eq]) (by simp only [clrs, go_sem, seval, sC_eq, inR_pure, inR_len, pgO_eq]) (by simp only [memEq, go_sem, seval, sC_eq, inR_pure, inR_len, pgO_eq] <;> (rw [P3 (by simpa using h9) (by simpa using h17)]))
theorem eqPageO_a (p q : Pg) (hp : p.frm.length ≤ 1000000) (hq : q.frm.length ≤ 1000000) : ACall En 56 [.ag (pgO 0 p), .ag (pgC q)] [⟨3, 1, inR p.frm⟩] [.b (decide (p = q))] [⟨3, 1, inR p.frm⟩] := by
  have T := @pg_eqs p q
  refine acall_of_body (fn := Tryz.f56) [0] Tryz.func56 rfl rfl (by simp) fun C => ?_
  rw [entry_eq]
  simp only [Tryz.ntmps56, List.length_cons, List.length_nil, Nat.reduceAdd, Nat.reduceSub, List.replicate_succ, List.replicate_zero, List.cons_append, List.nil_append, numL]
  refine AWp.seq ?_
  refine AWp.rgn [] (by simp only [go_sem, seval, pgO_eq, pgC_eq, inR_pure, inR_len, memEq, clrs]; rfl) ?_ ?_
  · (first | trivial | (simp; done) | (rw [List.take_of_length_le (by simp [inR_len])]; exact ler_refl _))
  refine AWp.seq ?_
  refine AWp.seq ?_
  refine AWp.rgn [] (by simp only [go_sem, seval, pgO_eq, pgC_eq, inR_pure, inR_len, memEq, clrs]; rfl) ?_ ?_
  · (first | trivial | (simp; done) | (rw [List.take_of_length_le (by simp [inR_len])]; exact ler_refl _))
  refine AWp.condB (by simp only [go_sem, seval, pgO_eq, pgC_eq, inR_pure, inR_len, memEq, clrs]; rfl) (by simp only [go_sem, seval, pgO_eq, pgC_eq, inR_pure, inR_len, memEq, clrs]) (fun h9 => ?_) (fun h9 => ?_)
  · refine AWp.seq ?_
    refine AWp.rgn [] (by simp only [go_sem, seval, pgO_eq, pgC_eq, inR_pure, inR_len, memEq, clrs]; rfl) ?_ ?_
    · (first | trivial | (simp; done) | (rw [List.take_of_length_le (by simp [inR_len])]; exact ler_refl _))
    refine AWp.ret (And.intro (.inr rfl) ?_)
    exact Out.mem' (by simp only [Tryz.results56]; rfl) (by simp only [resCs, resC, go_sem, seval, pgO_eq, pgC_eq, inR_pure, inR_len, memEq, clrs]) (by simp only [resV, rns, rn, go_sem, seval, pgO_eq, pgC_eq, inR_pure, inR_len, memEq, clrs] <;> (rw [decide_eq_false (fun e => by rw [e] at h9; simp at h9)])) (by simp) rfl (by decide) (by simp only [go_sem, seval, pgO_eq, pgC_eq, inR_pure, inR_len, memEq, clrs]) (by simp only [clrs, go_sem, seval, pgO_eq, pgC_eq, inR_pure, inR_len, memEq, clrs]) (by simp only [memEq, go_sem, seval, pgO_eq, pgC_eq, inR_pure, inR_len, memEq, clrs] <;> (simp))
  · refine AWp.skip ?_
    refine AWp.seq ?_
    refine AWp.seq ?_
    refine AWp.rgn [] (by simp only [go_sem, seval, pgO_eq, pgC_eq, inR_pure, inR_len, memEq, clrs]; rfl) ?_ ?_
    · (first | trivial | (simp; done) | (rw [List.take_of_length_le (by simp [inR_len])]; exact ler_refl _))
    refine AWp.condB (by simp only [go_sem, seval, pgO_eq, pgC_eq, inR_pure, inR_len, memEq, clrs]; rfl) (by simp only [go_sem, seval, pgO_eq, pgC_eq, inR_pure, inR_len, memEq, clrs]) (fun h14 => ?_) (fun h14 => ?_)
    · refine AWp.seq ?_
      refine AWp.rgn [] (by simp only [go_sem, seval, pgO_eq, pgC_eq, inR_pure, inR_len, memEq, clrs]; rfl) ?_ ?_
      · (first | trivial | (simp; done) | (rw [List.take_of_length_le (by simp [inR_len])]; exact ler_refl _))
      refine AWp.ret (And.intro (.inr rfl) ?_)
      exact Out.mem' (by simp only [Tryz.results56]; rfl) (by simp only [resCs, resC, go_sem, seval, pgO_eq, pgC_eq, inR_pure, inR_len, memEq, clrs]) (by simp only [resV, rns, rn, go_sem, seval, pgO_eq, pgC_eq, inR_pure, inR_len, memEq, clrs] <;> (rw [decide_eq_false (fun e => by rw [e] at h14; simp at h14)])) (by simp) rfl (by decide) (by simp only [go_sem, seval, pgO_eq, pgC_eq, inR_pure, inR_len, memEq, clrs]) (by simp only [clrs, go_sem, seval, pgO_eq, pgC_eq, inR_pure, inR_len, memEq, clrs]) (by simp only [memEq, go_sem, seval, pgO_eq, pgC_eq, inR_pure, inR_len, memEq, clrs] <;> (simp))
    · refine AWp.skip ?_
      refine AWp.seq ?_
      refine AWp.seq ?_
      refine AWp.rgn [] (by simp only [go_sem, seval, pgO_eq, pgC_eq, inR_pure, inR_len, memEq, clrs]; rfl) ?_ ?_
      · (first | trivial | (simp; done) | (rw [List.take_of_length_le (by simp [inR_len])]; exact ler_refl _))
      refine AWp.condB (by simp only [go_sem, seval, pgO_eq, pgC_eq, inR_pure, inR_len, memEq, clrs]; rfl) (by simp only [go_sem, seval, pgO_eq, pgC_eq, inR_pure, inR_len, memEq, clrs]) (fun h19 => ?_) (fun h19 => ?_)
      · refine AWp.seq ?_
        refine AWp.rgn [] (by simp only [go_sem, seval, pgO_eq, pgC_eq, inR_pure, inR_len, memEq, clrs]; rfl) ?_ ?_
        · (first | trivial | (simp; done) | (rw [List.take_of_length_le (by simp [inR_len])]; exact ler_refl _))
        refine AWp.ret (And.intro (.inr rfl) ?_)
        exact Out.mem' (by simp only [Tryz.results56]; rfl) (by simp only [resCs, resC, go_sem, seval, pgO_eq, pgC_eq, inR_pure, inR_len, memEq, clrs]) (by simp only [resV, rns, rn, go_sem, seval, pgO_eq, pgC_eq, inR_pure, inR_len, memEq, clrs] <;> (rw [decide_eq_false (fun e => by rw [e] at h19; simp at h19)])) (by simp) rfl (by decide) (by simp only [go_sem, seval, pgO_eq, pgC_eq, inR_pure, inR_len, memEq, clrs]) (by simp only [clrs, go_sem, seval, pgO_eq, pgC_eq, inR_pure, inR_len, memEq, clrs]) (by simp only [memEq, go_sem, seval, pgO_eq, pgC_eq, inR_pure, inR_len, memEq, clrs] <;> (simp))
      · refine AWp.skip ?_
        refine AWp.seq ?_
        refine AWp.seq ?_
        refine AWp.rgn [callB (eqIntS_a p.frm q.frm (by omega) (by omega))] (by simp only [go_sem, seval, pgO_eq, pgC_eq, inR_pure, inR_len, memEq, clrs]; rfl) ?_ ?_
        · (first | trivial | (simp; done) | (rw [List.take_of_length_le (by simp [inR_len])]; exact ler_refl _))
        refine AWp.condB (by simp only [go_sem, seval, pgO_eq, pgC_eq, inR_pure, inR_len, memEq, clrs]; rfl) (by simp only [go_sem, seval, pgO_eq, pgC_eq, inR_pure, inR_len, memEq, clrs]) (fun h25 => ?_) (fun h25 => ?_)
        · refine AWp.seq ?_
          refine AWp.rgn [] (by simp only [go_sem, seval, pgO_eq, pgC_eq, inR_pure, inR_len, memEq, clrs]; rfl) ?_ ?_
          · (first | trivial | (simp; done) | (rw [List.take_of_length_le (by simp [inR_len])]; exact ler_refl _))
          refine AWp.ret (And.intro (.inr rfl) ?_)
          exact Out.mem' (by simp only [Tryz.results56]; rfl) (by simp only [resCs, resC, go_sem, seval, pgO_eq, pgC_eq, inR_pure, inR_len, memEq, clrs]) (by simp only [resV, rns, rn, go_sem, seval, pgO_eq, pgC_eq, inR_pure, inR_len, memEq, clrs] <;> (rw [decide_eq_false (fun e => by rw [e] at h25; simp at h25)])) (by simp) rfl (by decide) (by simp only [go_sem, seval, pgO_eq, pgC_eq, inR_pure, inR_len, memEq, clrs]) (by simp only [clrs, go_sem, seval, pgO_eq, pgC_eq, inR_pure, inR_len, memEq, clrs]) (by simp only [memEq, go_sem, seval, pgO_eq, pgC_eq, inR_pure, inR_len, memEq, clrs] <;> (simp))
        · refine AWp.skip ?_
          refine AWp.seq ?_
          refine AWp.rgn [] (by simp only [go_sem, seval, pgO_eq, pgC_eq, inR_pure, inR_len, memEq, clrs]; rfl) ?_ ?_
          · (first | trivial | (simp; done) | (rw [List.take_of_length_le (by simp [inR_len])]; exact ler_refl _))
          refine AWp.ret (And.intro (.inr rfl) ?_)
          exact Out.mem' (by simp only [Tryz.results56]; rfl) (by simp only [resCs, resC, go_sem, seval, pgO_eq, pgC_eq, inR_pure, inR_len, memEq, clrs]) (by simp only [resV, rns, rn, go_sem, seval, pgO_eq, pgC_eq, inR_pure, inR_len, memEq, clrs] <;> (rw [decide_eq_true (T.2 ⟨by simpa using h9, by simpa using h14, by simpa using h19, by simpa using h25⟩)])) (by simp) rfl (by decide) (by simp only [go_sem, seval, pgO_eq, pgC_eq, inR_pure, inR_len, memEq, clrs]) (by simp only [clrs, go_sem, seval, pgO_eq, pgC_eq, inR_pure, inR_len, memEq, clrs]) (by simp only [memEq, go_sem, seval, pgO_eq, pgC_eq, inR_pure, inR_len, memEq, clrs] <;> (simp))
theorem eqPage_a (p q : Pg) (hp : p.frm.length ≤ 1000000) (hq : q.frm.length ≤ 1000000) : ACall En 56 [.ag (pgC p), .ag (pgC q)] [] [.b (decide (p = q))] [] := by
  have T := @pg_eqs p q
  refine acall_of_body (fn := Tryz.f56) [] Tryz.func56 rfl rfl (by simp) fun C => ?_
  rw [entry_eq]
  simp only [Tryz.ntmps56, List.length_cons, List.length_nil, Nat.reduceAdd, Nat.reduceSub, List.replicate_succ, List.replicate_zero, List.cons_append, List.nil_append, numL]
  refine AWp.seq ?_
  refine AWp.rgn [] (by simp only [go_sem, seval, pgC_eq, inR_pure, inR_len]; rfl) ?_ ?_
  · (first | trivial | (simp; done))
  refine AWp.seq ?_
  refine AWp.seq ?_
  refine AWp.rgn [] (by simp only [go_sem, seval, pgC_eq, inR_pure, inR_len]; rfl) ?_ ?_
  · (first | trivial | (simp; done))
  refine AWp.condB (by simp only [go_sem, seval, pgC_eq, inR_pure, inR_len]; rfl) (by simp only [go_sem, seval, pgC_eq, inR_pure, inR_len]) (fun h9 => ?_) (fun h9 => ?_)
  · refine AWp.seq ?_
    refine AWp.rgn [] (by simp only [go_sem, seval, pgC_eq, inR_pure, inR_len]; rfl) ?_ ?_
    · (first | trivial | (simp; done))
    refine AWp.ret (And.intro (.inr rfl) ?_)
    exact Out.plain (by simp only [Tryz.results56]; rfl) (by simp only [resCs, resC, go_sem, seval, pgC_eq, inR_pure, inR_len] <;> (split <;> rfl)) (by simp only [resV, go_sem, seval, pgC_eq, inR_pure, inR_len] <;> (rw [decide_eq_false (fun e => by rw [e] at h9; simp at h9)])) (by simp only [go_sem, seval, pgC_eq, inR_pure, inR_len])
  · refine AWp.skip ?_
    refine AWp.seq ?_
    refine AWp.seq ?_
    refine AWp.rgn [] (by simp only [go_sem, seval, pgC_eq, inR_pure, inR_len]; rfl) ?_ ?_
    · (first | trivial | (simp; done))
    refine AWp.condB (by simp only [go_sem, seval, pgC_eq, inR_pure, inR_len]; rfl) (by simp only [go_sem, seval, pgC_eq, inR_pure, inR_len]) (fun h14 => ?_) (fun h14 => ?_)
    · refine AWp.seq ?_
      refine AWp.rgn [] (by simp only [go_sem, seval, pgC_eq, inR_pure, inR_len]; rfl) ?_ ?_
      · (first | trivial | (simp; done))
      refine AWp.ret (And.intro (.inr rfl) ?_)
      exact Out.plain (by simp only [Tryz.results56]; rfl) (by simp only [resCs, resC, go_sem, seval, pgC_eq, inR_pure, inR_len] <;> (split <;> rfl)) (by simp only [resV, go_sem, seval, pgC_eq, inR_pure, inR_len] <;> (rw [decide_eq_false (fun e => by rw [e] at h14; simp at h14)])) (by simp only [go_sem, seval, pgC_eq, inR_pure, inR_len])
    · refine AWp.skip ?_
      refine AWp.seq ?_
      refine AWp.seq ?_
      refine AWp.rgn [] (by simp only [go_sem, seval, pgC_eq, inR_pure, inR_len]; rfl) ?_ ?_
      · (first | trivial | (simp; done))
      refine AWp.condB (by simp only [go_sem, seval, pgC_eq, inR_pure, inR_len]; rfl) (by simp only [go_sem, seval, pgC_eq, inR_pure, inR_len]) (fun h19 => ?_) (fun h19 => ?_)
      · refine AWp.seq ?_
        refine AWp.rgn [] (by simp only [go_sem, seval, pgC_eq, inR_pure, inR_len]; rfl) ?_ ?_
        · (first | trivial | (simp; done))
        refine AWp.ret (And.intro (.inr rfl) ?_)
        exact Out.plain (by simp only [Tryz.results56]; rfl) (by simp only [resCs, resC, go_sem, seval, pgC_eq, inR_pure, inR_len] <;> (split <;> rfl)) (by simp only [resV, go_sem, seval, pgC_eq, inR_pure, inR_len] <;> (rw [decide_eq_false (fun e => by rw [e] at h19; simp at h19)])) (by simp only [go_sem, seval, pgC_eq, inR_pure, inR_len])
      · refine AWp.skip ?_
        refine AWp.seq ?_
        refine AWp.seq ?_
        refine AWp.rgn [call0 (eqIntS_a p.frm q.frm (by omega) (by omega))] (by simp only [go_sem, seval, pgC_eq, inR_pure, inR_len]; rfl) ?_ ?_
        · (first | trivial | (simp; done))
        refine AWp.condB (by simp only [go_sem, seval, pgC_eq, inR_pure, inR_len]; rfl) (by simp only [go_sem, seval, pgC_eq, inR_pure, inR_len]) (fun h25 => ?_) (fun h25 => ?_)
        · refine AWp.seq ?_
          refine AWp.rgn [] (by simp only [go_sem, seval, pgC_eq, inR_pure, inR_len]; rfl) ?_ ?_
          · (first | trivial | (simp; done))
          refine AWp.ret (And.intro (.inr rfl) ?_)
          exact Out.plain (by simp only [Tryz.results56]; rfl) (by simp only [resCs, resC, go_sem, seval, pgC_eq, inR_pure, inR_len] <;> (split <;> rfl)) (by simp only [resV, go_sem, seval, pgC_eq, inR_pure, inR_len] <;> (rw [decide_eq_false (fun e => by rw [e] at h25; simp at h25)])) (by simp only [go_sem, seval, pgC_eq, inR_pure, inR_len])
        · refine AWp.skip ?_
          refine AWp.seq ?_
          refine AWp.rgn [] (by simp only [go_sem, seval, pgC_eq, inR_pure, inR_len]; rfl) ?_ ?_
          · (first | trivial | (simp; done))
          refine AWp.ret (And.intro (.inr rfl) ?_)
          exact Out.plain (by simp only [Tryz.results56]; rfl) (by simp only [resCs, resC, go_sem, seval, pgC_eq, inR_pure, inR_len] <;> (split <;> rfl)) (by simp only [resV, go_sem, seval, pgC_eq, inR_pure, inR_len] <;> (rw [decide_eq_true (T.2 ⟨by simpa using h9, by simpa using h14, by simpa using h19, by simpa using h25⟩)])) (by simp only [go_sem, seval, pgC_eq, inR_pure, inR_len])
theorem markPage_a (p : Pg) (k : Int) (hp : p.frm.length ≤ 1000000) (h0 : 0 ≤ k) (h1 : k ≤ 1000000) : ACall En 57 [.ag (pgO 0 p), .i .i64 k] [⟨3, 1, inR p.frm⟩] [.i .i64 (k + p.frm.length)] [⟨3, 1, inR (seqI k p.frm.length)⟩] := by
  refine acall_of_body (fn := Tryz.f57) [0] Tryz.func57 rfl rfl (by simp) fun C => ?_
  rw [entry_eq]
  simp only [Tryz.ntmps57, List.length_cons, List.length_nil, Nat.reduceAdd, Nat.reduceSub, List.replicate_succ, List.replicate_zero, List.cons_append, List.nil_append, numL]
  refine AWp.seq ?_
  refine AWp.rgn [] (by simp only [go_sem, seval, pgO_eq, inR_pure, inR_len, memEq, clrs]; rfl) ?_ ?_
  · (first | trivial | (simp; done))
  refine AWp.seq ?_
  refine AWp.rgn [callN [0] [] (markIntS_a p.frm k hp h0 h1)] (by simp only [go_sem, seval, pgO_eq, inR_pure, inR_len, memEq, clrs]; rfl) ?_ ?_
  · (first | trivial | (simp; done))
  refine AWp.seq ?_
  refine AWp.rgn [] (by simp only [go_sem, seval, pgO_eq, inR_pure, inR_len, memEq, clrs]; rfl) ?_ ?_
  · (first | trivial | (simp; done))
  refine AWp.ret (And.intro (.inr rfl) ?_)
  exact Out.mem' (by simp only [Tryz.results57]; rfl) (by simp only [resCs, resC, go_sem, seval, pgO_eq, inR_pure, inR_len, memEq, clrs]) (by simp only [resV, rns, rn, go_sem, seval, pgO_eq, inR_pure, inR_len, memEq, clrs] <;> (rfl)) (by simp) rfl (by decide) (by simp only [go_sem, seval, pgO_eq, inR_pure, inR_len, memEq, clrs]) (by simp only [clrs, go_sem, seval, pgO_eq, inR_pure, inR_len, memEq, clrs]) (by simp only [memEq, go_sem, seval, pgO_eq, inR_pure, inR_len, memEq, clrs] <;> (simp))
theorem heldPage_a (p : Pg) (k : Int) (hp : p.frm.length ≤ 1000000) (h0 : 0 ≤ k) (h1 : k ≤ 1000000) : ACall En 58 [.ag (pgO 0 p), .i .i64 k] [⟨3, 1, inR (seqI k p.frm.length)⟩] [.i .i64 (k + p.frm.length)] [⟨3, 1, inR (seqI k p.frm.length)⟩] := by
  refine acall_of_body (fn := Tryz.f58) [0] Tryz.func58 rfl rfl (by simp) fun C => ?_
  rw [entry_eq]
  simp only [Tryz.ntmps58, List.length_cons, List.length_nil, Nat.reduceAdd, Nat.reduceSub, List.replicate_succ, List.replicate_zero, List.cons_append, List.nil_append, numL]
  refine AWp.seq ?_
  refine AWp.rgn [] (by simp only [go_sem, seval, pgO_eq, inR_pure, inR_len, memEq, clrs, seqI_len]; rfl) ?_ ?_
  · (first | trivial | (simp; done) | (rw [List.take_of_length_le (by simp [inR_len, seqI_len])]; exact ler_refl _))
  refine AWp.seq ?_
  refine AWp.rgn [callB (heldIntS_a p.frm.length k hp h0 h1)] (by simp only [go_sem, seval, pgO_eq, inR_pure, inR_len, memEq, clrs, seqI_len]; rfl) ?_ ?_
  · (first | trivial | (simp; done) | (rw [List.take_of_length_le (by simp [inR_len, seqI_len])]; exact ler_refl _))
  refine AWp.seq ?_
  refine AWp.seq ?_
  refine AWp.rgn [] (by simp only [go_sem, seval, pgO_eq, inR_pure, inR_len, memEq, clrs, seqI_len]; rfl) ?_ ?_
  · (first | trivial | (simp; done) | (rw [List.take_of_length_le (by simp [inR_len, seqI_len])]; exact ler_refl _))
  refine AWp.condB (by simp only [go_sem, seval, pgO_eq, inR_pure, inR_len, memEq, clrs, seqI_len]; rfl) (by simp only [go_sem, seval, pgO_eq, inR_pure, inR_len, memEq, clrs, seqI_len]) (fun h10 => ?_) (fun h10 => ?_)
  · simp at h10; omega
  · refine AWp.skip ?_
    refine AWp.seq ?_
    refine AWp.rgn [] (by simp only [go_sem, seval, pgO_eq, inR_pure, inR_len, memEq, clrs, seqI_len]; rfl) ?_ ?_
    · (first | trivial | (simp; done) | (rw [List.take_of_length_le (by simp [inR_len, seqI_len])]; exact ler_refl _))
    refine AWp.ret (And.intro (.inr rfl) ?_)
    exact Out.mem' (by simp only [Tryz.results58]; rfl) (by simp only [resCs, resC, go_sem, seval, pgO_eq, inR_pure, inR_len, memEq, clrs, seqI_len]) (by simp only [resV, rns, rn, go_sem, seval, pgO_eq, inR_pure, inR_len, memEq, clrs, seqI_len] <;> (rfl)) (by simp) rfl (by decide) (by simp only [go_sem, seval, pgO_eq, inR_pure, inR_len, memEq, clrs, seqI_len]) (by simp only [clrs, go_sem, seval, pgO_eq, inR_pure, inR_len, memEq, clrs, seqI_len]) (by simp only [memEq, go_sem, seval, pgO_eq, inR_pure, inR_len, memEq, clrs, seqI_len] <;> (simp))
end
end Go.Proofs.YteihfmnmpdbkiaaGreatDoor
