/- Lines, drawn and torn. Conditions: none. -/
import Derived.Test.YtefmbmafdgedmaaGreatDoorN10
import Derived.Test.YtefmbmafdgedmaaGreatDoorN7
set_option linter.unusedVariables false
set_option linter.unusedSimpArgs false
namespace Go.Proofs.YtefmbmafdgedmaaGreatDoor
section
set_option maxRecDepth 100000
set_option maxHeartbeats 4000000
end
section
set_option maxRecDepth 100000
set_option maxHeartbeats 4000000
end
section
set_option maxRecDepth 100000
set_option maxHeartbeats 4000000
theorem ahk_ {p q : Pg} : (p = q) ↔ (p.line = q.line ∧ p.good = q.good ∧ p.text = q.text ∧ p.frm = q.frm) := by
 constructor
 ·rintro rfl; exact ⟨rfl, rfl, rfl, rfl⟩
 ·intro h; obtain ⟨a, b, c, d⟩ := p; obtain ⟨a', b', c', d'⟩ := q; simp_all
def pgO (l : Nat) (p : Pg) : List V := [.s p.line, .b p.good, .s p.text, .ow l 1 0 p.frm.length]
theorem cl_ (l : Nat) (p : Pg) : pgO l p = [.s p.line, .b p.good, .s p.text, .ow l 1 0 p.frm.length] := rfl
theorem v1_ (s : Str) (hs : s.length ≤ 281474976710656) : ACall En 72 [.s s] [] [.ag (pgO 0 (e4_ s))] [⟨3, 1, inR (e4_ s).frm⟩] := by
 have X1 := of_ s
 have X2 := @n4_ s
 have P1 := @si_ s
 have P2 := @pg_ s
 have P3 := @r1_ s
 have R := mj_ s hs
 generalize (dq_ s).getD S0 = x at *
 generalize (dq_ s).isSome = ok at *
 refine ah_ (fn := Tryz.f72) [38] Tryz.func72 rfl rfl (by simp) fun C => ?_
 rw [ar_]
 simp only [Tryz.ntmps72, List.length_cons, List.length_nil, Nat.reduceAdd, Nat.reduceSub, List.replicate_succ, List.replicate_zero, List.cons_append, List.nil_append, bd_]
 refine .seq (.rgn [] (by simp only [go_sem, seval, ag_, ac_, af_, cl_]; rfl) ?_ ?_)
 ·(first | trivial | (simp; done) | (simpa using h17) | exact ⟨by simpa using h17, rfl⟩)
 refine .seq (.seq (.rgn [a2_ (sw_ s hs)] (by simp only [go_sem, seval, ag_, ac_, af_, cl_]; rfl) ?_ ?_))
 ·(first | trivial | (simp; done) | (simpa using h17) | exact ⟨by simpa using h17, rfl⟩)
 refine .condB (by simp only [go_sem, seval, ag_, ac_, af_, cl_]; rfl) (by simp only [go_sem, seval, ag_, ac_, af_, cl_]) (fun h9 => ?_) (fun h9 => ?_)
 ·refine .seq (.rgn [] (by simp only [go_sem, seval, ag_, ac_, af_, cl_]; rfl) ?_ ?_)
  ·(first | trivial | (simp; done) | (simpa using h17) | exact ⟨by simpa using h17, rfl⟩)
  refine .can (Can.ownCell 12 3 38 3 1 (by simp only [go_sem, seval, ag_, ac_, af_, cl_] <;> rfl) (by simp only [go_sem, seval, ag_, ac_, af_, cl_] <;> rfl) (by simp only [go_sem, seval, ag_, ac_, af_, cl_] <;> rfl) (by simp only [go_sem, seval, ag_, ac_, af_, cl_] <;> rfl) (by simp only [go_sem, seval, ag_, ac_, af_, cl_] <;> rfl)) ?_
  refine .ret ⟨.inr rfl, ?_⟩
  exact Out.mem' (by simp only [Tryz.results72]; rfl) (by simp only [aq_, a8_, go_sem, seval, ag_, ac_, af_, cl_]) (by simp only [a7_, rns, rn, go_sem, seval, ag_, ac_, af_, cl_] <;> (rw [P1 (by simpa using h9)]; simp [Pg0])) (by simp) rfl (by decide) (by simp only [go_sem, seval, ag_, ac_, af_, cl_]) (by simp only [ay_, go_sem, seval, ag_, ac_, af_, cl_]) (by simp only [as_, go_sem, seval, ag_, ac_, af_, cl_] <;> (rw [P1 (by simpa using h9)]; simp [Pg0, inR]))
 ·refine .skip (.seq (.rgn [a2_ R] (by simp only [go_sem, seval, ag_, ac_, af_, cl_]; rfl) ?_ ?_))
  ·(first | trivial | (simp; done) | (simpa using h17) | exact ⟨by simpa using h17, rfl⟩)
  refine .seq (.seq (.rgn [] (by simp only [go_sem, seval, ag_, ac_, af_, cl_]; rfl) ?_ ?_))
  ·(first | trivial | (simp; done) | (simpa using h17) | exact ⟨by simpa using h17, rfl⟩)
  refine .condB (by simp only [go_sem, seval, ag_, ac_, af_, cl_]; rfl) (by simp only [go_sem, seval, ag_, ac_, af_, cl_]) (fun h17 => ?_) (fun h17 => ?_)
  ·refine .seq (.rgn [] (by simp only [go_sem, seval, ag_, ac_, af_, cl_]; rfl) ?_ ?_)
   ·(first | trivial | (simp; done) | (simpa using h17) | exact ⟨by simpa using h17, rfl⟩)
   refine .can (Can.ownCell 12 3 38 3 1 (by simp only [go_sem, seval, ag_, ac_, af_, cl_] <;> rfl) (by simp only [go_sem, seval, ag_, ac_, af_, cl_] <;> rfl) (by simp only [go_sem, seval, ag_, ac_, af_, cl_] <;> rfl) (by simp only [go_sem, seval, ag_, ac_, af_, cl_] <;> rfl) (by simp only [go_sem, seval, ag_, ac_, af_, cl_] <;> rfl)) ?_
   refine .ret ⟨.inr rfl, ?_⟩
   exact Out.mem' (by simp only [Tryz.results72]; rfl) (by simp only [aq_, a8_, go_sem, seval, ag_, ac_, af_, cl_]) (by simp only [a7_, rns, rn, go_sem, seval, ag_, ac_, af_, cl_] <;> (rw [P2 (by simpa using h9) (by simpa using h17)]; simp)) (by simp) rfl (by decide) (by simp only [go_sem, seval, ag_, ac_, af_, cl_]) (by simp only [ay_, go_sem, seval, ag_, ac_, af_, cl_]) (by simp only [as_, go_sem, seval, ag_, ac_, af_, cl_] <;> (rw [P2 (by simpa using h9) (by simpa using h17)]; simp [inR]))
  ·refine .skip (.seq (.rgn [c1_ (ok = true) (fun h => adf_ x (X2 h) X1)] (by simp only [go_sem, seval, ag_, ac_, af_, cl_]; rfl) ?_ ?_))
   ·(first | trivial | (simp; done) | (simpa using h17) | exact ⟨by simpa using h17, rfl⟩)
   refine .seq (.rgn [aa2_ [] [38] (ok = true) (fun h => ul_ (emF x) (by have := emFL (X2 h); omega))] (by simp only [go_sem, seval, ag_, ac_, af_, cl_]; rfl) ?_ ?_)
   ·(first | trivial | (simp; done) | (simpa using h17) | exact ⟨by simpa using h17, rfl⟩)
   refine .ret ⟨.inr rfl, ?_⟩
   exact Out.mem' (by simp only [Tryz.results72]; rfl) (by simp only [aq_, a8_, go_sem, seval, ag_, ac_, af_, cl_]) (by simp only [a7_, rns, rn, go_sem, seval, ag_, ac_, af_, cl_] <;> (rw [P3 (by simpa using h9) (by simpa using h17)])) (by simp) rfl (by decide) (by simp only [go_sem, seval, ag_, ac_, af_, cl_]) (by simp only [ay_, go_sem, seval, ag_, ac_, af_, cl_]) (by simp only [as_, go_sem, seval, ag_, ac_, af_, cl_] <;> (rw [P3 (by simpa using h9) (by simpa using h17)]))
end
end Go.Proofs.YtefmbmafdgedmaaGreatDoor
