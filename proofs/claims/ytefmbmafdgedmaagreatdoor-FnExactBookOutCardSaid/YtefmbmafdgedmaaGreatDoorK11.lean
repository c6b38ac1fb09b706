/- Lines, drawn and torn. Conditions: none. -/
import Derived.Test.YtefmbmafdgedmaaGreatDoorK10
import Derived.Test.YtefmbmafdgedmaaGreatDoorK7
set_option linter.unusedVariables false
set_option linter.unusedSimpArgs false
namespace Go.Proofs.YtefmbmafdgedmaaGreatDoor
section
set_option maxRecDepth 100000
set_option maxHeartbeats 4000000
end
section
set_option maxRecDepth 100000
set_option maxHeartbeats 4000000
end
section
set_option maxRecDepth 100000
set_option maxHeartbeats 4000000
theorem ami_ {p q : Pg} : (p = q) ↔ (p.line = q.line ∧ p.good = q.good ∧ p.text = q.text ∧ p.frm = q.frm) := by
 constructor
 ·rintro rfl; exact ⟨rfl, rfl, rfl, rfl⟩
 ·intro h; obtain ⟨a, b, c, d⟩ := p; obtain ⟨a', b', c', d'⟩ := q; simp_all
end
end Go.Proofs.YtefmbmafdgedmaaGreatDoor
