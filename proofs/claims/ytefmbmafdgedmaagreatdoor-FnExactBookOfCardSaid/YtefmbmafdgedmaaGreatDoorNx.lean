/- Rows of numbers and of lines; the first for which something holds. Conditions: none. -/
import Derived.Test.YtefmbmafdgedmaaGreatDoorNj
set_option linter.unusedVariables false
set_option linter.unusedSimpArgs false
namespace Go.Proofs.YtefmbmafdgedmaaGreatDoor
section
set_option maxRecDepth 100000
theorem xd_ (a b : List Int) : inR (a ++ b) = inR a ++ inR b := by simp [inR]
theorem us_ (l : List Int) : (∀ r, r ∈ inR l → r.length = 1) = True := eq_true fun r hr => by obtain ⟨t, _, rfl⟩ := List.mem_map.1 hr; rfl
theorem un_ (R : List (List V)) (z : List V) (hR : ∀ r ∈ R, r.length = 1) (hz : z.length = 1) (k j : Nat) : ((dj_ R z k).getD j []).drop 1 = [] := by
 rw [List.getD_eq_getElem?_getD]
 cases h : (dj_ R z k)[j]? with
 | none => rfl
 | some r =>
  have hm := List.mem_of_getElem? h
  have : r.length = 1 := by
   rcases i0_ hm with hm | rfl
   ·exact hR r hm
   ·exact hz
  simp only [Option.getD_some]; exact List.drop_of_length_le (by omega)
theorem wp_ {r : List V} {l : List Int} (h : r ∈ inR l) : r.length = 1 := by obtain ⟨t, _, rfl⟩ := List.mem_map.1 h; rfl
end
end Go.Proofs.YtefmbmafdgedmaaGreatDoor
