/- Parts of the proof, one after another: Rows of numbers and of lines; the first for which something holds. Conditions: none. -/
import Derived.Test.YteihfmnmpdbkiaaGreatDoorKj
set_option linter.unusedVariables false
set_option linter.unusedSimpArgs false
namespace Go.Proofs.YteihfmnmpdbkiaaGreatDoor
section
set_option maxRecDepth 100000

theorem inR_app (a b : List Int) : inR (a ++ b) = inR a ++ inR b := by simp [inR]
theorem inR_rows (l : List Int) : (∀ r, r ∈ inR l → r.length = 1) = True := eq_true fun r hr => by obtain ⟨t, _, rfl⟩ := List.mem_map.1 hr; rfl
theorem filR_one (R : List (List V)) (z : List V) (hR : ∀ r ∈ R, r.length = 1) (hz : z.length = 1) (k j : Nat) : ((filR R z k).getD j []).drop 1 = [] := by
  rw [List.getD_eq_getElem?_getD]
  cases h : (filR R z k)[j]? with
  | none => rfl
  | some r =>
    have hm := List.mem_of_getElem? h
    have : r.length = 1 := by
      rcases filR_mem hm with hm | rfl
      · exact hR r hm
      · exact hz
    simp only [Option.getD_some]; exact List.drop_of_length_le (by omega)
theorem inR_one {r : List V} {l : List Int} (h : r ∈ inR l) : r.length = 1 := by obtain ⟨t, _, rfl⟩ := List.mem_map.1 h; rfl
end
end Go.Proofs.YteihfmnmpdbkiaaGreatDoor
