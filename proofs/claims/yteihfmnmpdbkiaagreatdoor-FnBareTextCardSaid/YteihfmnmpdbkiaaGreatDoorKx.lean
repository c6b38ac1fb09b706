/- Parts of the proof, one after another: Rows of numbers and of lines; the first for which something holds. Conditions: none. -/
import Derived.Test.YteihfmnmpdbkiaaGreatDoorKj
set_option linter.unusedVariables false
set_option linter.unusedSimpArgs false
namespace Go.Proofs.YteihfmnmpdbkiaaGreatDoor
section
set_option maxRecDepth 100000

theorem inR_app (a b : List Int) : inR (a ++ b) = inR a ++ inR b := by simp [inR]
def sR (l : List Sl) : List (List V) := l.map sC
theorem sR_len (l : List Sl) : (sR l).length = l.length := by simp [sR]
theorem sC_pure (s : Sl) : pures (sC s) = true := by rw [sC_eq]; simp only [pures, V.pure, eR_pure, Bool.and_self]
theorem sR_pure (l : List Sl) : purer (sR l) = true := purer_mem.2 fun r hr => by obtain ⟨s, _, rfl⟩ := List.mem_map.1 hr; exact sC_pure s
theorem sC_len (s : Sl) : (sC s).length = 11 := by rw [sC_eq]; rfl
theorem sR_rows (l : List Sl) : (∀ r, r ∈ sR l → r.length = 11) = True := eq_true fun r hr => by obtain ⟨s, _, rfl⟩ := List.mem_map.1 hr; exact sC_len s
theorem sR_app (a b : List Sl) : sR (a ++ b) = sR a ++ sR b := by simp [sR]
def idxP {α : Type} (p : α → Bool) (l : List α) : Int := if l.any p then (l.findIdx p : Int) else -1
theorem idxP_at {α : Type} {p : α → Bool} {l : List α} {k : Nat} {d : α} (h : k < l.length) (h1 : (l.take k).any p = false) (h2 : p (l.getD k d) = true) : idxP p l = k := by
  have e : l[k] = l.getD k d := by simp [List.getD_eq_getElem?_getD, List.getElem?_eq_getElem h]
  have ha : l.any p = true := List.any_eq_true.2 ⟨l[k], List.getElem_mem h, by rw [e]; exact h2⟩
  have hf : l.findIdx p = k := (List.findIdx_eq h).2 ⟨by rw [e]; exact h2, fun j hj => by
    have h3 := List.any_eq_false.1 h1 l[j] (List.mem_iff_getElem?.2 ⟨j, by rw [List.getElem?_take_of_lt hj, List.getElem?_eq_getElem]⟩)
    simpa using h3⟩
  unfold idxP; rw [if_pos ha, hf]
theorem idxP_none {α : Type} {p : α → Bool} {l : List α} (h : l.any p = false) : idxP p l = -1 := by unfold idxP; rw [h]; rfl
theorem any_take {α : Type} {p : α → Bool} {l : List α} {k : Nat} {d : α} (h : k < l.length) : (l.take (k + 1)).any p = ((l.take k).any p || p (l.getD k d)) := by
  rw [List.take_add_one, List.getElem?_eq_getElem h, List.any_append, List.getD_eq_getElem?_getD, List.getElem?_eq_getElem h]; simp
theorem idxP_ge {α : Type} (p : α → Bool) (l : List α) : decide (idxP p l ≥ 0) = l.any p := by
  unfold idxP
  cases h : l.any p with
  | true => rw [if_pos rfl]; simp
  | false => rfl
end
end Go.Proofs.YteihfmnmpdbkiaaGreatDoor
