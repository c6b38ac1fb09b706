/- Rows of numbers and of lines; the first for which something holds. Conditions: none. -/
import Derived.Test.YtefmbmafdgedmaaGreatDoorKj
set_option linter.unusedVariables false
set_option linter.unusedSimpArgs false
namespace Go.Proofs.YtefmbmafdgedmaaGreatDoor
section
set_option maxRecDepth 100000
theorem zl_ (a b : List Int) : inR (a ++ b) = inR a ++ inR b := by simp [inR]
theorem xa_ (l : List Int) : (∀ r, r ∈ inR l → r.length = 1) = True := eq_true fun r hr => by obtain ⟨t, _, rfl⟩ := List.mem_map.1 hr; rfl
theorem mf_ (R : List (List V)) (z : List V) (hR : ∀ r ∈ R, r.length = 1) (hz : z.length = 1) (k j : Nat) : ((dn_ R z k).getD j []).drop 1 = [] := by
 rw [T8_]
 cases h : (dn_ R z k)[j]? with
 | none => rfl
 | some r =>
  have hm := List.mem_of_getElem? h
  have : r.length = 1 := by
   rcases j0_ hm with hm | rfl
   ·exact hR r hm
   ·exact hz
  simp only [Option.getD_some]; exact List.drop_of_length_le (by omega)
theorem pa_ {r : List V} {l : List Int} (h : r ∈ inR l) : r.length = 1 := by obtain ⟨t, _, rfl⟩ := List.mem_map.1 h; rfl
def v7_ {α : Type} (p : α → Bool) (l : List α) : Int := if l.any p then (l.findIdx p : Int) else -1
theorem aas_ {α : Type} {p : α → Bool} {l : List α} {k : Nat} {d : α} (h : k < l.length) (h1 : (l.take k).any p = false) (h2 : p (l.getD k d) = true) : v7_ p l = k := by
 have e : l[k] = l.getD k d := by simp [T8_, T6_ h]
 have ha : l.any p = true := List.any_eq_true.2 ⟨l[k], List.getElem_mem h, by rw [e]; exact h2⟩
 have hf : l.findIdx p = k := (List.findIdx_eq h).2 ⟨by rw [e]; exact h2, fun j hj => by
  have h3 := List.any_eq_false.1 h1 l[j] (List.mem_iff_getElem?.2 ⟨j, by rw [List.getElem?_take_of_lt hj, T6_]⟩)
  simpa using h3⟩
 unfold v7_; rw [if_pos ha, hf]
theorem s2_ {α : Type} {p : α → Bool} {l : List α} (h : l.any p = false) : v7_ p l = -1 := by unfold v7_; rw [h]; rfl
theorem wc_ {α : Type} {p : α → Bool} {l : List α} {k : Nat} {d : α} (h : k < l.length) : (l.take (k + 1)).any p = ((l.take k).any p || p (l.getD k d)) := by
 rw [List.take_add_one, T6_ h, List.any_append, T8_, T6_ h]; simp
theorem z1_ {α : Type} (p : α → Bool) (l : List α) : decide (v7_ p l ≥ 0) = l.any p := by
 unfold v7_
 cases h : l.any p with
 | true => rw [if_pos rfl]; simp
 | false => rfl
end
end Go.Proofs.YtefmbmafdgedmaaGreatDoor
