/- Rows of numbers and of lines; the first for which something holds. Conditions: none. -/
import Derived.Test.YtpikbndepapbhabGreatDoorKj
set_option linter.unusedVariables false
set_option linter.unusedSimpArgs false
namespace Go.Proofs.YtpikbndepapbhabGreatDoor
section
set_option maxRecDepth 100000
theorem sx_ (a b : List Int) : inR (a ++ b) = inR a ++ inR b := by simp [inR]
def sR (l : List Sl) : List (List V) := l.map sC
theorem az_ (l : List Sl) : (sR l).length = l.length := by simp [sR]
theorem s3_ (s : Sl) : b3_ (sC s) = true := by rw [al_]; simp only [b3_, V.pure, dy_, Bool.and_self]
theorem ai_ (l : List Sl) : br_ (sR l) = true := d7_.2 fun r hr => by obtain ⟨s, _, rfl⟩ := List.mem_map.1 hr; exact s3_ s
theorem vn_ {l : List Sl} {k : Nat} (h : k < l.length) : (sR l).getD k [] = sC (l.getD k S0) := by
 simp [sR, T8_, T6_ h]
theorem v0_ (s : Sl) : (sC s).length = 11 := by rw [al_]; rfl
theorem tt_ (l : List Sl) : (∀ r, r ∈ sR l → r.length = 11) = True := eq_true fun r hr => by obtain ⟨s, _, rfl⟩ := List.mem_map.1 hr; exact v0_ s
theorem m0_ (a b : List Sl) : sR (a ++ b) = sR a ++ sR b := by simp [sR]
def nl_ {α : Type} (p : α → Bool) (l : List α) : Int := if l.any p then (l.findIdx p : Int) else -1
theorem tg_ {α : Type} {p : α → Bool} {l : List α} {k : Nat} {d : α} (h : k < l.length) (h1 : (l.take k).any p = false) (h2 : p (l.getD k d) = true) : nl_ p l = k := by
 have e : l[k] = l.getD k d := by simp [T8_, T6_ h]
 have ha : l.any p = true := List.any_eq_true.2 ⟨l[k], List.getElem_mem h, by rw [e]; exact h2⟩
 have hf : l.findIdx p = k := (List.findIdx_eq h).2 ⟨by rw [e]; exact h2, fun j hj => by
  have h3 := List.any_eq_false.1 h1 l[j] (List.mem_iff_getElem?.2 ⟨j, by rw [List.getElem?_take_of_lt hj, T6_]⟩)
  simpa using h3⟩
 unfold nl_; rw [if_pos ha, hf]
theorem po_ {α : Type} {p : α → Bool} {l : List α} (h : l.any p = false) : nl_ p l = -1 := by unfold nl_; rw [h]; rfl
theorem hy_ {α : Type} {p : α → Bool} {l : List α} {k : Nat} {d : α} (h : k < l.length) : (l.take (k + 1)).any p = ((l.take k).any p || p (l.getD k d)) := by
 rw [List.take_add_one, T6_ h, List.any_append, T8_, T6_ h]; simp
theorem ub_ {α : Type} (p : α → Bool) (l : List α) : decide (nl_ p l ≥ 0) = l.any p := by
 unfold nl_
 cases h : l.any p with
 | true => rw [if_pos rfl]; simp
 | false => rfl
end
end Go.Proofs.YtpikbndepapbhabGreatDoor
