/- Rows of numbers and of lines; the first for which something holds. Conditions: none. -/
import Derived.Test.YtpikbndepapbhabGreatDoorKj
set_option linter.unusedVariables false
set_option linter.unusedSimpArgs false
namespace Go.Proofs.YtpikbndepapbhabGreatDoor
section
set_option maxRecDepth 100000
theorem aed_ (a b : List Int) : inR (a ++ b) = inR a ++ inR b := by simp [inR]
def sR (l : List Sl) : List (List V) := l.map sC
theorem az_ (l : List Sl) : (sR l).length = l.length := by simp [sR]
theorem afp_ (s : Sl) : cw_ (sC s) = true := by rw [am_]; simp only [cw_, V.pure, fy_, Bool.and_self]
theorem ak_ (l : List Sl) : cd_ (sR l) = true := g4_.2 fun r hr => by obtain ⟨s, _, rfl⟩ := List.mem_map.1 hr; exact afp_ s
theorem vf_ {l : List Sl} {k : Nat} (h : k < l.length) : (sR l).getD k [] = sC (l.getD k S0) := by
 simp [sR, T8_, T6_ h]
theorem ah6_ (s : Sl) : (sC s).length = 11 := by rw [am_]; rfl
theorem afl_ (l : List Sl) : (∀ r, r ∈ sR l → r.length = 11) = True := eq_true fun r hr => by obtain ⟨s, _, rfl⟩ := List.mem_map.1 hr; exact ah6_ s
theorem v4_ (a b : List Sl) : sR (a ++ b) = sR a ++ sR b := by simp [sR]
def vo_ {α : Type} (p : α → Bool) (l : List α) : Int := if l.any p then (l.findIdx p : Int) else -1
theorem af7_ {α : Type} {p : α → Bool} {l : List α} {k : Nat} {d : α} (h : k < l.length) (h1 : (l.take k).any p = false) (h2 : p (l.getD k d) = true) : vo_ p l = k := by
 have e : l[k] = l.getD k d := by simp [T8_, T6_ h]
 have ha : l.any p = true := List.any_eq_true.2 ⟨l[k], List.getElem_mem h, by rw [e]; exact h2⟩
 have hf : l.findIdx p = k := (List.findIdx_eq h).2 ⟨by rw [e]; exact h2, fun j hj => by
  have h3 := List.any_eq_false.1 h1 l[j] (List.mem_iff_getElem?.2 ⟨j, by rw [List.getElem?_take_of_lt hj, T6_]⟩)
  simpa using h3⟩
 unfold vo_; rw [if_pos ha, hf]
theorem zf_ {α : Type} {p : α → Bool} {l : List α} (h : l.any p = false) : vo_ p l = -1 := by unfold vo_; rw [h]; rfl
theorem ox_ {α : Type} {p : α → Bool} {l : List α} {k : Nat} {d : α} (h : k < l.length) : (l.take (k + 1)).any p = ((l.take k).any p || p (l.getD k d)) := by
 rw [List.take_add_one, T6_ h, List.any_append, T8_, T6_ h]; simp
theorem afj_ {α : Type} (p : α → Bool) (l : List α) : decide (vo_ p l ≥ 0) = l.any p := by
 unfold vo_
 cases h : l.any p with
 | true => rw [if_pos rfl]; simp
 | false => rfl
end
end Go.Proofs.YtpikbndepapbhabGreatDoor
