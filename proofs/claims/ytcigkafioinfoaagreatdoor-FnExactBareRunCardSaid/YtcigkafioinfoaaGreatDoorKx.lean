/- Rows of numbers and of lines; the first for which something holds. Conditions: none. -/
import Derived.Test.YtcigkafioinfoaaGreatDoorKj
set_option linter.unusedVariables false
set_option linter.unusedSimpArgs false
namespace Go.Proofs.YtcigkafioinfoaaGreatDoor
section
set_option maxRecDepth 100000
theorem o3_ (a b : List Int) : inR (a ++ b) = inR a ++ inR b := by simp [inR]
theorem yn_ (l : List Int) : (∀ r, r ∈ inR l → r.length = 1) = True := eq_true fun r hr => by obtain ⟨t, _, rfl⟩ := List.mem_map.1 hr; rfl
theorem rl_ (R : List (List V)) (z : List V) (hR : ∀ r ∈ R, r.length = 1) (hz : z.length = 1) (k j : Nat) : ((cr_ R z k).getD j []).drop 1 = [] := by
 rw [T8_]
 cases h : (cr_ R z k)[j]? with
 | none => rfl
 | some r =>
  have hm := List.mem_of_getElem? h
  have : r.length = 1 := by
   rcases gs_ hm with hm | rfl
   ·exact hR r hm
   ·exact hz
  simp only [Option.getD_some]; exact List.drop_of_length_le (by omega)
theorem uc_ {r : List V} {l : List Int} (h : r ∈ inR l) : r.length = 1 := by obtain ⟨t, _, rfl⟩ := List.mem_map.1 h; rfl
def sR (l : List Sl) : List (List V) := l.map sC
theorem ww_ (l : List Sl) : (sR l).length = l.length := by simp [sR]
theorem zz_ (s : Sl) : c0_ (sC s) = true := by rw [ag_]; simp only [c0_, V.pure, fd_, Bool.and_self]
theorem ay_ (l : List Sl) : cf_ (sR l) = true := go_.2 fun r hr => by obtain ⟨s, _, rfl⟩ := List.mem_map.1 hr; exact zz_ s
theorem ac9_ (s : Sl) : (sC s).length = 11 := by rw [ag_]; rfl
theorem z5_ (l : List Sl) : (∀ r, r ∈ sR l → r.length = 11) = True := eq_true fun r hr => by obtain ⟨s, _, rfl⟩ := List.mem_map.1 hr; exact ac9_ s
theorem ac5_ (a b : List Sl) : sR (a ++ b) = sR a ++ sR b := by simp [sR]
def se_ {α : Type} (p : α → Bool) (l : List α) : Int := if l.any p then (l.findIdx p : Int) else -1
theorem abp_ {α : Type} {p : α → Bool} {l : List α} {k : Nat} {d : α} (h : k < l.length) (h1 : (l.take k).any p = false) (h2 : p (l.getD k d) = true) : se_ p l = k := by
 have e : l[k] = l.getD k d := by simp [T8_, T6_ h]
 have ha : l.any p = true := List.any_eq_true.2 ⟨l[k], List.getElem_mem h, by rw [e]; exact h2⟩
 have hf : l.findIdx p = k := (List.findIdx_eq h).2 ⟨by rw [e]; exact h2, fun j hj => by
  have h3 := List.any_eq_false.1 h1 l[j] (List.mem_iff_getElem?.2 ⟨j, by rw [List.getElem?_take_of_lt hj, T6_]⟩)
  simpa using h3⟩
 unfold se_; rw [if_pos ha, hf]
theorem vu_ {α : Type} {p : α → Bool} {l : List α} (h : l.any p = false) : se_ p l = -1 := by unfold se_; rw [h]; rfl
theorem qk_ {α : Type} {p : α → Bool} {l : List α} {k : Nat} {d : α} (h : k < l.length) : (l.take (k + 1)).any p = ((l.take k).any p || p (l.getD k d)) := by
 rw [List.take_add_one, T6_ h, List.any_append, T8_, T6_ h]; simp
theorem abe_ {α : Type} (p : α → Bool) (l : List α) : decide (se_ p l ≥ 0) = l.any p := by
 unfold se_
 cases h : l.any p with
 | true => rw [if_pos rfl]; simp
 | false => rfl
end
end Go.Proofs.YtcigkafioinfoaaGreatDoor
