/- Rows of numbers and of lines; the first for which something holds. Conditions: none. -/
import Derived.Test.YtefmbmafdgedmaaGreatDoorMj
set_option linter.unusedVariables false
set_option linter.unusedSimpArgs false
namespace Go.Proofs.YtefmbmafdgedmaaGreatDoor
section
set_option maxRecDepth 100000
theorem uk_ (a b : List Int) : inR (a ++ b) = inR a ++ inR b := by simp [inR]
theorem x8_ (l : List Int) : (∀ r, r ∈ inR l → r.length = 1) = True := eq_true fun r hr => by obtain ⟨t, _, rfl⟩ := List.mem_map.1 hr; rfl
theorem rj_ (R : List (List V)) (z : List V) (hR : ∀ r ∈ R, r.length = 1) (hz : z.length = 1) (k j : Nat) : ((eb_ R z k).getD j []).drop 1 = [] := by
 rw [List.getD_eq_getElem?_getD]
 cases h : (eb_ R z k)[j]? with
 | none => rfl
 | some r =>
  have hm := List.mem_of_getElem? h
  have : r.length = 1 := by
   rcases ly_ hm with hm | rfl
   ·exact hR r hm
   ·exact hz
  simp only [Option.getD_some]; exact List.drop_of_length_le (by omega)
theorem t0_ {r : List V} {l : List Int} (h : r ∈ inR l) : r.length = 1 := by obtain ⟨t, _, rfl⟩ := List.mem_map.1 h; rfl
def sR (l : List Sl) : List (List V) := l.map sC
theorem am_ (l : List Sl) : (sR l).length = l.length := by simp [sR]
theorem aau_ (s : Sl) : cr_ (sC s) = true := by rw [ae_]; simp only [cr_, V.pure, go_, Bool.and_self]
theorem ai_ (l : List Sl) : b4_ (sR l) = true := hl_.2 fun r hr => by obtain ⟨s, _, rfl⟩ := List.mem_map.1 hr; exact aau_ s
theorem lw_ {l : List Sl} {k : Nat} (h : k < l.length) : (sR l).getD k [] = sC (l.getD k S0) := by
 simp [sR, List.getD_eq_getElem?_getD, List.getElem?_eq_getElem h]
theorem ia_ (a b : List Sl) : sR (a ++ b) = sR a ++ sR b := by simp [sR]
def td_ {α : Type} (p : α → Bool) (l : List α) : Int := if l.any p then (l.findIdx p : Int) else -1
theorem abs_ {α : Type} {p : α → Bool} {l : List α} {k : Nat} {d : α} (h : k < l.length) (h1 : (l.take k).any p = false) (h2 : p (l.getD k d) = true) : td_ p l = k := by
 have e : l[k] = l.getD k d := by simp [List.getD_eq_getElem?_getD, List.getElem?_eq_getElem h]
 have ha : l.any p = true := List.any_eq_true.2 ⟨l[k], List.getElem_mem h, by rw [e]; exact h2⟩
 have hf : l.findIdx p = k := (List.findIdx_eq h).2 ⟨by rw [e]; exact h2, fun j hj => by
  have h3 := List.any_eq_false.1 h1 l[j] (List.mem_iff_getElem?.2 ⟨j, by rw [List.getElem?_take_of_lt hj, List.getElem?_eq_getElem]⟩)
  simpa using h3⟩
 unfold td_; rw [if_pos ha, hf]
theorem vs_ {α : Type} {p : α → Bool} {l : List α} (h : l.any p = false) : td_ p l = -1 := by unfold td_; rw [h]; rfl
theorem rv_ {α : Type} {p : α → Bool} {l : List α} {k : Nat} {d : α} (h : k < l.length) : (l.take (k + 1)).any p = ((l.take k).any p || p (l.getD k d)) := by
 rw [List.take_add_one, List.getElem?_eq_getElem h, List.any_append, List.getD_eq_getElem?_getD, List.getElem?_eq_getElem h]; simp
theorem acf_ {α : Type} (p : α → Bool) (l : List α) : decide (td_ p l ≥ 0) = l.any p := by
 unfold td_
 cases h : l.any p with
 | true => rw [if_pos rfl]; simp
 | false => rfl
def kt_ (l : List Sl) : Bool := l.all d7_
theorem ik_ {l : List Sl} (h : kt_ l = true) {k : Nat} (hk : k < l.length) : d7_ (l.getD k S0) = true := List.all_eq_true.1 h _ (bh_ hk)
end
end Go.Proofs.YtefmbmafdgedmaaGreatDoor
