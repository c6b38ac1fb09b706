/- Rows of numbers and of lines; the first for which something holds. Conditions: none. -/
import Derived.Test.YtcigkafioinfoaaGreatDoorKj
set_option linter.unusedVariables false
set_option linter.unusedSimpArgs false
namespace Go.Proofs.YtcigkafioinfoaaGreatDoor
section
set_option maxRecDepth 100000
theorem t3_ (a b : List Int) : inR (a ++ b) = inR a ++ inR b := by simp [inR]
theorem uq_ (l : List Int) : (∀ r, r ∈ inR l → r.length = 1) = True := eq_true fun r hr => by obtain ⟨t, _, rfl⟩ := List.mem_map.1 hr; rfl
theorem xu_ (R : List (List V)) (z : List V) (hR : ∀ r ∈ R, r.length = 1) (hz : z.length = 1) (k j : Nat) : ((e7_ R z k).getD j []).drop 1 = [] := by
 rw [T8_]
 cases h : (e7_ R z k)[j]? with
 | none => rfl
 | some r =>
  have hm := List.mem_of_getElem? h
  have : r.length = 1 := by
   rcases pz_ hm with hm | rfl
   ·exact hR r hm
   ·exact hz
  simp only [Option.getD_some]; exact List.drop_of_length_le (by omega)
theorem zp_ {r : List V} {l : List Int} (h : r ∈ inR l) : r.length = 1 := by obtain ⟨t, _, rfl⟩ := List.mem_map.1 h; rfl
def sR (l : List Sl) : List (List V) := l.map sC
theorem a3_ (l : List Sl) : (sR l).length = l.length := by simp [sR]
theorem ah3_ (s : Sl) : cd_ (sC s) = true := by rw [ag_]; simp only [cd_, V.pure, ga_, Bool.and_self]
theorem au_ (l : List Sl) : b9_ (sR l) = true := ij_.2 fun r hr => by obtain ⟨s, _, rfl⟩ := List.mem_map.1 hr; exact ah3_ s
theorem ae8_ {l : List Sl} {k : Nat} (h : k < l.length) : (sR l).getD k [] = sC (l.getD k S0) := by
 simp [sR, T8_, T6_ h]
theorem ali_ (a b : List Sl) : sR (a ++ b) = sR a ++ sR b := by simp [sR]
def ta_ {α : Type} (p : α → Bool) (l : List α) : Int := if l.any p then (l.findIdx p : Int) else -1
theorem tj_ {α : Type} {p : α → Bool} {l : List α} {k : Nat} {d : α} (h : k < l.length) (h1 : (l.take k).any p = false) (h2 : p (l.getD k d) = true) : ta_ p l = k := by
 have e : l[k] = l.getD k d := by simp [T8_, T6_ h]
 have ha : l.any p = true := List.any_eq_true.2 ⟨l[k], List.getElem_mem h, by rw [e]; exact h2⟩
 have hf : l.findIdx p = k := (List.findIdx_eq h).2 ⟨by rw [e]; exact h2, fun j hj => by
  have h3 := List.any_eq_false.1 h1 l[j] (List.mem_iff_getElem?.2 ⟨j, by rw [List.getElem?_take_of_lt hj, T6_]⟩)
  simpa using h3⟩
 unfold ta_; rw [if_pos ha, hf]
theorem mi_ {α : Type} {p : α → Bool} {l : List α} (h : l.any p = false) : ta_ p l = -1 := by unfold ta_; rw [h]; rfl
theorem o0_ {α : Type} {p : α → Bool} {l : List α} {k : Nat} {d : α} (h : k < l.length) : (l.take (k + 1)).any p = ((l.take k).any p || p (l.getD k d)) := by
 rw [List.take_add_one, T6_ h, List.any_append, T8_, T6_ h]; simp
theorem s6_ {α : Type} (p : α → Bool) (l : List α) : decide (ta_ p l ≥ 0) = l.any p := by
 unfold ta_
 cases h : l.any p with
 | true => rw [if_pos rfl]; simp
 | false => rfl
def vz_ (l : List Sl) : Bool := l.all ea_
theorem ah7_ {l : List Sl} (h : vz_ l = true) {k : Nat} (hk : k < l.length) : ea_ (l.getD k S0) = true := List.all_eq_true.1 h _ (bp_ hk)
end
end Go.Proofs.YtcigkafioinfoaaGreatDoor
