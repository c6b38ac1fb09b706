/- Rows of numbers and of lines; the first for which something holds. Conditions: none. -/
import Derived.Test.YtcigkafioinfoaaGreatDoorKj
set_option linter.unusedVariables false
set_option linter.unusedSimpArgs false
namespace Go.Proofs.YtcigkafioinfoaaGreatDoor
section
set_option maxRecDepth 100000
theorem vw_ (a b : List Int) : inR (a ++ b) = inR a ++ inR b := by simp [inR]
theorem ace_ (l : List Int) : (∀ r, r ∈ inR l → r.length = 1) = True := eq_true fun r hr => by obtain ⟨t, _, rfl⟩ := List.mem_map.1 hr; rfl
theorem th_ (R : List (List V)) (z : List V) (hR : ∀ r ∈ R, r.length = 1) (hz : z.length = 1) (k j : Nat) : ((de_ R z k).getD j []).drop 1 = [] := by
 rw [T8_]
 cases h : (de_ R z k)[j]? with
 | none => rfl
 | some r =>
  have hm := List.mem_of_getElem? h
  have : r.length = 1 := by
   rcases hp_ hm with hm | rfl
   ·exact hR r hm
   ·exact hz
  simp only [Option.getD_some]; exact List.drop_of_length_le (by omega)
theorem wh_ {r : List V} {l : List Int} (h : r ∈ inR l) : r.length = 1 := by obtain ⟨t, _, rfl⟩ := List.mem_map.1 h; rfl
def sR (l : List Sl) : List (List V) := l.map sC
theorem aq_ (l : List Sl) : (sR l).length = l.length := by simp [sR]
theorem ads_ (s : Sl) : dp_ (sC s) = true := by rw [aa_]; simp only [dp_, V.pure, f5_, Bool.and_self]
theorem am_ (l : List Sl) : cz_ (sR l) = true := jc_.2 fun r hr => by obtain ⟨s, _, rfl⟩ := List.mem_map.1 hr; exact ads_ s
theorem g9_ {l : List Sl} {k : Nat} (h : k < l.length) : (sR l).getD k [] = sC (l.getD k S0) := by
 simp [sR, T8_, T6_ h]
theorem agk_ (s : Sl) : (sC s).length = 11 := by rw [aa_]; rfl
def vc_ {α : Type} (p : α → Bool) (l : List α) : Int := if l.any p then (l.findIdx p : Int) else -1
theorem ae6_ {α : Type} {p : α → Bool} {l : List α} {k : Nat} {d : α} (h : k < l.length) (h1 : (l.take k).any p = false) (h2 : p (l.getD k d) = true) : vc_ p l = k := by
 have e : l[k] = l.getD k d := by simp [T8_, T6_ h]
 have ha : l.any p = true := List.any_eq_true.2 ⟨l[k], List.getElem_mem h, by rw [e]; exact h2⟩
 have hf : l.findIdx p = k := (List.findIdx_eq h).2 ⟨by rw [e]; exact h2, fun j hj => by
  have h3 := List.any_eq_false.1 h1 l[j] (List.mem_iff_getElem?.2 ⟨j, by rw [List.getElem?_take_of_lt hj, T6_]⟩)
  simpa using h3⟩
 unfold vc_; rw [if_pos ha, hf]
theorem yv_ {α : Type} {p : α → Bool} {l : List α} (h : l.any p = false) : vc_ p l = -1 := by unfold vc_; rw [h]; rfl
theorem sn_ {α : Type} {p : α → Bool} {l : List α} {k : Nat} {d : α} (h : k < l.length) : (l.take (k + 1)).any p = ((l.take k).any p || p (l.getD k d)) := by
 rw [List.take_add_one, T6_ h, List.any_append, T8_, T6_ h]; simp
theorem adu_ {α : Type} (p : α → Bool) (l : List α) : decide (vc_ p l ≥ 0) = l.any p := by
 unfold vc_
 cases h : l.any p with
 | true => rw [if_pos rfl]; simp
 | false => rfl
def jo_ (l : List Sl) : Bool := l.all fg_
theorem gp_ {l : List Sl} (h : jo_ l = true) {k : Nat} (hk : k < l.length) : fg_ (l.getD k S0) = true := List.all_eq_true.1 h _ (b2_ hk)
end
end Go.Proofs.YtcigkafioinfoaaGreatDoor
