/- Rows of numbers and of lines; the first for which something holds. Conditions: none. -/
import Derived.Test.YtpikbndepapbhaaGreatDoorKj
set_option linter.unusedVariables false
set_option linter.unusedSimpArgs false
namespace Go.Proofs.YtpikbndepapbhaaGreatDoor
section
set_option maxRecDepth 100000
theorem sz_ (a b : List Int) : inR (a ++ b) = inR a ++ inR b := by simp [inR]
theorem vb_ (l : List Int) : (∀ r, r ∈ inR l → r.length = 1) = True := eq_true fun r hr => by obtain ⟨t, _, rfl⟩ := List.mem_map.1 hr; rfl
theorem vq_ (R : List (List V)) (z : List V) (hR : ∀ r ∈ R, r.length = 1) (hz : z.length = 1) (k j : Nat) : ((d7_ R z k).getD j []).drop 1 = [] := by
 rw [T8_]
 cases h : (d7_ R z k)[j]? with
 | none => rfl
 | some r =>
  have hm := List.mem_of_getElem? h
  have : r.length = 1 := by
   rcases lb_ hm with hm | rfl
   ·exact hR r hm
   ·exact hz
  simp only [Option.getD_some]; exact List.drop_of_length_le (by omega)
theorem yj_ {r : List V} {l : List Int} (h : r ∈ inR l) : r.length = 1 := by obtain ⟨t, _, rfl⟩ := List.mem_map.1 h; rfl
def sR (l : List Sl) : List (List V) := l.map sC
theorem a6_ (l : List Sl) : (sR l).length = l.length := by simp [sR]
theorem af8_ (s : Sl) : cc_ (sC s) = true := by rw [af_]; simp only [cc_, V.pure, hf_, Bool.and_self]
theorem az_ (l : List Sl) : b5_ (sR l) = true := jj_.2 fun r hr => by obtain ⟨s, _, rfl⟩ := List.mem_map.1 hr; exact af8_ s
theorem w5_ {l : List Sl} {k : Nat} (h : k < l.length) : (sR l).getD k [] = sC (l.getD k S0) := by
 simp [sR, T8_, T6_ h]
def vh_ {α : Type} (p : α → Bool) (l : List α) : Int := if l.any p then (l.findIdx p : Int) else -1
theorem zr_ {α : Type} {p : α → Bool} {l : List α} {k : Nat} {d : α} (h : k < l.length) (h1 : (l.take k).any p = false) (h2 : p (l.getD k d) = true) : vh_ p l = k := by
 have e : l[k] = l.getD k d := by simp [T8_, T6_ h]
 have ha : l.any p = true := List.any_eq_true.2 ⟨l[k], List.getElem_mem h, by rw [e]; exact h2⟩
 have hf : l.findIdx p = k := (List.findIdx_eq h).2 ⟨by rw [e]; exact h2, fun j hj => by
  have h3 := List.any_eq_false.1 h1 l[j] (List.mem_iff_getElem?.2 ⟨j, by rw [List.getElem?_take_of_lt hj, T6_]⟩)
  simpa using h3⟩
 unfold vh_; rw [if_pos ha, hf]
theorem ri_ {α : Type} {p : α → Bool} {l : List α} (h : l.any p = false) : vh_ p l = -1 := by unfold vh_; rw [h]; rfl
theorem t3_ {α : Type} {p : α → Bool} {l : List α} {k : Nat} {d : α} (h : k < l.length) : (l.take (k + 1)).any p = ((l.take k).any p || p (l.getD k d)) := by
 rw [List.take_add_one, T6_ h, List.any_append, T8_, T6_ h]; simp
theorem zf_ {α : Type} (p : α → Bool) (l : List α) : decide (vh_ p l ≥ 0) = l.any p := by
 unfold vh_
 cases h : l.any p with
 | true => rw [if_pos rfl]; simp
 | false => rfl
def t0_ (l : List Sl) : Bool := l.all d6_
theorem rv_ {l : List Sl} (h : t0_ l = true) {k : Nat} (hk : k < l.length) : d6_ (l.getD k S0) = true := List.all_eq_true.1 h _ (bk_ hk)
end
end Go.Proofs.YtpikbndepapbhaaGreatDoor
