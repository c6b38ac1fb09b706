/- Parts of the proof, one after another: Lists of numbers: the same, marked, held. | Lines without types, drawn. Conditions: none. -/
import Derived.Test.YteihfmnmpdbkiaaGreatDoorKt
import Derived.Test.YteihfmnmpdbkiaaGreatDoorKx
import Derived.Test.YteihfmnmpdbkiaaGreatDoorK4
import Derived.Test.YteihfmnmpdbkiaaGreatDoorK6
import Derived.Test.YteihfmnmpdbkiaaGreatDoorKv
set_option linter.unusedVariables false
set_option linter.unusedSimpArgs false
namespace Go.Proofs.YteihfmnmpdbkiaaGreatDoor
section
set_option maxRecDepth 100000
set_option maxHeartbeats 4000000

theorem take_nxI {α : Type} {d : α} {a b : List α} {k : Nat} (ha : k < a.length) (hb : k < b.length) (h : a.take k = b.take k) (e : a.getD k d = b.getD k d) : a.take (k + 1) = b.take (k + 1) := by
  rw [List.take_add_one (l := a), List.take_add_one (l := b), h, List.getElem?_eq_getElem ha, List.getElem?_eq_getElem hb]
  rw [List.getD_eq_getElem?_getD, List.getD_eq_getElem?_getD, List.getElem?_eq_getElem ha, List.getElem?_eq_getElem hb] at e
  rw [show a[k] = b[k] by simpa using e]
end

section
set_option maxRecDepth 100000
set_option maxHeartbeats 4000000

def torn (b : Str) (p : Int) (l : List Str) (s : Str) : Str :=
  s.take (pickI b p s.length).toNat ++ ofI b (p + 1) l ++ s.drop ((pickI b p s.length).toNat + (pickI b (p + 1 + 1) 2).toNat)
theorem torn_p {b : Str} {p : Int} {s : Str} (h0 : ((s.length : Int) == 0) = false) (hp : 0 ≤ p) (hp2 : p < 1000000000) (hs : s.length ≤ 1000000) :
    0 ≤ pickI b p s.length ∧ pickI b p s.length ≤ s.length ∧ IntKind.i64.wrap (pickI b p s.length + pickI b (p + 1 + 1) 2) = pickI b p s.length + pickI b (p + 1 + 1) 2 ∧ 0 ≤ pickI b p s.length + pickI b (p + 1 + 1) 2 ∧ pickI b p s.length + pickI b (p + 1 + 1) 2 ≤ s.length ∧ (pickI b p s.length + pickI b (p + 1 + 1) 2).toNat = (pickI b p s.length).toNat + (pickI b (p + 1 + 1) 2).toNat ∧ (s.take (pickI b p s.length).toNat).length ≤ s.length := by
  rw [beq_eq_false_iff_ne] at h0
  have h1 := pickI_le b (p := p) (n := s.length) hp (by omega) (by omega)
  have h2 := pickI_le b (p := p + 1 + 1) (n := 2) (by omega) (by omega) (by decide)
  refine ⟨h1.1, by omega, wrap64 (by omega) (by omega), by omega, by omega, by omega, by simp; omega⟩
theorem torn_len {b : Str} {p : Int} {l : List Str} {s : Str} (k : Nat) (hl : 0 < l.length) (h : ∀ w ∈ l, w.length ≤ k) (hp : 0 ≤ p) (hp2 : p < 1000000000) : (torn b p l s).length ≤ s.length + k + s.length := by
  have := of_len (b := b) (p := p + 1) hl (by omega) (by omega) k h
  unfold torn
  simp only [List.length_append, List.length_take, List.length_drop]; omega
end
end Go.Proofs.YteihfmnmpdbkiaaGreatDoor
