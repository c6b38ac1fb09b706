/- Lists of numbers: the same, marked, held. Conditions: none. -/
import Derived.Test.YtcigkafioinfoaaGreatDoorKt
import Derived.Test.YtcigkafioinfoaaGreatDoorKx
import Derived.Test.YtcigkafioinfoaaGreatDoorK4
import Derived.Test.YtcigkafioinfoaaGreatDoorK6
import Derived.Test.YtcigkafioinfoaaGreatDoorKv
set_option linter.unusedVariables false
set_option linter.unusedSimpArgs false
namespace Go.Proofs.YtcigkafioinfoaaGreatDoor
section
set_option maxRecDepth 100000
set_option maxHeartbeats 4000000
theorem xr_ {α : Type} {d : α} {a b : List α} {k : Nat} (ha : k < a.length) (hb : k < b.length) (h : a.take k = b.take k) (e : a.getD k d = b.getD k d) : a.take (k + 1) = b.take (k + 1) := by
 rw [List.take_add_one (l := a), List.take_add_one (l := b), h, T6_ ha, T6_ hb]
 rw [T8_, T8_, T6_ ha, T6_ hb] at e
 rw [show a[k] = b[k] by simpa using e]
end
section
set_option maxRecDepth 100000
set_option maxHeartbeats 4000000
def yp_ (b : Str) (p : Int) (l : List Str) (s : Str) : Str :=
 s.take (br_ b p s.length).toNat ++ ofI b (p + 1) l ++ s.drop ((br_ b p s.length).toNat + (br_ b (p + 1 + 1) 2).toNat)
theorem jm_ {b : Str} {p : Int} {s : Str} (h0 : ((s.length : Int) == 0) = false) (hp : 0 ≤ p) (hp2 : p < 1000000000) (hs : s.length ≤ 1000000) :
  0 ≤ br_ b p s.length ∧ br_ b p s.length ≤ s.length ∧ IntKind.i64.wrap (br_ b p s.length + br_ b (p + 1 + 1) 2) = br_ b p s.length + br_ b (p + 1 + 1) 2 ∧ 0 ≤ br_ b p s.length + br_ b (p + 1 + 1) 2 ∧ br_ b p s.length + br_ b (p + 1 + 1) 2 ≤ s.length ∧ (br_ b p s.length + br_ b (p + 1 + 1) 2).toNat = (br_ b p s.length).toNat + (br_ b (p + 1 + 1) 2).toNat ∧ (s.take (br_ b p s.length).toNat).length ≤ s.length := by
 rw [beq_eq_false_iff_ne] at h0
 have h1 := d6_ b (p := p) (n := s.length) hp (by omega) (by omega)
 have h2 := d6_ b (p := p + 1 + 1) (n := 2) (by omega) (by omega) (by decide)
 refine ⟨h1.1, by omega, bi_ (by omega) (by omega), by omega, by omega, by omega, by simp; omega⟩
theorem afg_ {b : Str} {p : Int} {l : List Str} {s : Str} (k : Nat) (hl : 0 < l.length) (h : ∀ w ∈ l, w.length ≤ k) (hp : 0 ≤ p) (hp2 : p < 1000000000) : (yp_ b p l s).length ≤ s.length + k + s.length := by
 have := hc_ (b := b) (p := p + 1) hl (by omega) (by omega) k h
 unfold yp_
 simp only [T2_, List.length_take, List.length_drop]; omega
end
end Go.Proofs.YtcigkafioinfoaaGreatDoor
