/- Plain laws of the program's reader: brackets are counted, texts are not made longer. Conditions: none. -/
import Derived.Test.YtefmbmafdgedmaaGreatDoorMd
import Derived.Test.YtefmbmafdgedmaaGreatDoorMb
import Derived.Test.YtefmbmafdgedmaaGreatDoorMn
import Derived.Test.YtefmbmafdgedmaaGreatDoorMh
import Derived.Test.YtefmbmafdgedmaaGreatDoorMi
import Derived.Test.YtefmbmafdgedmaaGreatDoorMj
set_option linter.unusedVariables false
set_option linter.unusedSimpArgs false
namespace Go.Proofs.YtefmbmafdgedmaaGreatDoor
section
def Dn (s' s : RS) (k : Int) : Prop := s.deep ≤ s'.deep ∧ s'.deep + s'.left.length ≤ s.deep + s.left.length + k ∧ s'.left.length ≤ s.left.length
theorem Dn.refl (s : RS) : Dn s s 0 := ⟨Int.le_refl _, by omega, Nat.le_refl _⟩
theorem Dn.trans {a b c : RS} {k m : Int} (h : Dn a b k) (g : Dn b c m) : Dn a c (k + m) := ⟨by have := h.1; have := g.1; omega, by have := h.2.1; have := g.2.1; omega, by have := h.2.2; have := g.2.2; omega⟩
theorem Dn.le {a b : RS} {k m : Int} (h : Dn a b k) (hm : k ≤ m) : Dn a b m := ⟨h.1, by have := h.2.1; omega, h.2.2⟩
theorem Dn.next (s : RS) : Dn (ke_ s) s (if s.left = [] then 0 else -1) := by
 unfold ke_ Dn
 cases h : s.left with
 | nil => simp [h]
 | cons x r => simp [h]; omega
theorem Dn.nx (s : RS) : Dn (ke_ s) s 0 := (Dn.next s).le (by split <;> omega)
theorem Dn.as (s : RS) (e : E) : Dn (asR s e).2 s 0 := by
 have h1 := ab5_ s e
 have h2 := z9_ s e
 exact ⟨by omega, by omega, h1⟩
theorem Dn.bad (s : RS) (b : Bool) : Dn { s with bad := b } s 0 := ⟨Int.le_refl _, by dsimp only; omega, Nat.le_refl _⟩
def smW (l : List Str) : Prop := ∀ w ∈ l, w.length ≤ 281474976710656
end
section
set_option maxRecDepth 100000
set_option maxHeartbeats 4000000
end
section
set_option maxRecDepth 100000
set_option maxHeartbeats 8000000
def okS2 (s : RS) : Prop := smW s.left ∧ 0 ≤ s.deep ∧ s.deep + s.left.length ≤ 1000000
theorem okS2.of {s s' : RS} (h : okS2 s) (d : Dn s' s 0) (w : smW s'.left) : okS2 s' := ⟨w, by have := d.1; have := h.2.1; omega, by have := d.2.1; have := h.2.2; omega⟩
end
section
set_option maxRecDepth 100000
set_option maxHeartbeats 8000000
end
section
set_option maxRecDepth 100000
set_option maxHeartbeats 8000000
end
end Go.Proofs.YtefmbmafdgedmaaGreatDoor
