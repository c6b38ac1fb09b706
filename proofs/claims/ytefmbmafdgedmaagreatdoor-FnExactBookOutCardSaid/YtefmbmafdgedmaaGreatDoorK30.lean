/- What the exact laws of books with marked arguments share. Conditions: none. -/
import Derived.Test.YtefmbmafdgedmaaGreatDoorK29
import Derived.Test.YtefmbmafdgedmaaGreatDoorK25
import Derived.Test.YtefmbmafdgedmaaGreatDoorK13
import Derived.Test.YtefmbmafdgedmaaGreatDoorK21
set_option linter.unusedVariables false
set_option linter.unusedSimpArgs false
namespace Go.Proofs.YtefmbmafdgedmaaGreatDoor
section
open Go.RowKit
set_option maxRecDepth 100000
theorem aeu_ : ∀ (r : List Pg) (l : Int), 0 ≤ ow_ r l → ow_ r l + (fL r : Int) ≤ l
 | [], l, h => by simp [ow_, fL]
 | e :: r, l, h => by
  simp only [ow_] at h ⊢
  split at h
  ·omega
  ·rename_i h1
   rw [if_neg h1]
   have q1 : szP e l + (e.frm.length : Int) ≤ l := by
    unfold szP szI at h1 ⊢
    split
    ·rename_i h2; rw [if_pos h2] at h1; omega
    ·rename_i h2
     rw [if_neg h2] at h1
     split
     ·rename_i h3; rw [if_pos h3] at h1; omega
     ·rename_i h3
      rw [if_neg h3] at h1
      split
      ·rename_i h4; rw [if_pos h4] at h1; omega
      ·omega
   have q2 := aeu_ r (szP e l) h
   simp only [fL]; omega
theorem yo_ {l : List Pg} (h : 0 ≤ lt_ l 1048576) : (fL l : Int) ≤ 1048576 := by
 unfold lt_ at h
 split at h
 ·omega
 ·have := aeu_ l _ h
  omega
theorem l5_ (l : List Pg) {T c : Nat} {m : Mem} (h : ∀ i x, (ttP.lst T 4 c l)[i]? = some x → m (c + i) = some x) : LD m (.ow c 4 0 l.length) (.sl false (pgR l)) := by
 have := ttP.lst_ld T 4 l c m h
 exact this
end
end Go.Proofs.YtefmbmafdgedmaaGreatDoor
