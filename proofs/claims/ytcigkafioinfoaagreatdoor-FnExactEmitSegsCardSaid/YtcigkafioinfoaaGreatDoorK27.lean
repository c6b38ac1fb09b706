/- What the exact law of the words of programs shares. Conditions: none. -/
import Derived.Test.YtcigkafioinfoaaGreatDoorK23
import Derived.Test.YtcigkafioinfoaaGreatDoorK24
import Derived.Test.YtcigkafioinfoaaGreatDoorK25
import Derived.Test.YtcigkafioinfoaaGreatDoorK26
set_option linter.unusedVariables false
set_option linter.unusedSimpArgs false
namespace Go.Proofs.YtcigkafioinfoaaGreatDoor
section
open Go.RowKit
set_option maxRecDepth 100000
theorem ag9_ {s : Sl} {l : Int} (h : 0 ≤ szS s l) : szS s l + (ttS.N s : Int) ≤ l + 2 := by
 show _ + ((ttE.N s.expr + ttE.N s.thn : Nat) : Int) ≤ _
 have e1 := dz_ s.expr
 have e2 := dz_ s.thn
 rw [← em_] at e1 e2
 unfold szS at h ⊢
 split at h
 ·omega
 ·rename_i h1
  split at h
  ·omega
  ·rename_i h2
   split at h
   ·omega
   ·rename_i h3
    rw [if_neg h1, if_neg h2, if_neg h3]
    have q1 := r4_ s.expr (l - s.name.length - s.type.length) (by omega)
    have q2 := r4_ s.thn _ h
    omega
theorem zc_ : ∀ (r : List Sl) (l : Int), 0 ≤ mx_ r l → mx_ r l + (ttS.NL r : Int) ≤ l + 2 * r.length
 | [], l, h => by simp [mx_, TT.NL]
 | e :: r, l, h => by
  simp only [mx_] at h ⊢
  split at h
  ·omega
  ·rename_i h1
   rw [if_neg h1]
   have q1 := ag9_ (s := e) (l := l) (by omega)
   have q2 := zc_ r (szS e l) h
   simp only [TT.NL, T7_]; omega
theorem agi_ {l : List Sl} (h : 0 ≤ pf_ l 1048576) : (ttS.NL l : Int) ≤ 3 * 1048576 := by
 unfold pf_ at h
 split at h
 ·omega
 ·have := zc_ l _ h
  omega
theorem sR_C (l : List Sl) : l.map ttS.C = sR l := by
 show _ = l.map sC
 exact List.map_congr_left fun b _ => abr_ b
theorem ca_ (l : List Sl) {T c : Nat} {m : Mem} (h : ∀ i x, (ttS.lst T 11 c l)[i]? = some x → m (c + i) = some x) : LD m (.ow c 11 0 l.length) (.sl false (sR l)) := by
 have := ttS.lst_ld T 11 l c m h
 rwa [sR_C] at this
theorem sgPL (l : List Sl) : (sgP l).length ≤ 5000 := by
 unfold sgP
 split
 ·rename_i h
  have h1 := c5_ h (Nat.le_refl _)
  have h2 := (co_ h).2.1
  omega
 ·simp
end
end Go.Proofs.YtcigkafioinfoaaGreatDoor
