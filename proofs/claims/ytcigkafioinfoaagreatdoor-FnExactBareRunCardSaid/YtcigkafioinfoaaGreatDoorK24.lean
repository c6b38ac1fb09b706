/- What the exact law of erased programs that are run shares. Conditions: none. -/
import Derived.Test.YtcigkafioinfoaaGreatDoorK22
import Derived.Test.YtcigkafioinfoaaGreatDoorK20
import Derived.Test.YtcigkafioinfoaaGreatDoorKr
set_option linter.unusedVariables false
set_option linter.unusedSimpArgs false
namespace Go.Proofs.YtcigkafioinfoaaGreatDoor
section
open Go.RowKit
set_option maxRecDepth 100000
theorem ad2_ {s : Bl} {l : Int} (h : 0 ≤ szB s l) : szB s l + (ttB.N s : Int) ≤ l + 2 := by
 show _ + ((ttE.N s.expr + ttE.N s.thn : Nat) : Int) ≤ _
 have e1 := d9_ s.expr
 have e2 := d9_ s.thn
 rw [← ds_] at e1 e2
 unfold szB at h ⊢
 split at h
 ·omega
 ·rename_i h1
  split at h
  ·omega
  ·rename_i h2
   rw [if_neg h1, if_neg h2]
   have q1 := px_ s.expr (l - s.name.length) (by omega)
   have q2 := px_ s.thn _ h
   omega
theorem wb_ : ∀ (r : List Bl) (l : Int), 0 ≤ kz_ r l → kz_ r l + (ttB.NL r : Int) ≤ l + 2 * r.length
 | [], l, h => by simp [kz_, TT.NL]
 | e :: r, l, h => by
  simp only [kz_] at h ⊢
  split at h
  ·omega
  ·rename_i h1
   rw [if_neg h1]
   have q1 := ad2_ (s := e) (l := l) (by omega)
   have q2 := wb_ r (szB e l) h
   simp only [TT.NL, T7_]; omega
theorem adi_ {l : List Bl} (h : 0 ≤ nb_ l 1048576) : (ttB.NL l : Int) ≤ 3 * 1048576 := by
 unfold nb_ at h
 split at h
 ·omega
 ·have := wb_ l _ h
  omega
theorem aeg_ (l : List Bl) : l.map ttB.C = bLR l := by
 show _ = l.map bC
 exact List.map_congr_left fun b _ => ael_ b
theorem bu_ (l : List Bl) {T c : Nat} {m : Mem} (h : ∀ i x, (ttB.lst T 10 c l)[i]? = some x → m (c + i) = some x) : LD m (.ow c 10 0 l.length) (.sl false (bLR l)) := by
 have := ttB.lst_ld T 10 l c m h
 rwa [aeg_] at this
theorem ad3_ (l : List Bl) : (fz_ l).1.length ≤ 16 := by
 unfold fz_
 split
 ·rename_i h
  have := (dc_ (l := l) (Nat.le_refl _) (cy_ h).2.1).2.2
  rwa [List.take_length] at this
 ·simp
theorem ew_ {c n : Nat} {X : List Blk} {R : List (Nat × Blk)} {i : Nat} {x : Blk} (hn : n = X.length) (h : X[i]? = some x) : k2_ (List.range' c n) (be_ (bn_ c X ++ R)) (c + i) = some x := by
 subst hn; exact rx_ h
theorem da_ {c n : Nat} {X : List Blk} {i : Nat} {x : Blk} (hn : n = X.length) (h : X[i]? = some x) : k2_ (List.range' c n) (be_ (bn_ c X)) (c + i) = some x := by
 subst hn; exact uw_ h
end
end Go.Proofs.YtcigkafioinfoaaGreatDoor
