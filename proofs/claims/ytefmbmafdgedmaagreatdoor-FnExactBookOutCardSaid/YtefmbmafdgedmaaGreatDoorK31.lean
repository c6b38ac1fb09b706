/- Tree logic, part 32: regions of which the order is drawn, where one operation touches a row of places. Conditions: none. -/
import Derived.Test.YtefmbmafdgedmaaGreatDoorKb
import Derived.Test.YtefmbmafdgedmaaGreatDoorK20
import Derived.Test.YtefmbmafdgedmaaGreatDoorKl
set_option linter.unusedVariables false
set_option linter.unusedSimpArgs false
namespace Go.Proofs.YtefmbmafdgedmaaGreatDoor
section
open Go.RowKit
def loI (c : Nat) (i : List Nat × List Nat) : Prop := (∀ x ∈ i.1, x < c) ∧ ∀ x ∈ i.2, x < c
def hiI (c : Nat) (i : List Nat × List Nat) : Prop := (∀ x ∈ i.1, c ≤ x) ∧ ∀ x ∈ i.2, c ≤ x
theorem kr_ {c : Nat} {a b : List Nat} (h : (∀ x ∈ a, x < c) ∧ (∀ x ∈ b, c ≤ x) ∨ (∀ x ∈ a, c ≤ x) ∧ (∀ x ∈ b, x < c)) : a.any (b.contains ·) = false := by
 rw [List.any_eq_false]
 intro x hx hb
 have hb' : x ∈ b := by simpa using hb
 rcases h with ⟨h1, h2⟩ | ⟨h1, h2⟩
 ·have := h1 x hx; have := h2 x hb'; omega
 ·have := h1 x hx; have := h2 x hb'; omega
theorem aa9_ {ops : Array Oper} {infos : List (List Nat × List Nat)} (c n : Nat) (hlo : ∀ j i, j ≠ n → infos[j]? = some i → loI c i) (hhi : ∀ i, infos[n]? = some i → hiI c i) (hB : ij_ ops (infos.set n ([], [])) = true) : ij_ ops infos = true := by
 simp only [ij_, T5_] at hB ⊢
 refine ⟨hB.1, ?_⟩
 have h2 := hB.2
 rw [List.all_eq_true] at h2 ⊢
 rintro ⟨p, j⟩ hp
 rw [List.all_eq_true]
 rintro ⟨q, i⟩ hq
 obtain ⟨k, hk⟩ := List.mem_iff_getElem?.1 hp
 rw [List.getElem?_zipIdx] at hk
 obtain ⟨p', hp', e⟩ := Option.map_eq_some_iff.1 hk
 simp only [Nat.zero_add, Prod.mk.injEq] at e
 obtain ⟨rfl, rfl⟩ := e
 obtain ⟨m, hm⟩ := List.mem_iff_getElem?.1 hq
 rw [List.getElem?_take] at hm
 split at hm
 case isFalse => cases hm
 rename_i hmj
 rw [List.getElem?_zipIdx] at hm
 obtain ⟨q', hq', e⟩ := Option.map_eq_some_iff.1 hm
 simp only [Nat.zero_add, Prod.mk.injEq] at e
 obtain ⟨rfl, rfl⟩ := e
 rw [List.getElem?_zip_eq_some] at hp' hq'
 have get : ∀ (x : Nat) (z : Oper × (List Nat × List Nat)), ops.toList[x]? = some z.1 → infos[x]? = some z.2 → (ops.toList.zip (infos.set n ([], [])))[x]? = some (z.1, if x = n then ([], []) else z.2) := fun x z h1 h3 => by
  rw [List.getElem?_zip_eq_some]
  refine ⟨h1, ?_⟩
  rw [List.getElem?_set]
  by_cases hx : n = x
  ·subst hx
   rw [if_pos rfl, if_pos rfl, if_pos (List.getElem?_eq_some_iff.1 h3).1]
  ·rw [if_neg hx, if_neg (Ne.symm hx)]; exact h3
 have g1 := get k p' hp'.1 hp'.2
 have g2 := get m q' hq'.1 hq'.2
 have h3 := h2 ((p'.1, if k = n then (([], []) : List Nat × List Nat) else p'.2), k) (List.mem_of_getElem? (i := k) (by rw [List.getElem?_zipIdx, g1]; simp))
 rw [List.all_eq_true] at h3
 have h4 := h3 ((q'.1, if m = n then (([], []) : List Nat × List Nat) else q'.2), m) (List.mem_of_getElem? (i := m) (by rw [List.getElem?_take_of_lt hmj, List.getElem?_zipIdx, g2]; simp))
 have hc : fu_ ops q'.1 q'.2 p'.1 p'.2 = fu_ ops q'.1 (if m = n then ([], []) else q'.2) p'.1 (if k = n then ([], []) else p'.2) := by
  by_cases hkn : k = n
  ·have hmn : m ≠ n := by omega
   have l1 := hlo m _ hmn hq'.2
   have l2 := hhi _ (by rw [← hkn]; exact hp'.2)
   rw [if_neg hmn, if_pos hkn]
   unfold fu_
   rw [kr_ (a := q'.2.2) (b := p'.2.1) (c := c) (.inl ⟨l1.2, l2.1⟩), kr_ (a := p'.2.2) (b := q'.2.1) (c := c) (.inr ⟨l2.2, l1.1⟩)]
   simp
  ·rw [if_neg hkn]
   by_cases hmn : m = n
   ·have l1 := hlo k _ hkn hp'.2
    have l2 := hhi _ (by rw [← hmn]; exact hq'.2)
    rw [if_pos hmn]
    unfold fu_
    rw [kr_ (a := q'.2.2) (b := p'.2.1) (c := c) (.inr ⟨l2.2, l1.1⟩), kr_ (a := p'.2.2) (b := q'.2.1) (c := c) (.inl ⟨l1.2, l2.1⟩)]
    simp
   ·rw [if_neg hmn]
 show (!fu_ ops q'.1 q'.2 p'.1 p'.2 || _) = true
 rw [hc]
 exact h4
end
section
open Go.RowKit
set_option maxRecDepth 100000
set_option maxHeartbeats 4000000
theorem abd_ {α : Type} (m : α → Int → α × Int) {l : List α} {k : Int} {i : Nat} {d d' : α} (h : i < l.length) : (bl_ m l k).1.getD i d' = (m (l.getD i d) (mkK m l k i)).1 := by
 have e : l = l.take i ++ l.getD i d :: l.drop (i + 1) := TT.splitD h
 have hl : (bl_ m (l.take i) k).1.length = i := by rw [fj_, List.length_take]; omega
 conv => lhs; rw [e]
 rw [ko_, T8_, List.getElem?_append_right (by omega), hl, Nat.sub_self]
 simp only [bl_, List.getElem?_cons_zero, Option.getD_some]; rfl
end
section
open Go.RowKit
set_option maxRecDepth 100000
set_option maxHeartbeats 8000000
theorem yq_ (c : Nat) (bs : List Blk) : (es_ c bs).map (·.1) = List.range' c bs.length := by
 unfold es_; rw [List.map_fst_zip (by simp)]
theorem zs_ : ∀ {X : List Blk} {k : Nat} {p : Nat × Blk}, p ∈ bu_ k X → p.1 < k + X.length
 | [], _, _, h => by simp [bu_] at h
 | x :: X, k, p, h => by
  simp only [bu_, List.mem_cons] at h
  simp only [T7_]
  rcases h with rfl | h
  ·simp only []; omega
  ·have := zs_ h; omega
theorem abh_ {A B : List Blk} {bx b : Blk} {c i : Nat} (hc : c = 1000 + A.length) (h : (A ++ B)[i]? = some b) : bk_ (wrL (bu_ 1000 A ++ [(15, bx)]) (es_ c B)) (1000 + i) = some b := by
 rw [oo_ B _ (fun p hp => by
  rcases List.mem_append.1 hp with hp | hp
  ·exact .inl (by have := zs_ hp; omega)
  ·rw [List.mem_singleton] at hp; subst hp; exact .inl (by simp only []; omega)), fl_, fl_, dl_]
 by_cases hi : i < A.length
 ·rw [List.getElem?_append_left hi] at h; rw [h]; rfl
 ·rw [List.getElem?_append_right (by omega)] at h
  rw [List.getElem?_eq_none (by omega), f0_, if_neg (by omega), ry_, show 1000 + i = c + (i - A.length) by omega, dl_, h]; rfl
end
section
open Go.RowKit
set_option maxRecDepth 100000
set_option maxHeartbeats 8000000
end
end Go.Proofs.YtefmbmafdgedmaaGreatDoor
