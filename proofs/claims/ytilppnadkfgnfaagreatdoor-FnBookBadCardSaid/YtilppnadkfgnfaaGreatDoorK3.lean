/- The places of a program's words are in order, within their bounds, and none came from where another one came. Conditions: none. -/
import Derived.Test.YtilppnadkfgnfaaGreatDoorK1
set_option linter.unusedVariables false
set_option linter.unusedSimpArgs false
namespace Go.Proofs.YtilppnadkfgnfaaGreatDoor
section
theorem wu_ {l : List Str} {a : Nat} (h : a < l.length) : ∀ d, a + d + 1 ≤ l.length → wid (l.take a) + (l.getD a []).length + 1 ≤ wid (l.take (a + d + 1))
 | 0, _ => by rw [Nat.add_zero, lf_ h]; omega
 | d + 1, hd => by
  have := wu_ h d (by omega)
  rw [show a + (d + 1) + 1 = (a + d + 1) + 1 by omega, lf_ (by omega)]; omega
theorem ajz_ {l : List Str} {a b : Nat} (h : a < b) (hb : b ≤ l.length) : wid (l.take a) + (l.getD a []).length + 1 ≤ wid (l.take b) := by
 have := wu_ (l := l) (a := a) (by omega) (b - a - 1) (by omega)
 rwa [show a + (b - a - 1) + 1 = b by omega] at this
theorem agj_ {l : List Str} {c : Int} {a b : Nat} (h : a < b) (hb : b < l.length) : (b8_ c l).getD a 0 + (l.getD a []).length + 1 ≤ (b8_ c l).getD b 0 := by
 have := ajz_ (l := l) h (by omega)
 rw [g1_ l c (by omega), g1_ l c hb]; omega
theorem aks_ {s : Sl} (h : sok s = true) {a : Nat} (ha : a < (emF s).length) : -1 ≤ (emF s).getD a 0 ∧ (emF s).getD a 0 ≤ 119 := by
 have hs := c9_ h
 have he : emF s = fn_ s := by unfold emF; rw [if_pos h]
 rw [he] at ha ⊢
 rw [rb_] at ha
 rw [m5_ ha]
 split
 ·omega
 ·rename_i q
  have := ui_ ((d6_ (bof s)).getD a ([], 0)).2 (df_ s) 0 (n1_.1 (y8_ hs (bj_ ha) (by omega))).1
  have h2 := (hw_ h).1
  have h3 : fr_ (df_ s) ≤ 120 := by
   unfold fr_; rw [k8_ hs]
   by_cases hw : sw' s = []
   ·rw [hw, n3_]; omega
   ·have := k0_ hw; omega
  omega
theorem lo_ : ∀ (l : List Str) (c : Int) {k : Nat}, k < l.length → ((le_ c l).getD k T0k).col = (b8_ c l).getD k 0 ∧ ((le_ c l).getD k T0k).s = l.getD k []
 | [], c, k, h => by simp at h
 | w :: r, c, 0, _ => by simp [le_, b8_]
 | w :: r, c, k + 1, h => by
  simp only [le_, b8_, List.getD_cons_succ]
  exact lo_ r _ (by simpa using h)
def tkE (s : Sl) : List Tk := (br_ (emT s)).getD []
theorem aeq_ {s : Sl} (h : sok s = true) : tkE s = le_ 0 (bw (bof s)) := by unfold tkE; rw [yq_ h]; rfl
theorem agp_ {s : Sl} (h : sok s = true) : (tkE s).length = (emF s).length := pg_ h
theorem ajy_ {s : Sl} (h : sok s = true) {a b : Nat} (hab : a < b) (hb : b < (tkE s).length) : ((tkE s).getD a T0k).col + ((tkE s).getD a T0k).s.length + 1 ≤ ((tkE s).getD b T0k).col := by
 rw [aeq_ h] at hb ⊢
 rw [py_] at hb
 have q1 := lo_ (bw (bof s)) 0 (k := a) (by omega)
 have q2 := lo_ (bw (bof s)) 0 (k := b) hb
 rw [q1.1, q1.2, q2.1]
 exact agj_ hab hb
theorem akb_ {s : Sl} (h : sok s = true) {a : Nat} (ha : a < (tkE s).length) : 0 ≤ ((tkE s).getD a T0k).col ∧ ((tkE s).getD a T0k).col + ((tkE s).getD a T0k).s.length ≤ 120 ∧ 1 ≤ ((tkE s).getD a T0k).s.length ∧ ((tkE s).getD a T0k).s.length ≤ 8 := by
 rw [aeq_ h] at ha ⊢
 rw [py_] at ha
 have q1 := lo_ (bw (bof s)) 0 (k := a) ha
 rw [q1.1, q1.2, g1_ _ _ ha]
 have hb := f9_ (c9_ h)
 have h1 := (ni_ hb).2 _ (bj_ (d := []) ha)
 have h2 := lf_ ha
 have h3 := y9_ (bw (bof s)) (a + 1)
 have hne : bw (bof s) ≠ [] := by intro e; rw [e] at ha; simp at ha
 have h4 := k0_ hne
 have h5 := (jg_ (ok_ h)).1
 omega
theorem acn_ (i : Nat) (s : Sl) : sgS i s = sgs i (tkE s) (emF s) := rfl
theorem ahy_ {i : Nat} {s : Sl} {x : Sg} (hx : x ∈ sgS i s) : ∃ k, k < (tkE s).length ∧ k < (emF s).length ∧ 0 ≤ (emF s).getD k 0 ∧ x = ((i : Int), ((tkE s).getD k T0k).col, (i : Int), (emF s).getD k 0) := by
 rw [acn_] at hx
 unfold sgs at hx
 obtain ⟨p, hp, hq⟩ := List.mem_filterMap.1 hx
 obtain ⟨k, hk⟩ := List.mem_iff_getElem?.1 hp
 have hz := (List.getElem?_eq_some_iff.1 hk).1
 rw [List.length_zip] at hz
 rw [T6_ (by rw [List.length_zip]; omega), List.getElem_zip] at hk
 simp only [Option.some.injEq] at hk
 subst hk
 refine ⟨k, by omega, by omega, ?_⟩
 have e1 : (tkE s).getD k T0k = (tkE s)[k]'(by omega) := by rw [T8_, T6_ (by omega)]; rfl
 have e2 : (emF s).getD k 0 = (emF s)[k]'(by omega) := by rw [T8_, T6_ (by omega)]; rfl
 rw [e1, e2]
 unfold sg1 at hq
 dsimp only at hq
 split at hq
 ·rename_i h; exact ⟨h, (Option.some.inj hq).symm⟩
 ·cases hq
def sgLt (a b : Sg) : Prop := a.1 < b.1 ∨ a.1 = b.1 ∧ a.2.1 < b.2.1
def sgB (n : Int) (x : Sg) : Prop := 0 ≤ x.1 ∧ x.1 < n ∧ 0 ≤ x.2.1 ∧ x.2.1 ≤ 119 ∧ x.2.2.1 = x.1 ∧ 0 ≤ x.2.2.2 ∧ x.2.2.2 ≤ 119
theorem af9_ {i : Nat} {s : Sl} (h : sok s = true) : ∀ k, k ≤ (emF s).length → (sgK i (tkE s) (emF s) k).Pairwise sgLt ∧ ∀ x ∈ sgK i (tkE s) (emF s) k, x.1 = i ∧ ∃ j, j < k ∧ x.2.1 = ((tkE s).getD j T0k).col
 | 0, _ => by simp [l3_]
 | k + 1, hk => by
  have hl := agp_ h
  obtain ⟨h1, h2⟩ := af9_ (i := i) h k (by omega)
  rw [e3_ (by omega) (by omega)]
  refine ⟨List.pairwise_append.2 ⟨h1, by split <;> simp, fun a ha b hb => ?_⟩, fun x hx => ?_⟩
  ·obtain ⟨q1, j, q2, q3⟩ := h2 a ha
   split at hb
   ·simp only [List.mem_cons, List.not_mem_nil, or_false] at hb
    subst hb
    refine .inr ⟨q1, ?_⟩
    have := ajy_ h q2 (by omega)
    dsimp only; omega
   ·simp at hb
  ·rcases List.mem_append.1 hx with hx | hx
   ·obtain ⟨q1, j, q2, q3⟩ := h2 x hx
    exact ⟨q1, j, by omega, q3⟩
   ·split at hx
    ·simp only [List.mem_cons, List.not_mem_nil, or_false] at hx
     subst hx
     exact ⟨rfl, k, by omega, rfl⟩
    ·simp at hx
theorem aj5_ {i : Nat} {s : Sl} (h : sok s = true) : (sgS i s).Pairwise sgLt ∧ ∀ x ∈ sgS i s, sgB (i + 1) x ∧ x.1 = i := by
 have h1 := (af9_ (i := i) h (emF s).length (Nat.le_refl _)).1
 rw [t3_ (.inr (Nat.le_refl _)), ← acn_] at h1
 refine ⟨h1, fun x hx => ?_⟩
 obtain ⟨k, k1, k2, k3, rfl⟩ := ahy_ hx
 have q1 := akb_ h k1
 have q2 := aks_ h k2
 refine ⟨?_, rfl⟩
 unfold sgB; dsimp only; omega
theorem af8_ {l : List Sl} (h : ∀ k, k < l.length → sok (l.getD k S0) = true) : ∀ k, k ≤ l.length → (sgN l k).Pairwise sgLt ∧ ∀ x ∈ sgN l k, sgB k x
 | 0, _ => by simp [sgN]
 | k + 1, hk => by
  obtain ⟨h1, h2⟩ := af8_ h k (by omega)
  obtain ⟨h3, h4⟩ := aj5_ (i := k) (h k (by omega))
  refine ⟨List.pairwise_append.2 ⟨h1, h3, fun a ha b hb => ?_⟩, fun x hx => ?_⟩
  ·have q1 := h2 a ha
   have q2 := (h4 b hb).2
   unfold sgB at q1
   exact .inl (by omega)
  ·rcases List.mem_append.1 hx with hx | hx
   ·have q1 := h2 x hx
    unfold sgB at q1 ⊢; omega
   ·have := (h4 x hx).1
    exact_mod_cast this
theorem akz_ (l : List Sl) : (sgP l).Pairwise sgLt ∧ ∀ x ∈ sgP l, sgB 16 x := by
 unfold sgP
 split
 ·rename_i h
  have h0 := vo_ h
  obtain ⟨h1, h2⟩ := af8_ h0.2.2 l.length (Nat.le_refl _)
  exact ⟨h1, fun x hx => by have := h2 x hx; unfold sgB at this ⊢; omega⟩
 ·simp
def rh_ (l : List Sg) (k : Nat) : Bool :=
 decide (0 ≤ (l.getD k G0).1) && decide ((l.getD k G0).1 ≤ 15) && (decide (0 ≤ (l.getD k G0).2.1) && decide ((l.getD k G0).2.1 ≤ 119)) && (decide (0 ≤ (l.getD k G0).2.2.1) && decide ((l.getD k G0).2.2.1 ≤ 15) && (decide (0 ≤ (l.getD k G0).2.2.2) && decide ((l.getD k G0).2.2.2 ≤ 119))) &&
  (decide (k = 0) || (decide ((l.getD (k - 1) G0).1 < (l.getD k G0).1) || decide ((l.getD (k - 1) G0).1 = (l.getD k G0).1) && decide ((l.getD (k - 1) G0).2.1 < (l.getD k G0).2.1)))
def sgok (l : List Sg) : Bool := (List.range l.length).all (rh_ l) && decide (l.length ≤ 1280)
theorem aky_ (l : List Sl) : sgok (sgP l) = true := by
 obtain ⟨h1, h2⟩ := akz_ l
 have h3 := afz_ l
 generalize sgP l = L at *
 simp only [sgok, T5_, T3_]
 refine ⟨List.all_eq_true.2 fun k hk => ?_, by omega⟩
 have hk : k < L.length := by simpa using hk
 have q := h2 _ (bj_ (d := G0) hk)
 unfold sgB at q
 have hp : k = 0 ∨ sgLt (L.getD (k - 1) G0) (L.getD k G0) := by
  rcases Nat.eq_zero_or_pos k with e | e
  ·exact .inl e
  ·refine .inr ?_
   have := List.pairwise_iff_getElem.1 h1 (k - 1) k (by omega) hk (by omega)
   rw [T8_, T6_ (by omega), T8_, T6_ hk]; exact this
 unfold rh_
 unfold sgLt at hp
 simp only [T5_, Bool.or_eq_true, T3_]
 omega
end
section
end
section
end
end Go.Proofs.YtilppnadkfgnfaaGreatDoor
