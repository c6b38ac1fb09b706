/- Parts of the proof, one after another: The places of a program's words are in order, within their bounds, and none came from where another one came. | Two programs behind each other; another line in the place of one: whence the words came. | Every byte of a word leads to where it came from, and back. Conditions: none. -/
import Derived.Test.YteihfmnmpdbkiaaGreatDoorK1
set_option linter.unusedVariables false
set_option linter.unusedSimpArgs false
namespace Go.Proofs.YteihfmnmpdbkiaaGreatDoor
section
theorem wid_step {l : List Str} {a : Nat} (h : a < l.length) : ∀ d, a + d + 1 ≤ l.length → wid (l.take a) + (l.getD a []).length + 1 ≤ wid (l.take (a + d + 1))
  | 0, _ => by rw [Nat.add_zero, wid_take h]; omega
  | d + 1, hd => by
    have := wid_step h d (by omega)
    rw [show a + (d + 1) + 1 = (a + d + 1) + 1 by omega, wid_take (by omega)]; omega
theorem wid_lt {l : List Str} {a b : Nat} (h : a < b) (hb : b ≤ l.length) : wid (l.take a) + (l.getD a []).length + 1 ≤ wid (l.take b) := by
  have := wid_step (l := l) (a := a) (by omega) (b - a - 1) (by omega)
  rwa [show a + (b - a - 1) + 1 = b by omega] at this
theorem cols_lt {l : List Str} {c : Int} {a b : Nat} (h : a < b) (hb : b < l.length) : (colsOf c l).getD a 0 + (l.getD a []).length + 1 ≤ (colsOf c l).getD b 0 := by
  have := wid_lt (l := l) h (by omega)
  rw [colsOf_at l c (by omega), colsOf_at l c hb]; omega
theorem emF_bd {s : Sl} (h : sok s = true) {a : Nat} (ha : a < (emF s).length) : -1 ≤ (emF s).getD a 0 ∧ (emF s).getD a 0 ≤ 119 := by
  have hs := sok_0 h
  have he : emF s = fromI s := by unfold emF; rw [if_pos h]
  rw [he] at ha ⊢
  rw [fromI_len] at ha
  rw [fromI_get ha]
  split
  · omega
  · rename_i q
    have := colOf_le ((bsrc (bof s)).getD a ([], 0)).2 (ssrc s) 0 (mem_ids.1 (ids_has hs (getD_mem ha) (by omega))).1
    have h2 := (sok_open h).1
    have h3 : widW (ssrc s) ≤ 120 := by
      unfold widW; rw [ssrc_sw hs]
      by_cases hw : sw' s = []
      · rw [hw, wid_nil]; omega
      · have := wid_text hw; omega
    omega
theorem tkOf_get : ∀ (l : List Str) (c : Int) {k : Nat}, k < l.length → ((tkOf c l).getD k T0k).col = (colsOf c l).getD k 0 ∧ ((tkOf c l).getD k T0k).s = l.getD k []
  | [], c, k, h => by simp at h
  | w :: r, c, 0, _ => by simp [tkOf, colsOf]
  | w :: r, c, k + 1, h => by
    simp only [tkOf, colsOf, List.getD_cons_succ]
    exact tkOf_get r _ (by simpa using h)
def tkE (s : Sl) : List Tk := (tokLine (emT s)).getD []
theorem tkE_eq {s : Sl} (h : sok s = true) : tkE s = tkOf 0 (bw (bof s)) := by unfold tkE; rw [tok_emT h]; rfl
theorem tkE_len {s : Sl} (h : sok s = true) : (tkE s).length = (emF s).length := emT_toks h
theorem tkE_lt {s : Sl} (h : sok s = true) {a b : Nat} (hab : a < b) (hb : b < (tkE s).length) : ((tkE s).getD a T0k).col + ((tkE s).getD a T0k).s.length + 1 ≤ ((tkE s).getD b T0k).col := by
  rw [tkE_eq h] at hb ⊢
  rw [tkOf_len] at hb
  have q1 := tkOf_get (bw (bof s)) 0 (k := a) (by omega)
  have q2 := tkOf_get (bw (bof s)) 0 (k := b) hb
  rw [q1.1, q1.2, q2.1]
  exact cols_lt hab hb
theorem tkE_bd {s : Sl} (h : sok s = true) {a : Nat} (ha : a < (tkE s).length) : 0 ≤ ((tkE s).getD a T0k).col ∧ ((tkE s).getD a T0k).col + ((tkE s).getD a T0k).s.length ≤ 120 ∧ 1 ≤ ((tkE s).getD a T0k).s.length ∧ ((tkE s).getD a T0k).s.length ≤ 8 := by
  rw [tkE_eq h] at ha ⊢
  rw [tkOf_len] at ha
  have q1 := tkOf_get (bw (bof s)) 0 (k := a) ha
  rw [q1.1, q1.2, colsOf_at _ _ ha]
  have hb := bok0_bof (sok_0 h)
  have h1 := (bw_le hb).2 _ (getD_mem (d := []) ha)
  have h2 := wid_take ha
  have h3 := wid_sub (bw (bof s)) (a + 1)
  have hne : bw (bof s) ≠ [] := by intro e; rw [e] at ha; simp at ha
  have h4 := wid_text hne
  have h5 := (bok_open (bok_bof h)).1
  omega
theorem sgS_eq (i : Nat) (s : Sl) : sgS i s = sgs i (tkE s) (emF s) := rfl
theorem sgS_mem {i : Nat} {s : Sl} {x : Sg} (hx : x ∈ sgS i s) : ∃ k, k < (tkE s).length ∧ k < (emF s).length ∧ 0 ≤ (emF s).getD k 0 ∧ x = ((i : Int), ((tkE s).getD k T0k).col, (i : Int), (emF s).getD k 0) := by
  rw [sgS_eq] at hx
  unfold sgs at hx
  obtain ⟨p, hp, hq⟩ := List.mem_filterMap.1 hx
  obtain ⟨k, hk⟩ := List.mem_iff_getElem?.1 hp
  have hz := (List.getElem?_eq_some_iff.1 hk).1
  rw [List.length_zip] at hz
  rw [List.getElem?_eq_getElem (by rw [List.length_zip]; omega), List.getElem_zip] at hk
  simp only [Option.some.injEq] at hk
  subst hk
  refine ⟨k, by omega, by omega, ?_⟩
  have e1 : (tkE s).getD k T0k = (tkE s)[k]'(by omega) := by rw [List.getD_eq_getElem?_getD, List.getElem?_eq_getElem (by omega)]; rfl
  have e2 : (emF s).getD k 0 = (emF s)[k]'(by omega) := by rw [List.getD_eq_getElem?_getD, List.getElem?_eq_getElem (by omega)]; rfl
  rw [e1, e2]
  unfold sg1 at hq
  dsimp only at hq
  split at hq
  · rename_i h; exact ⟨h, (Option.some.inj hq).symm⟩
  · cases hq
def sgLt (a b : Sg) : Prop := a.1 < b.1 ∨ a.1 = b.1 ∧ a.2.1 < b.2.1
def sgB (n : Int) (x : Sg) : Prop := 0 ≤ x.1 ∧ x.1 < n ∧ 0 ≤ x.2.1 ∧ x.2.1 ≤ 119 ∧ x.2.2.1 = x.1 ∧ 0 ≤ x.2.2.2 ∧ x.2.2.2 ≤ 119
theorem sgK_pw {i : Nat} {s : Sl} (h : sok s = true) : ∀ k, k ≤ (emF s).length → (sgK i (tkE s) (emF s) k).Pairwise sgLt ∧ ∀ x ∈ sgK i (tkE s) (emF s) k, x.1 = i ∧ ∃ j, j < k ∧ x.2.1 = ((tkE s).getD j T0k).col
  | 0, _ => by simp [sgK_zero]
  | k + 1, hk => by
    have hl := tkE_len h
    obtain ⟨h1, h2⟩ := sgK_pw (i := i) h k (by omega)
    rw [sgK_succ (by omega) (by omega)]
    refine ⟨List.pairwise_append.2 ⟨h1, by split <;> simp, fun a ha b hb => ?_⟩, fun x hx => ?_⟩
    · obtain ⟨q1, j, q2, q3⟩ := h2 a ha
      split at hb
      · simp only [List.mem_cons, List.not_mem_nil, or_false] at hb
        subst hb
        refine .inr ⟨q1, ?_⟩
        have := tkE_lt h q2 (by omega)
        dsimp only; omega
      · simp at hb
    · rcases List.mem_append.1 hx with hx | hx
      · obtain ⟨q1, j, q2, q3⟩ := h2 x hx
        exact ⟨q1, j, by omega, q3⟩
      · split at hx
        · simp only [List.mem_cons, List.not_mem_nil, or_false] at hx
          subst hx
          exact ⟨rfl, k, by omega, rfl⟩
        · simp at hx
theorem sgS_pw {i : Nat} {s : Sl} (h : sok s = true) : (sgS i s).Pairwise sgLt ∧ ∀ x ∈ sgS i s, sgB (i + 1) x ∧ x.1 = i := by
  have h1 := (sgK_pw (i := i) h (emF s).length (Nat.le_refl _)).1
  rw [sgK_end (.inr (Nat.le_refl _)), ← sgS_eq] at h1
  refine ⟨h1, fun x hx => ?_⟩
  obtain ⟨k, k1, k2, k3, rfl⟩ := sgS_mem hx
  have q1 := tkE_bd h k1
  have q2 := emF_bd h k2
  refine ⟨?_, rfl⟩
  unfold sgB; dsimp only; omega
theorem sgN_pw {l : List Sl} (h : ∀ k, k < l.length → sok (l.getD k S0) = true) : ∀ k, k ≤ l.length → (sgN l k).Pairwise sgLt ∧ ∀ x ∈ sgN l k, sgB k x
  | 0, _ => by simp [sgN]
  | k + 1, hk => by
    obtain ⟨h1, h2⟩ := sgN_pw h k (by omega)
    obtain ⟨h3, h4⟩ := sgS_pw (i := k) (h k (by omega))
    refine ⟨List.pairwise_append.2 ⟨h1, h3, fun a ha b hb => ?_⟩, fun x hx => ?_⟩
    · have q1 := h2 a ha
      have q2 := (h4 b hb).2
      unfold sgB at q1
      exact .inl (by omega)
    · rcases List.mem_append.1 hx with hx | hx
      · have q1 := h2 x hx
        unfold sgB at q1 ⊢; omega
      · have := (h4 x hx).1
        exact_mod_cast this
theorem sgP_pw (l : List Sl) : (sgP l).Pairwise sgLt ∧ ∀ x ∈ sgP l, sgB 16 x := by
  unfold sgP
  split
  · rename_i h
    have h0 := pok_open h
    obtain ⟨h1, h2⟩ := sgN_pw h0.2.2 l.length (Nat.le_refl _)
    exact ⟨h1, fun x hx => by have := h2 x hx; unfold sgB at this ⊢; omega⟩
  · simp
def sgok1 (l : List Sg) (k : Nat) : Bool :=
  decide (0 ≤ (l.getD k G0).1) && decide ((l.getD k G0).1 ≤ 15) && (decide (0 ≤ (l.getD k G0).2.1) && decide ((l.getD k G0).2.1 ≤ 119)) && (decide (0 ≤ (l.getD k G0).2.2.1) && decide ((l.getD k G0).2.2.1 ≤ 15) && (decide (0 ≤ (l.getD k G0).2.2.2) && decide ((l.getD k G0).2.2.2 ≤ 119))) &&
    (decide (k = 0) || (decide ((l.getD (k - 1) G0).1 < (l.getD k G0).1) || decide ((l.getD (k - 1) G0).1 = (l.getD k G0).1) && decide ((l.getD (k - 1) G0).2.1 < (l.getD k G0).2.1)))
def sgok (l : List Sg) : Bool := (List.range l.length).all (sgok1 l) && decide (l.length ≤ 1280)
theorem sgok_P (l : List Sl) : sgok (sgP l) = true := by
  obtain ⟨h1, h2⟩ := sgP_pw l
  have h3 := sgP_le l
  generalize sgP l = L at *
  simp only [sgok, Bool.and_eq_true, decide_eq_true_eq]
  refine ⟨List.all_eq_true.2 fun k hk => ?_, by omega⟩
  have hk : k < L.length := by simpa using hk
  have q := h2 _ (getD_mem (d := G0) hk)
  unfold sgB at q
  have hp : k = 0 ∨ sgLt (L.getD (k - 1) G0) (L.getD k G0) := by
    rcases Nat.eq_zero_or_pos k with e | e
    · exact .inl e
    · refine .inr ?_
      have := List.pairwise_iff_getElem.1 h1 (k - 1) k (by omega) hk (by omega)
      rw [List.getD_eq_getElem?_getD, List.getElem?_eq_getElem (by omega), List.getD_eq_getElem?_getD, List.getElem?_eq_getElem hk]; exact this
  unfold sgok1
  unfold sgLt at hp
  simp only [Bool.and_eq_true, Bool.or_eq_true, decide_eq_true_eq]
  omega
end

section
def sgSh (n : Int) (x : Sg) : Sg := (x.1 + n, x.2.1, x.2.2.1 + n, x.2.2.2)
theorem sgS_sh (n i : Nat) (s : Sl) : sgS (n + i) s = (sgS i s).map (sgSh n) := by
  rw [sgS_eq, sgS_eq]
  unfold sgs
  rw [List.map_filterMap]
  congr 1
  funext x
  unfold sg1
  split
  · simp only [Option.map_some, sgSh, Option.some.injEq, Prod.mk.injEq, and_true, true_and]; omega
  · rfl
theorem sgN_left (a b : List Sl) : ∀ k, k ≤ a.length → sgN (a ++ b) k = sgN a k
  | 0, _ => rfl
  | k + 1, h => by
    rw [sgN, sgN, sgN_left a b k (by omega)]
    congr 2
    rw [List.getD_eq_getElem?_getD, List.getD_eq_getElem?_getD, List.getElem?_append_left (by omega)]
theorem sgN_right (a b : List Sl) : ∀ k, k ≤ b.length → sgN (a ++ b) (a.length + k) = sgN a a.length ++ (sgN b k).map (sgSh a.length)
  | 0, _ => by rw [Nat.add_zero, sgN_left a b _ (Nat.le_refl _)]; simp [sgN]
  | k + 1, h => by
    rw [← Nat.add_assoc, sgN, sgN, sgN_right a b k (by omega), List.map_append, List.append_assoc]
    congr 2
    rw [← sgS_sh]
    congr 1
    rw [List.getD_eq_getElem?_getD, List.getD_eq_getElem?_getD, List.getElem?_append_right (by omega), Nat.add_sub_cancel_left]
theorem sgP_cat {a b : List Sl} (ha : pok a = true) (hb : pok b = true) (h : pok (a ++ b) = true) : sgP (a ++ b) = sgP a ++ (sgP b).map (sgSh a.length) := by
  unfold sgP
  rw [if_pos ha, if_pos hb, if_pos h, List.length_append, sgN_right a b _ (Nat.le_refl _)]
theorem ln_app : ∀ {a b : List Str}, a ≠ [] → b ≠ [] → lnText (a ++ b) = lnText a ++ 10 :: lnText b
  | [], _, h, _ => absurd rfl h
  | [x], b, _, h => by
    obtain ⟨y, r, rfl⟩ := List.exists_cons_of_ne_nil h
    rw [List.cons_append, List.nil_append, ln_cons, ln_one]
  | x :: y :: a, b, _, h => by
    have := ln_app (a := y :: a) (b := b) (by simp) h
    rw [List.cons_append] at this
    rw [List.cons_append, List.cons_append, ln_cons, ln_cons, this, List.append_assoc]
    rfl
theorem pok_ne {l : List Sl} (h : pok l = true) : l ≠ [] := by intro e; subst e; simp [pok] at h
theorem emText_cat {a b : List Sl} (ha : pok a = true) (hb : pok b = true) (h : pok (a ++ b) = true) : emText (a ++ b) = emText a ++ 10 :: emText b := by
  unfold emText
  rw [if_pos ha, if_pos hb, if_pos h, List.map_append, ln_app (by simpa using pok_ne ha) (by simpa using pok_ne hb)]
def notL (k : Int) (x : Sg) : Bool := !decide (x.1 = k)
theorem sgS_fst {i : Nat} {s : Sl} : ∀ x ∈ sgS i s, x.1 = i := fun x hx => by obtain ⟨k, _, _, _, rfl⟩ := sgS_mem hx; rfl
theorem sgN_put (l : List Sl) (k : Nat) (s : Sl) (hk : k < l.length) : ∀ m, m ≤ l.length → (sgN (l.set k s) m).filter (notL k) = (sgN l m).filter (notL k)
  | 0, _ => rfl
  | m + 1, h => by
    rw [sgN, sgN, List.filter_append, List.filter_append, sgN_put l k s hk m (by omega)]
    congr 1
    by_cases e : k = m
    · subst e
      have z : ∀ t : Sl, (sgS k t).filter (notL k) = [] := fun t => List.filter_eq_nil_iff.2 fun x hx => by simp [notL, sgS_fst x hx]
      rw [z, z]
    · congr 2
      rw [List.getD_eq_getElem?_getD, List.getD_eq_getElem?_getD, List.getElem?_set_ne e]
theorem pok_put {l : List Sl} {k : Nat} {s : Sl} (h : pok l = true) (hs : sok s = true) : pok (l.set k s) = true := by
  simp only [pok, Bool.and_eq_true, decide_eq_true_eq, List.all_eq_true] at h ⊢
  rw [List.length_set]
  exact ⟨h.1, fun x hx => by rcases List.mem_or_eq_of_mem_set hx with q | rfl; exact h.2 x q; exact hs⟩
theorem sgP_put {l : List Sl} {k : Nat} {s : Sl} (h : pok l = true) (hs : sok s = true) (hk : k < l.length) : (sgP (l.set k s)).filter (notL k) = (sgP l).filter (notL k) := by
  unfold sgP
  rw [if_pos h, if_pos (pok_put h hs), List.length_set, sgN_put l k s hk _ (Nat.le_refl _)]
end

section

end
end Go.Proofs.YteihfmnmpdbkiaaGreatDoor
