/- The program's reader of what is reckoned, as a plain function; it reads back what is written. Conditions: none. -/
import Derived.Test.YtcigkafioinfoaaGreatDoorKc
import Derived.Test.YtcigkafioinfoaaGreatDoorKb
set_option linter.unusedVariables false
set_option linter.unusedSimpArgs false
namespace Go.Proofs.YtcigkafioinfoaaGreatDoor
section
structure RS where
 left : List Str
 bad : Bool
 deep : Int
def wAs : Str := [97, 115]
def y8_ (s : RS) : RS := match s.left with | [] => { s with bad := true } | _ :: r => { s with left := r }
def asL : List Str → E → Int → E × RS
 | [], e, d => (e, ⟨[], false, d⟩)
 | [w], e, d => if w = wAs then (.mk 4 0 [] [e], ⟨[], true, d⟩) else (e, ⟨[w], false, d⟩)
 | w :: t :: r, e, d => if w = wAs then asL r (.mk 4 0 t [e]) d else (e, ⟨w :: t :: r, false, d⟩)
def asR (s : RS) (e : E) : E × RS := if s.bad then (e, s) else asL s.left e s.deep
theorem qz_ : ∀ (l : List Str) (e : E) (d : Int), (asL l e d).2.left.length ≤ l.length ∧ (asL l e d).2.deep = d
 | [], e, d => by simp [asL]
 | [w], e, d => by simp only [asL]; split <;> simp
 | w :: t :: r, e, d => by
  simp only [asL]
  split
  ·have := qz_ r (.mk 4 0 t [e]) d; simp only [T7_]; omega
  ·simp
theorem aff_ (s : RS) (e : E) : (asR s e).2.left.length ≤ s.left.length := by
 unfold asR; split
 ·exact Nat.le_refl _
 ·exact (qz_ s.left e s.deep).1
theorem aah_ (s : RS) (e : E) : (asR s e).2.deep = s.deep := by
 unfold asR; split
 ·rfl
 ·exact (qz_ s.left e s.deep).2
def eff (e : E) (must : Int) : Int := if e.kind = 3 ∧ ¬ bx_ e.s < must then bx_ e.s else 4
theorem yw_ {n : Nat} (h : n ≤ 1000000) : eq_ (Go.Lib.decDigits n) = true ∧ cu_ (Go.Lib.decDigits n) = n ∧ Go.Lib.decDigits n ≠ [40] := by
 refine ⟨eu_.2 ⟨n, h, rfl⟩, d4_ n, fun e => ?_⟩
 have := e3_ n 40 (by rw [e]; simp)
 unfold gm_ at this; revert this; decide
end
section
theorem lh_ (c : UInt8) : c3_ c = true ↔ gm_ c := l8_ c
theorem ab6_ (l : Str) : ((hv_ l).2 && (decide (0 ≤ (hv_ l).1) && decide ((hv_ l).1 ≤ 1000000))) = eq_ l ∧ (eq_ l = true → (hv_ l).1 = cu_ l) := by
 have key : eq_ l = true → (hv_ l).2 = true ∧ (hv_ l).1 = cu_ l := fun h => by
  obtain ⟨n, hn, rfl⟩ := eu_.1 h
  have hd := e3_ n
  have hlen := js_ hn
  have hh : (Go.Lib.decDigits n).head? ≠ some 45 := fun e => by
   have := hd 45 (List.mem_of_mem_head? (by rw [e]; rfl)); unfold gm_ at this; revert this; decide
  have hz : (Go.Lib.decDigits n).head? = some 48 → (Go.Lib.decDigits n).length ≤ 1 := fun e => by
   by_cases h : n < 10
   ·rw [Go.Lib.decDigits_one h]; simp
   ·exfalso; exact dec_lead n (by omega) e
  have hne : (Go.Lib.decDigits n).length ≠ 0 := fun e => gq_ n (List.eq_nil_of_length_eq_zero e)
  unfold hv_
  simp only [show ((Go.Lib.decDigits n).head? == some 45) = false by simpa using hh, Bool.false_eq_true, if_false, or_false]
  rw [if_neg (by rintro (h | h | ⟨h1, h2⟩); exact hne h; omega; have := hz h1; omega), if_pos (List.all_eq_true.2 fun c hc => (lh_ c).2 (hd c hc))]
  exact ⟨rfl, rfl⟩
 refine ⟨?_, fun h => (key h).2⟩
 cases h : eq_ l with
 | true =>
  obtain ⟨h1, h2⟩ := key h
  obtain ⟨n, hn, rfl⟩ := eu_.1 h
  rw [h1, h2, d4_]; simp; omega
 | false =>
  rw [Bool.eq_false_iff]
  intro hh
  rw [Bool.eq_false_iff] at h
  apply h
  simp only [T5_, T3_] at hh
  obtain ⟨h1, h2, h3⟩ := hh
  unfold hv_ at h1 h2 h3
  cases hneg : (l.head? == some 45) with
  | true =>
   exfalso
   simp only [hneg, if_true] at h1 h2 h3
   split at h1
   ·cases h1
   ·rename_i hc
    rw [if_neg hc] at h2 h3
    split at h1
    ·rename_i hall
     rw [if_pos hall] at h2 h3
     have hd : ∀ c ∈ l.tail, gm_ c := fun c hc => (lh_ c).1 (List.all_eq_true.1 hall c hc)
     have hne : l.tail ≠ [] := fun e => hc (.inl (by rw [e]; rfl))
     have := (lead hne hd (fun e => hc (.inr (.inr ⟨e, .inr trivial⟩)))).1
     omega
    ·cases h1
  | false =>
   simp only [hneg, Bool.false_eq_true, if_false, or_false] at h1 h2 h3
   split at h1
   ·cases h1
   ·rename_i hc
    rw [if_neg hc] at h2 h3
    split at h1
    ·rename_i hall
     rw [if_pos hall] at h2 h3
     have hd : ∀ c ∈ l, gm_ c := fun c hc => (lh_ c).1 (List.all_eq_true.1 hall c hc)
     have hne : l ≠ [] := fun e => hc (.inl (by rw [e]; rfl))
     refine eu_.2 ⟨cu_ l, by omega, ?_⟩
     by_cases h0 : l.head? = some 48
     ·have : ¬ 1 < l.length := fun h => hc (.inr (.inr ⟨h0, h⟩))
      match l, h0, this, hne with
      | [c], h0, _, _ => simp at h0; subst h0; rw [show cu_ [48] = 0 from rfl, Go.Lib.decDigits_one (by decide)]; rfl
      | _ :: _ :: _, _, h, _ => simp at h
     ·exact (lead hne hd h0).2.symm
    ·cases h1
where
 dec_lead (n : Nat) (h : 1 ≤ n) : (Go.Lib.decDigits n).head? ≠ some 48 := by
  induction n using Nat.strongRecOn with
  | ind n ih =>
   by_cases h1 : n < 10
   ·rw [Go.Lib.decDigits_one h1]
    simp only [List.head?_cons, ne_eq, Option.some.injEq]
    intro e
    have := nl_ h1
    rw [e] at this
    have e2 : (48 : UInt8).toNat = 48 := rfl
    omega
   ·rw [dv_ h1]
    have := ih (n / 10) (by omega) (by omega)
    cases hl : Go.Lib.decDigits (n / 10) with
    | nil => exact absurd hl (gq_ _)
    | cons c r => rw [hl] at this; simpa using this
end
section
def marks : Str := [43, 45, 42, 60, 40, 41, 58, 61]
def fj_ (s : Str) : Bool := s.length == 1 && marks.contains (s.headD 0)
def dn_ (s : Str) : Int := if e7_ s then 1 else if eq_ s then 2 else if fj_ s then 3 else 0
structure Tk where
 kind : Int
 s : Str
 col : Int
def ea_ (l : Str) : Nat := max 1 (max (l.takeWhile dh_).length (l.takeWhile c3_).length)
def gj_ : Nat → Str → Int → Option (List Tk)
 | 0, _, _ => some []
 | _ + 1, [], _ => some []
 | n + 1, c :: l, col =>
  if c = 32 then gj_ n l (col + 1)
  else if dn_ ((c :: l).take (ea_ (c :: l))) = 0 then none
  else (gj_ n ((c :: l).drop (ea_ (c :: l))) (col + ea_ (c :: l))).map (⟨dn_ ((c :: l).take (ea_ (c :: l))), (c :: l).take (ea_ (c :: l)), col⟩ :: ·)
def dl_ (l : Str) : Option (List Tk) := if 120 < l.length then none else gj_ l.length l 0
theorem nu_ (l : Str) : 1 ≤ ea_ l := by unfold ea_; omega
theorem afo_ (p : UInt8 → Bool) (l : Str) : (l.takeWhile p).length ≤ l.length := (List.takeWhile_prefix p).length_le
theorem ae5_ {l : Str} (h : l ≠ []) : ea_ l ≤ l.length := by
 have h1 := afo_ dh_ l
 have h2 := afo_ c3_ l
 have h3 := List.length_pos_iff.2 h
 unfold ea_; omega
theorem lv_ : ∀ (n m : Nat) (l : Str) (col : Int), l.length ≤ n → l.length ≤ m → gj_ n l col = gj_ m l col
 | 0, m, l, col, hn, hm => by
  have : l = [] := List.eq_nil_of_length_eq_zero (by omega)
  subst this
  cases m <;> rfl
 | n + 1, 0, l, col, hn, hm => by
  have : l = [] := List.eq_nil_of_length_eq_zero (by omega)
  subst this
  rfl
 | n + 1, m + 1, [], col, _, _ => rfl
 | n + 1, m + 1, c :: l, col, hn, hm => by
  simp only [T7_] at hn hm
  have h1 := nu_ (c :: l)
  simp only [gj_]
  rw [lv_ n m l (col + 1) (by omega) (by omega), lv_ n m ((c :: l).drop (ea_ (c :: l))) _ (by simp; omega) (by simp; omega)]
theorem je_ (c : UInt8) (l : Str) (col : Int) : gj_ (c :: l).length (c :: l) col =
  if c = 32 then gj_ l.length l (col + 1)
  else if dn_ ((c :: l).take (ea_ (c :: l))) = 0 then none
  else (gj_ ((c :: l).drop (ea_ (c :: l))).length ((c :: l).drop (ea_ (c :: l))) (col + ea_ (c :: l))).map (⟨dn_ ((c :: l).take (ea_ (c :: l))), (c :: l).take (ea_ (c :: l)), col⟩ :: ·) := by
 have h1 := nu_ (c :: l)
 have h2 := lv_ l.length ((c :: l).drop (ea_ (c :: l))).length ((c :: l).drop (ea_ (c :: l))) (col + ea_ (c :: l)) (by simp; omega) (Nat.le_refl _)
 simp only [T7_, gj_]
 rw [h2]
def tm_ : Int → List Str → List Tk
 | _, [] => []
 | c, w :: r => ⟨dn_ w, w, c⟩ :: tm_ (c + w.length + 1) r
def c2_ : Int → List Str → List Int
 | _, [] => []
 | c, w :: r => c :: c2_ (c + w.length + 1) r
theorem ab4_ : ∀ (c : Int) (l : List Str), (tm_ c l).map (·.s) = l
 | _, [] => rfl
 | c, w :: r => by simp only [tm_, List.map_cons, ab4_]
def ey_ (w : Str) : Prop := dn_ w ≠ 0
theorem acg_ {p : UInt8 → Bool} {w r : Str} (h : w.all p = true) (hr : ∀ c, r.head? = some c → p c = false) : (w ++ r).takeWhile p = w := by
 induction w with
 | nil =>
  cases r with
  | nil => rfl
  | cons c r => simp [List.takeWhile, hr c rfl]
 | cons c w ih =>
  simp only [List.all_cons, T5_] at h
  simp [List.takeWhile, h.1, ih h.2]
theorem j8_ {p : UInt8 → Bool} {c : UInt8} {l : Str} (h : p c = false) : (c :: l).takeWhile p = [] := by simp [List.takeWhile, h]
theorem gk_ {c : UInt8} (h : dh_ c = true) : c3_ c = false := by
 rw [Bool.eq_false_iff]; intro h2
 simp only [dh_, c3_, T5_, T3_] at h h2; omega
theorem mt_ {c : UInt8} (h : c3_ c = true) : dh_ c = false := by
 rw [Bool.eq_false_iff]; intro h2
 simp only [dh_, c3_, T5_, T3_] at h h2; omega
theorem jz_ {w : Str} (h : ey_ w) : (w ≠ [] ∧ w.all dh_ = true) ∨ (w ≠ [] ∧ w.all c3_ = true) ∨ (∃ c, w = [c] ∧ dh_ c = false ∧ c3_ c = false ∧ c ≠ 32) := by
 unfold ey_ dn_ at h
 by_cases h1 : e7_ w = true
 ·left
  simp only [e7_, T5_, T3_] at h1
  exact ⟨fun e => by subst e; simp at h1, h1.1.1⟩
 rw [if_neg h1] at h
 by_cases h2 : eq_ w = true
 ·right; left
  obtain ⟨n, hn, rfl⟩ := eu_.1 h2
  exact ⟨gq_ n, List.all_eq_true.2 fun c hc => (l8_ c).2 (e3_ n c hc)⟩
 rw [if_neg h2] at h
 by_cases h3 : fj_ w = true
 ·right; right
  simp only [fj_, T5_, beq_iff_eq] at h3
  match w, h3 with
  | [c], h3 =>
   have h4 := h3.2
   refine ⟨c, rfl, ?_⟩
   simp [marks] at h4
   rcases h4 with h4 | h4 | h4 | h4 | h4 | h4 | h4 | h4 <;> subst h4 <;> decide
 ·rw [if_neg h3] at h; exact absurd rfl h
theorem ti_ {w : Str} (h : ey_ w) : w ≠ [] := by
 rcases jz_ h with h | h | ⟨c, rfl, _⟩
 ·exact h.1
 ·exact h.1
 ·simp
theorem od_ {c : UInt8} {w : Str} (h : ey_ (c :: w)) : c ≠ 32 := by
 rcases jz_ h with h | h | ⟨d, e, h1, h2, h3⟩
 ·intro e; subst e; have := h.2; simp [dh_] at this
 ·intro e; subst e; have := h.2; simp [c3_] at this
 ·injection e with e1 e2; subst e1; exact h3
theorem qr_ {w r : Str} (h : ey_ w) (hr : r = [] ∨ ∃ r', r = 32 :: r') : ea_ (w ++ r) = w.length := by
 have hl : ∀ c, r.head? = some c → dh_ c = false := fun c hc => by
  rcases hr with rfl | ⟨r', rfl⟩
  ·simp at hc
  ·simp at hc; subst hc; decide
 have hd : ∀ c, r.head? = some c → c3_ c = false := fun c hc => by
  rcases hr with rfl | ⟨r', rfl⟩
  ·simp at hc
  ·simp at hc; subst hc; decide
 unfold ea_
 rcases jz_ h with h | h | ⟨c, rfl, h1, h2, h3⟩
 ·rw [acg_ h.2 hl]
  cases w with
  | nil => exact absurd rfl h.1
  | cons c w =>
   have := h.2
   simp only [List.all_cons, T5_] at this
   rw [List.cons_append, j8_ (gk_ this.1)]; simp
 ·rw [acg_ h.2 hd]
  cases w with
  | nil => exact absurd rfl h.1
  | cons c w =>
   have := h.2
   simp only [List.all_cons, T5_] at this
   rw [List.cons_append, j8_ (mt_ this.1)]; simp
 ·rw [List.cons_append, j8_ h1, j8_ h2]; rfl
theorem nr_ : ∀ (l : List Str) (col : Int), (∀ w ∈ l, ey_ w) → gj_ (cj_ l).length (cj_ l) col = some (tm_ col l)
 | [], col, _ => rfl
 | [w], col, h => by
  have hw := h w (by simp)
  rw [gd_]
  have hl := qr_ (r := []) hw (.inl rfl)
  rw [List.append_nil] at hl
  cases hc : w with
  | nil => exact absurd hc (ti_ hw)
  | cons c v =>
   rw [← hc, show w.length = (c :: v).length by rw [hc], hc, je_, ← hc, hl]
   have : c ≠ 32 := od_ (by rw [← hc]; exact hw)
   rw [if_neg this, List.take_length, if_neg hw, List.drop_length]
   rfl
 | w :: x :: l, col, h => by
  have hw := h w (by simp)
  have ih := nr_ (x :: l) (col + w.length + 1) (fun y hy => h y (by simp [hy]))
  rw [fo_]
  have hl := qr_ (r := 32 :: cj_ (x :: l)) hw (.inr ⟨_, rfl⟩)
  cases hc : w with
  | nil => exact absurd hc (ti_ hw)
  | cons c v =>
   have h32 : c ≠ 32 := od_ (by rw [← hc]; exact hw)
   have e1 : c :: v ++ 32 :: cj_ (x :: l) = c :: (v ++ 32 :: cj_ (x :: l)) := rfl
   have e2 : c :: (v ++ 32 :: cj_ (x :: l)) = w ++ 32 :: cj_ (x :: l) := by rw [hc]; rfl
   rw [e1, je_, if_neg h32, e2, hl, List.take_left, List.drop_left, if_neg hw, je_, if_pos rfl, ih, ← hc]
   rfl
theorem pi_ {l : List Str} (h : ∀ w ∈ l, ey_ w) (hl : (cj_ l).length ≤ 120) : dl_ (cj_ l) = some (tm_ 0 l) := by
 unfold dl_; rw [if_neg (by omega)]; exact nr_ l 0 h
theorem ts_ {s : Str} (h : lu_ s = true) : ey_ s := by
 simp only [lu_, T5_] at h
 unfold ey_ dn_; rw [if_pos h.1]; decide
theorem y5_ {n : Nat} (h : n ≤ 1000000) : ey_ (Go.Lib.decDigits n) := by
 unfold ey_ dn_
 split
 ·decide
 ·rw [if_pos (yw_ h).1]; decide
theorem g5_ {s : Str} (h : fj_ s = true) : ey_ s := by
 unfold ey_ dn_
 split
 ·decide
 ·split
  ·decide
  ·try rw [if_pos h]
   decide
theorem g7_ {s : Str} (h : e7_ s = true) : ey_ s := by unfold ey_ dn_; rw [if_pos h]; decide
theorem zs_ {s : Str} (h : ik_ s = true) : ey_ s := by
 simp only [ik_, Bool.or_eq_true, beq_iff_eq] at h; rcases h with ((h | h) | h) | h <;> subst h <;> exact g5_ (by decide)
theorem xu_ {s : Str} (h : gl_ s = true) : ey_ s := by
 simp only [gl_, Bool.or_eq_true, beq_iff_eq] at h; rcases h with h | h <;> subst h <;> exact g7_ (by decide)
theorem fx_ : ∀ (d : Nat) (e : E) (must : Int), form e d = true → ∀ s ∈ wds e must, ey_ s
 | 0, e, must, h => by have := (cd_ h).1; omega
 | d + 1, e, must, h => by
  have e1 : ((d + 1 : Nat) : Int) - 1 = (d : Int) := by omega
  intro s hs
  rcases (cd_ h).2 with ⟨k1, h1, h2, h3, h4⟩ | ⟨k1, h1, h2, h3⟩ | ⟨k1, h1, h2, h3, h4, h5⟩ | ⟨k1, h1, h2, h3, h4⟩
  ·rw [en_ k1] at hs; simp at hs; subst hs; exact y5_ (by omega)
  ·rw [d1_ k1] at hs; simp at hs; subst hs; exact ts_ h2
  ·rw [e1] at h4 h5
   rw [gs_ k1 h3] at hs
   have A := fx_ d _ (max 2 (bx_ e.s)) h4
   have B := fx_ d _ (bx_ e.s + 1) h5
   have key : s ∈ wds (e.kids.getD 0 E0) (max 2 (bx_ e.s)) ++ [e.s] ++ wds (e.kids.getD 1 E0) (bx_ e.s + 1) → ey_ s := fun hs => by
    simp only [List.mem_append, List.mem_singleton] at hs
    rcases hs with (hs | hs) | hs
    ·exact A s hs
    ·rw [hs]; exact zs_ h2
    ·exact B s hs
   split at hs
   ·rcases List.mem_append.1 hs with hs | hs
    ·rcases List.mem_append.1 hs with hs | hs
     ·simp at hs; subst hs; exact g5_ (by decide)
     ·exact key hs
    ·simp at hs; subst hs; exact g5_ (by decide)
   ·exact key hs
  ·rw [e1] at h4
   rw [iz_ k1 h3] at hs
   simp only [List.mem_append, List.mem_cons, List.not_mem_nil, or_false] at hs
   rcases hs with hs | hs | hs
   ·exact fx_ d _ 4 h4 s hs
   ·subst hs; exact g7_ (by decide)
   ·subst hs; exact xu_ h2
end
section
def ab1_ (b : Bl) : Str := cj_ (bw b)
theorem n6_ {s : Bl} (h : bok s = true) : (cj_ (bw s)).length ≤ 120 ∧
  (s = B0 ∨ (s.kind = 1 ∧ lu_ s.name = true ∧ pe s.expr = true ∧ s.thn = E0) ∨ (s.kind = 2 ∧ s.name = [] ∧ pe s.expr = true ∧ s.thn = E0) ∨ (s.kind = 3 ∧ s.name = [] ∧ pe s.expr = true ∧ pe s.thn = true)) := by
 simp only [bok, T5_, T3_] at h
 refine ⟨h.2, ?_⟩
 have h := h.1
 unfold jl_ at h
 by_cases k0 : s.kind = 0
 ·simp [k0, ei_] at h
  left; cases s; simp_all [B0]
 by_cases k1 : s.kind = 1
 ·simp [k1, ei_] at h; exact .inr (.inl ⟨k1, h.1.1, h.1.2, h.2⟩)
 by_cases k2 : s.kind = 2
 ·simp [k2, ei_] at h; exact .inr (.inr (.inl ⟨k2, h.1.1, h.1.2, h.2⟩))
 by_cases k3 : s.kind = 3
 ·simp [k3] at h; exact .inr (.inr (.inr ⟨k3, h.1.1, h.1.2, h.2⟩))
 ·simp [k0, k1, k2, k3] at h
theorem xq_ : ey_ j7_ := g5_ (by decide)
theorem abq_ : ey_ wEq := g5_ (by decide)
theorem acu_ {s : Bl} (h : bok s = true) : ∀ w ∈ bw s, ey_ w := by
 obtain ⟨_, h | ⟨k, h1, h3, h4⟩ | ⟨k, h1, h3, h4⟩ | ⟨k, h1, h3, h4⟩⟩ := n6_ h
 ·subst h; intro w hw; simp [bw, B0] at hw
 ·intro w hw
  simp only [bw, k, if_true, List.mem_cons] at hw
  rcases hw with rfl | rfl | hw
  ·exact ts_ h1
  ·exact abq_
  ·exact fx_ 5 _ 1 (ci_ (gf_ h3)) w hw
 ·intro w hw
  simp only [bw, k, show ¬ (2 : Int) = 1 by omega, if_false, if_true, List.mem_cons] at hw
  rcases hw with rfl | hw
  ·exact g7_ (by decide)
  ·exact fx_ 5 _ 1 (ci_ (gf_ h3)) w hw
 ·intro w hw
  simp only [bw, k, show ¬ (3 : Int) = 1 by omega, show ¬ (3 : Int) = 2 by omega, if_false, if_true, List.mem_cons, List.mem_append] at hw
  rcases hw with (rfl | hw) | rfl | rfl | hw
  ·exact g7_ (by decide)
  ·exact fx_ 5 _ 1 (ci_ (gf_ h3)) w hw
  ·exact xq_
  ·exact g7_ (by decide)
  ·exact fx_ 5 _ 1 (ci_ (gf_ h4)) w hw
theorem yp_ {s : Bl} (h : bok s = true) : dl_ (ab1_ s) = some (tm_ 0 (bw s)) := pi_ (acu_ h) (n6_ h).1
end
section
mutual
theorem qo_ : ∀ (e : E) (d k : Nat), form e d = true → form e ((d + k : Nat) : Int) = true ∧ many e ((d + k : Nat) : Int) = many e d
 | .mk kd n s kids, d, k, h => by
  have hd : 1 ≤ d := by have := (cd_ h).1; omega
  obtain ⟨d, rfl⟩ : ∃ d', d = d' + 1 := ⟨d - 1, by omega⟩
  have e1 : ((d + 1 : Nat) : Int) - 1 = (d : Int) := by omega
  have e2 : ((d + 1 + k : Nat) : Int) - 1 = ((d + k : Nat) : Int) := by omega
  simp only [form, T5_, T3_] at h ⊢
  rw [e1] at h
  have := nw_ kids d k h.2
  rw [e2]
  refine ⟨⟨⟨by omega, h.1.2⟩, this.1⟩, ?_⟩
  simp only [many]
  rw [if_pos (by omega), if_pos (by omega), e1, e2, this.2]
theorem nw_ : ∀ (l : List E) (d k : Nat), dq_ l d = true → dq_ l ((d + k : Nat) : Int) = true ∧ dd_ l ((d + k : Nat) : Int) = dd_ l d
 | [], d, k, _ => by simp [dq_, dd_]
 | e :: r, d, k, h => by
  simp only [dq_, T5_] at h ⊢
  have h1 := qo_ e d k h.1
  have h2 := nw_ r d k h.2
  simp only [dd_]
  exact ⟨⟨h1.1, h2.1⟩, by rw [h1.2, h2.2]⟩
end
def wid (l : List Str) : Nat := (l.map fun s => s.length + 1).sum
theorem re_ : wid [] = 0 := rfl
theorem hy_ (s : Str) (l : List Str) : wid (s :: l) = s.length + 1 + wid l := rfl
theorem ie_ (a b : List Str) : wid (a ++ b) = wid a + wid b := by simp [wid, List.sum_append]
theorem wg_ (l : List Str) : wid l = (l.map List.length).sum + l.length := by
 induction l with
 | nil => rfl
 | cons s l ih => rw [hy_, ih, List.map_cons, List.sum_cons, T7_]; omega
theorem t8_ {l : List Str} (h : l ≠ []) : (cj_ l).length + 1 = wid l := by rw [gc_ l h, wg_]
theorem E.ext4 {e : E} {k n : Int} {s : Str} {l : List E} (h1 : e.kind = k) (h2 : e.n = n) (h3 : e.s = s) (h4 : e.kids = l) : e = .mk k n s l := by cases e; simp only [E.kind, E.n, E.s, E.kids] at *; subst h1 h2 h3 h4; rfl
theorem fb_ {e : E} (k : e.kind ≠ 4) (hl : e.kids = []) : bare e = e := by
 rw [fy_ k, hl]; simp only [cr_]; exact (E.ext4 rfl rfl rfl hl).symm
theorem j9_ {e : E} (k : e.kind = 3) (hl : e.kids.length = 2) : bare e = .mk 3 e.n e.s [bare (e.kids.getD 0 E0), bare (e.kids.getD 1 E0)] := by
 rw [fy_ (by omega), k]; conv => lhs; rw [n2_ hl]
 simp only [cr_]
theorem m9_ {e : E} (k : e.kind = 4) (hl : e.kids.length = 1) : bare e = bare (e.kids.getD 0 E0) := fv_ k (by omega)
theorem fe_ : ∀ (d : Nat) (e : E), form e d = true → form (bare e) d = true ∧ many (bare e) d ≤ many e d
 | 0, e, h => by have := (cd_ h).1; omega
 | d + 1, e, h => by
  have e1 : ((d + 1 : Nat) : Int) - 1 = (d : Int) := by omega
  obtain ⟨h0, h1 | h1 | h1 | h1⟩ := cd_ h
  ·rw [fb_ (by omega) h1.2.2.2.2]; exact ⟨h, Int.le_refl _⟩
  ·rw [fb_ (by omega) h1.2.2.2]; exact ⟨h, Int.le_refl _⟩
  ·obtain ⟨k, hn, ho, hl, ha, hb⟩ := h1
   rw [e1] at ha hb
   obtain ⟨a1, a2⟩ := fe_ d _ ha
   obtain ⟨b1, b2⟩ := fe_ d _ hb
   rw [j9_ k hl, hq_ h0 hl, e1]
   refine ⟨?_, ?_⟩
   ·simp only [form, dq_, e1, a1, b1, Bool.and_true, T5_, T3_]
    exact ⟨h0, by simp [shape, hn, ho]⟩
   ·rw [hq_ (e := .mk 3 e.n e.s [_, _]) h0 rfl, e1]
    show 1 + many (bare (e.kids.getD 0 E0)) d + many (bare (e.kids.getD 1 E0)) d ≤ _
    omega
  ·obtain ⟨k, hn, ho, hl, ha⟩ := h1
   rw [e1] at ha
   obtain ⟨a1, a2⟩ := fe_ d _ ha
   rw [m9_ k hl, iu_ h0 hl, e1]
   obtain ⟨m1, m2⟩ := qo_ _ d 1 a1
   exact ⟨m1, by rw [m2]; omega⟩
theorem m4_ {e : E} (h : eok e = true) : pe (bare e) = true := by
 have h1 := fe_ 5 e (ci_ h)
 have h2 := kc_ h
 simp only [pe, eok, T5_, T3_]
 exact ⟨⟨h1.1, Int.le_trans h1.2 h2⟩, kl_ e (lr_ h)⟩
theorem abm_ {e : E} {d : Nat} (h : form e d = true) {a b : Int} (hab : a ≤ b) : wid (wds e a) ≤ wid (wds e b) := by
 obtain ⟨h0, h1 | h1 | h1 | h1⟩ := cd_ h
 ·rw [en_ h1.1, en_ h1.1]; exact Nat.le_refl _
 ·rw [d1_ h1.1, d1_ h1.1]; exact Nat.le_refl _
 ·rw [gs_ h1.1 h1.2.2.2.1, gs_ h1.1 h1.2.2.2.1]
  split <;> split
  ·exact Nat.le_refl _
  ·omega
  ·simp only [ie_]; omega
  ·exact Nat.le_refl _
 ·rw [iz_ h1.1 h1.2.2.2.1, iz_ h1.1 h1.2.2.2.1]; exact Nat.le_refl _
theorem k4_ : ∀ (d : Nat) (e : E) (must : Int), must ≤ 4 → form e d = true → wid (wds (bare e) must) ≤ wid (wds e must)
 | 0, e, must, _, h => by have := (cd_ h).1; omega
 | d + 1, e, must, hm, h => by
  have e1 : ((d + 1 : Nat) : Int) - 1 = (d : Int) := by omega
  obtain ⟨h0, h1 | h1 | h1 | h1⟩ := cd_ h
  ·rw [fb_ (by omega) h1.2.2.2.2]; exact Nat.le_refl _
  ·rw [fb_ (by omega) h1.2.2.2]; exact Nat.le_refl _
  ·obtain ⟨k, hn, ho, hl, ha, hb⟩ := h1
   rw [e1] at ha hb
   have ht := er_ ho
   have A := k4_ d _ (max 2 (bx_ e.s)) (by omega) ha
   have B := k4_ d _ (bx_ e.s + 1) (by omega) hb
   rw [j9_ k hl, gs_ k hl, gs_ (e := .mk 3 e.n e.s [_, _]) rfl rfl]
   show wid (if bx_ e.s < must then [[40]] ++ (wds (bare (e.kids.getD 0 E0)) (max 2 (bx_ e.s)) ++ [e.s] ++ wds (bare (e.kids.getD 1 E0)) (bx_ e.s + 1)) ++ [[41]] else wds (bare (e.kids.getD 0 E0)) (max 2 (bx_ e.s)) ++ [e.s] ++ wds (bare (e.kids.getD 1 E0)) (bx_ e.s + 1)) ≤ _
   split <;> simp only [ie_] <;> omega
  ·obtain ⟨k, hn, ho, hl, ha⟩ := h1
   rw [e1] at ha
   have A := k4_ d _ 4 (by omega) ha
   have M := abm_ (fe_ d _ ha).1 hm
   rw [m9_ k hl, iz_ k hl, ie_]; omega
def offW (w : Str) : Prop := w ≠ wAs ∧ w ≠ [105, 110, 116] ∧ w ≠ [98, 111, 111, 108] ∧ w ≠ vt_ ∧ w ≠ h1_ ∧ w ≠ h5_
instance (w : Str) : Decidable (offW w) := by unfold offW; exact inferInstance
theorem adx_ {s : Sl} (h : c8_ s = true) : wid (bw (bof s)) ≤ wid (sw' s) + 2 := by
 unfold c8_ at h
 by_cases k0 : s.kind = 0
 ·simp [bw, sw', bof, k0, re_]
 have hb : ∀ e : E, eok e = true → wid (wds (bare e) 1) ≤ wid (wds e 1) := fun e he => k4_ 5 e 1 (by decide) (ci_ he)
 by_cases k1 : s.kind = 1
 ·simp [k1] at h
  have := hb _ h.1.2
  simp [bw, sw', bof, k1, hy_, wEq, vt_, j7_]; omega
 by_cases k2 : s.kind = 2
 ·simp [k2] at h
  have := hb _ h.1.2
  simp [bw, sw', bof, k2, hy_, fm_, h1_]; omega
 by_cases k3 : s.kind = 3
 ·simp [k3] at h
  have h1 := hb _ h.1.2
  have h2 := hb _ h.2
  simp [bw, sw', bof, k3, hy_, ie_, fm_, h1_, wIf, h5_, j7_]; omega
 ·simp [k0, k1, k2, k3] at h
theorem hx_ {s : Sl} (h : c8_ s = true) : jl_ (bof s) = true := by
 unfold c8_ at h
 by_cases k0 : s.kind = 0
 ·simp [k0, ei_] at h; simp [jl_, bof, k0, h, nv_]
 by_cases k1 : s.kind = 1
 ·simp [k1, ei_] at h; simp [jl_, bof, k1, h, nv_, m4_ h.1.2]
 by_cases k2 : s.kind = 2
 ·simp [k2, ei_] at h; simp [jl_, bof, k2, h, nv_, m4_ h.1.2]
 by_cases k3 : s.kind = 3
 ·simp [k3] at h; simp [jl_, bof, k3, h, m4_ h.1.2, m4_ h.2]
 ·simp [k0, k1, k2, k3] at h
theorem ain_ {s : Sl} (h : s.kind = 1 ∨ s.kind = 2 ∨ s.kind = 3) : sw' s ≠ [] ∧ bw (bof s) ≠ [] := by
 rcases h with k | k | k <;> simp [sw', bw, bof, k]
theorem abu_ {s : Sl} (h : c8_ s = true) : (cj_ (bw (bof s))).length ≤ (cj_ (sw' s)).length + 2 := by
 have h1 := adx_ h
 by_cases hk : s.kind = 1 ∨ s.kind = 2 ∨ s.kind = 3
 ·obtain ⟨n1, n2⟩ := ain_ hk
  have t1 := t8_ n1
  have t2 := t8_ n2
  omega
 ·have : bw (bof s) = [] := by
   simp only [not_or] at hk
   simp [bw, bof, hk]
  rw [this]; simp [fc_]
theorem aev_ {s : Sl} (h : sok s = true) : c8_ s = true ∧ (cj_ (sw' s)).length ≤ 116 := by
 simpa [sok] using h
theorem v4_ {s : Sl} (h : sok s = true) : bok (bof s) = true := by
 obtain ⟨h1, h2⟩ := aev_ h
 have h3 := abu_ h1
 simp only [bok, hx_ h1, Bool.true_and, T3_]; omega
end
section
def shf (k : Int) (l : Wd) : Wd := l.map fun p => if 0 ≤ p.2 then (p.1, p.2 + k) else p
theorem aeo_ (k : Int) (a b : Wd) : shf k (a ++ b) = shf k a ++ shf k b := by simp [shf]
theorem a9_ (k : Int) (a : Wd) : (shf k a).length = a.length := by simp [shf]
theorem kv_ (a : Wd) : shf 0 a = a := by
 unfold shf
 conv => rhs; rw [← List.map_id a]
 congr 1; funext p
 split <;> simp
theorem rt_ (k : Int) (a : Wd) : (shf k a).map (·.1) = a.map (·.1) := by
 unfold shf; rw [List.map_map]; congr 1; funext p; simp only [Function.comp]; split <;> rfl
mutual
def l8 : E → Int → Int → Wd
 | .mk k n s kids, t, b =>
  if k = 1 then [(Go.Lib.decDigits n.toNat, 0)]
  else if k = 2 then [(s, 0)]
  else if k = 3 then brk (decide (bx_ s < b)) (shf (if bx_ s < t then 1 else 0) (l8A kids (max 2 (bx_ s)) (max 2 (bx_ s)) ++ (s, wlA kids (max 2 (bx_ s))) :: shf (wlA kids (max 2 (bx_ s)) + 1) (l8B kids (bx_ s + 1))))
  else if k = 4 then l8A kids 4 b
  else []
def l8A : List E → Int → Int → Wd
 | [], _, _ => []
 | e :: _, t, b => l8 e t b
def l8B : List E → Int → Wd
 | [], _ => []
 | _ :: r, t => l8A r t t
def wlA : List E → Int → Int
 | [], _ => 0
 | e :: _, t => (wds e t).length
end
theorem abx_ {e : E} (h : e.kind = 1) (t b : Int) : l8 e t b = [(Go.Lib.decDigits e.n.toNat, 0)] := by
 cases e; simp only [E.kind] at h; subst h; simp [l8, E.n]
theorem xg_ {e : E} (h : e.kind = 2) (t b : Int) : l8 e t b = [(e.s, 0)] := by
 cases e; simp only [E.kind] at h; subst h; simp [l8, E.s]
theorem aa6_ {e : E} (h : e.kind = 3) (hl : e.kids.length = 2) (t b : Int) : l8 e t b = brk (decide (bx_ e.s < b)) (shf (if bx_ e.s < t then 1 else 0) (l8 (e.kids.getD 0 E0) (max 2 (bx_ e.s)) (max 2 (bx_ e.s)) ++ (e.s, ((wds (e.kids.getD 0 E0) (max 2 (bx_ e.s))).length : Int)) :: shf ((wds (e.kids.getD 0 E0) (max 2 (bx_ e.s))).length + 1) (l8 (e.kids.getD 1 E0) (bx_ e.s + 1) (bx_ e.s + 1)))) := by
 cases e with
 | mk k n s kids =>
  simp only [E.kind] at h; subst h
  simp only [E.kids] at hl
  match kids, hl with
  | [x, y], _ => simp [l8, l8A, l8B, wlA, E.s, E.kids]; rfl
theorem afr_ {e : E} (h : e.kind = 4) (hl : e.kids.length = 1) (t b : Int) : l8 e t b = l8 (e.kids.getD 0 E0) 4 b := by
 cases e with
 | mk k n s kids =>
  simp only [E.kind] at h; subst h
  simp only [E.kids] at hl
  match kids, hl with
  | [a], _ => simp [l8, l8A, E.kids]
def Trc (L : Wd) : Wd → Wd → Prop
 | [], [] => True
 | w :: B, c :: C => c.1 = w.1 ∧ ((w.2 = -1 ∧ c.2 = -1) ∨ (0 ≤ w.2 ∧ 0 ≤ c.2 ∧ L[c.2.toNat]? = some w)) ∧ Trc L B C
 | _, _ => False
theorem Trc.app {L : Wd} : ∀ {B C B' C' : Wd}, Trc L B C → Trc L B' C' → Trc L (B ++ B') (C ++ C')
 | [], [], _, _, _, h => h
 | [], _ :: _, _, _, h, _ => by simp [Trc] at h
 | _ :: _, [], _, _, h, _ => by simp [Trc] at h
 | w :: B, c :: C, B', C', h, k => by
  simp only [Trc] at h
  simp only [List.cons_append, Trc]
  exact ⟨h.1, h.2.1, h.2.2.app k⟩
theorem Trc.shf {L P : Wd} : ∀ {B C : Wd}, Trc L B C → Trc (P ++ L) B (Go.Proofs.YtcigkafioinfoaaGreatDoor.shf P.length C)
 | [], [], _ => by simp [Go.Proofs.YtcigkafioinfoaaGreatDoor.shf, Trc]
 | [], _ :: _, h => by simp [Trc] at h
 | _ :: _, [], h => by simp [Trc] at h
 | w :: B, c :: C, h => by
  simp only [Trc] at h
  have ih := h.2.2.shf (P := P)
  simp only [Go.Proofs.YtcigkafioinfoaaGreatDoor.shf, List.map_cons, Trc] at ih ⊢
  rcases h.2.1 with ⟨h1, h2⟩ | ⟨h1, h2, h3⟩
  ·rw [if_neg (by omega)]; exact ⟨h.1, .inl ⟨h1, h2⟩, ih⟩
  ·rw [if_pos h2]
   refine ⟨h.1, .inr ⟨h1, by dsimp only; omega, ?_⟩, ih⟩
   dsimp only
   rw [show (c.2 + (P.length : Int)).toNat = P.length + c.2.toNat by omega, List.getElem?_append_right (by omega), Nat.add_sub_cancel_left]
   exact h3
theorem Trc.right {L Q : Wd} : ∀ {B C : Wd}, Trc L B C → Trc (L ++ Q) B C
 | [], [], _ => by simp [Trc]
 | [], _ :: _, h => by simp [Trc] at h
 | _ :: _, [], h => by simp [Trc] at h
 | w :: B, c :: C, h => by
  simp only [Trc] at h ⊢
  refine ⟨h.1, ?_, h.2.2.right⟩
  rcases h.2.1 with h1 | ⟨h1, h2, h3⟩
  ·exact .inl h1
  ·exact .inr ⟨h1, h2, by rw [List.getElem?_append_left (List.getElem?_eq_some_iff.1 h3).1]; exact h3⟩
theorem Trc.brk {L B C : Wd} (b : Bool) (h : Trc L B C) : Trc L (Go.Proofs.YtcigkafioinfoaaGreatDoor.brk b B) (Go.Proofs.YtcigkafioinfoaaGreatDoor.brk b C) := by
 cases b with
 | false => exact h
 | true =>
  simp only [Go.Proofs.YtcigkafioinfoaaGreatDoor.brk, if_true, Trc]
  refine ⟨trivial, .inl ⟨trivial, trivial⟩, h.app ?_⟩
  simp [Trc]
theorem t1_ {e : E} (h : e.kind = 1 ∨ e.kind = 2) (hl : e.kids = []) : cnt e = 1 := by
 cases e; simp only [E.kind, E.kids] at h hl; subst hl; rcases h with h | h <;> subst h <;> simp [cnt, pg_]
theorem it_ : ∀ (d : Nat) (e : E), form e d = true → cnt (bare e) = cnt e
 | 0, e, h => by have := (cd_ h).1; omega
 | d + 1, e, h => by
  have e1 : ((d + 1 : Nat) : Int) - 1 = (d : Int) := by omega
  obtain ⟨h0, h1 | h1 | h1 | h1⟩ := cd_ h
  ·rw [fb_ (by omega) h1.2.2.2.2]
  ·rw [fb_ (by omega) h1.2.2.2]
  ·obtain ⟨k, hn, ho, hl, ha, hb⟩ := h1
   rw [e1] at ha hb
   rw [j9_ k hl, k6_ (e := .mk 3 e.n e.s [_, _]) rfl rfl, k6_ k hl]
   show 1 + cnt (bare (e.kids.getD 0 E0)) + cnt (bare (e.kids.getD 1 E0)) = _
   rw [it_ d _ ha, it_ d _ hb]
  ·obtain ⟨k, hn, ho, hl, ha⟩ := h1
   rw [e1] at ha
   rw [m9_ k hl, q9_ k hl, it_ d _ ha]
theorem m1_ {e : E} (h : e.kind = 1) (must nx : Int) : src e must nx = [(Go.Lib.decDigits e.n.toNat, nx)] := by
 cases e; simp only [E.kind] at h; subst h; simp [src, E.n]
theorem kq_ {e : E} (h : e.kind = 2) (must nx : Int) : src e must nx = [(e.s, nx)] := by
 cases e; simp only [E.kind] at h; subst h; simp [src, E.s]
theorem l5_ (e : E) (must nx : Int) : (src e must nx).length = (wds e must).length := by
 rw [← e5_ e must nx, List.length_map]
theorem h9_ : ∀ (d : Nat) (e : E) (t b nx : Int), form e d = true → t ≤ 4 → b ≤ 4 → 0 ≤ nx → Trc (src e t nx) (src (bare e) b nx) (l8 e t b)
 | 0, e, t, b, nx, h, _, _, _ => by have := (cd_ h).1; omega
 | d + 1, e, t, b, nx, h, ht, hb4, hn0 => by
  have e1 : ((d + 1 : Nat) : Int) - 1 = (d : Int) := by omega
  obtain ⟨h0, h1 | h1 | h1 | h1⟩ := cd_ h
  ·rw [fb_ (by omega) h1.2.2.2.2, m1_ h1.1, m1_ h1.1, abx_ h1.1]
   simp [Trc, hn0]
  ·rw [fb_ (by omega) h1.2.2.2, kq_ h1.1, kq_ h1.1, xg_ h1.1]
   simp [Trc, hn0]
  ·obtain ⟨k, hn, ho, hl, ha, hb⟩ := h1
   rw [e1] at ha hb
   have htt := er_ ho
   have A := h9_ d _ (max 2 (bx_ e.s)) (max 2 (bx_ e.s)) (nx + 1) ha (by omega) (by omega) (by omega)
   have hc := do_ d _ 0 ha
   have B := h9_ d _ (bx_ e.s + 1) (bx_ e.s + 1) (nx + 1 + cnt (e.kids.getD 0 E0)) hb (by omega) (by omega) (by omega)
   rw [j9_ k hl, hl_ k hl, hl_ (e := .mk 3 e.n e.s [_, _]) rfl rfl, aa6_ k hl]
   refine Trc.brk _ ?_
   show Trc _ (src (bare (e.kids.getD 0 E0)) (max 2 (bx_ e.s)) (nx + 1) ++ (e.s, nx) :: src (bare (e.kids.getD 1 E0)) (bx_ e.s + 1) (nx + 1 + cnt (bare (e.kids.getD 0 E0)))) _
   rw [it_ d _ ha]
   have core : Trc (src (e.kids.getD 0 E0) (max 2 (bx_ e.s)) (nx + 1) ++ (e.s, nx) :: src (e.kids.getD 1 E0) (bx_ e.s + 1) (nx + 1 + cnt (e.kids.getD 0 E0)))
     (src (bare (e.kids.getD 0 E0)) (max 2 (bx_ e.s)) (nx + 1) ++ (e.s, nx) :: src (bare (e.kids.getD 1 E0)) (bx_ e.s + 1) (nx + 1 + cnt (e.kids.getD 0 E0)))
     (l8 (e.kids.getD 0 E0) (max 2 (bx_ e.s)) (max 2 (bx_ e.s)) ++ (e.s, ((wds (e.kids.getD 0 E0) (max 2 (bx_ e.s))).length : Int)) :: shf ((wds (e.kids.getD 0 E0) (max 2 (bx_ e.s))).length + 1) (l8 (e.kids.getD 1 E0) (bx_ e.s + 1) (bx_ e.s + 1))) := by
    refine A.right.app ?_
    have B2 := B.shf (P := src (e.kids.getD 0 E0) (max 2 (bx_ e.s)) (nx + 1) ++ [(e.s, nx)])
    rw [T2_, l5_, List.length_singleton, List.append_assoc, List.singleton_append] at B2
    simp only [Trc]
    refine ⟨trivial, .inr ⟨hn0, by omega, ?_⟩, by simpa using B2⟩
    rw [Int.toNat_natCast, ← l5_ _ _ (nx + 1), List.getElem?_append_right (Nat.le_refl _), Nat.sub_self]; rfl
   cases hlt : decide (bx_ e.s < t) with
   | false =>
    simp only [T4_] at hlt
    rw [if_neg hlt, kv_]; exact core
   | true =>
    simp only [T3_] at hlt
    rw [if_pos hlt]
    have := (core.shf (P := [([40], -1)])).right (Q := [([41], -1)])
    simpa [brk] using this
  ·obtain ⟨k, hn, ho, hl, ha⟩ := h1
   rw [e1] at ha
   rw [m9_ k hl, ly_ k hl, afr_ k hl]
   exact (h9_ d _ 4 b nx ha (by omega) hb4 hn0).right
theorem Trc.fst {L : Wd} : ∀ {B C : Wd}, Trc L B C → C.map (·.1) = B.map (·.1)
 | [], [], _ => rfl
 | [], _ :: _, h => by simp [Trc] at h
 | _ :: _, [], h => by simp [Trc] at h
 | w :: B, c :: C, h => by
  simp only [Trc] at h
  simp only [List.map_cons, h.1, h.2.2.fst]
def ids (l : Wd) : List Int := (l.map (·.2)).filter fun k => decide (0 ≤ k)
theorem m7_ (a b : Wd) : ids (a ++ b) = ids a ++ ids b := by simp [ids]
theorem hz_ (p : Str × Int) (b : Wd) : ids (p :: b) = if 0 ≤ p.2 then p.2 :: ids b else ids b := by
 simp only [ids, List.map_cons, List.filter_cons, T3_]
theorem wj_ : ids [] = [] := rfl
theorem adt_ (b : Bool) (l : Wd) : ids (brk b l) = ids l := by
 cases b <;> simp [brk, m7_, hz_, wj_]
theorem ng_ : ∀ (d : Nat) (e : E) (must nx : Int), form e d = true → 0 ≤ nx → (ids (src e must nx)).Nodup ∧ ∀ i ∈ ids (src e must nx), nx ≤ i ∧ i < nx + cnt e
 | 0, e, must, nx, h, _ => by have := (cd_ h).1; omega
 | d + 1, e, must, nx, h, hn0 => by
  have e1 : ((d + 1 : Nat) : Int) - 1 = (d : Int) := by omega
  obtain ⟨h0, h1 | h1 | h1 | h1⟩ := cd_ h
  ·rw [m1_ h1.1, t1_ (.inl h1.1) h1.2.2.2.2]; simp [ids, hn0]; omega
  ·rw [kq_ h1.1, t1_ (.inr h1.1) h1.2.2.2]; simp [ids, hn0]; omega
  ·obtain ⟨k, hn, ho, hl, ha, hb⟩ := h1
   rw [e1] at ha hb
   have hc := do_ d _ 0 ha
   have hc2 := do_ d _ 0 hb
   obtain ⟨a1, a2⟩ := ng_ d _ (max 2 (bx_ e.s)) (nx + 1) ha (by omega)
   obtain ⟨b1, b2⟩ := ng_ d _ (bx_ e.s + 1) (nx + 1 + cnt (e.kids.getD 0 E0)) hb (by omega)
   rw [hl_ k hl, adt_, m7_, hz_, if_pos hn0, k6_ k hl]
   refine ⟨?_, fun i hi => ?_⟩
   ·rw [List.nodup_append]
    refine ⟨a1, List.nodup_cons.2 ⟨fun hm => by have := b2 _ hm; omega, b1⟩, fun x hx y hy => ?_⟩
    have q1 := a2 x hx
    rcases List.mem_cons.1 hy with rfl | hy
    ·omega
    ·have q2 := b2 y hy; omega
   ·rcases List.mem_append.1 hi with hi | hi
    ·have := a2 i hi; omega
    ·rcases List.mem_cons.1 hi with rfl | hi
     ·omega
     ·have := b2 i hi; omega
  ·obtain ⟨k, hn, ho, hl, ha⟩ := h1
   rw [e1] at ha
   rw [ly_ k hl, m7_, q9_ k hl]
   have := ng_ d _ 4 nx ha hn0
   have e2 : ids [([97, 115], -1), (e.s, -1)] = [] := by simp [ids]
   rw [e2, List.append_nil]; exact this
def fi_ : Int → Wd → Int → Int
 | _, [], _ => -1
 | c, w :: r, i => if w.2 = i then c else fi_ (c + w.1.length + 1) r i
def gh_ (l : Wd) : Int := (wid (l.map (·.1)) : Int)
theorem qf_ (w : Str × Int) (l : Wd) : gh_ (w :: l) = w.1.length + 1 + gh_ l := by simp [gh_, hy_]
theorem k8_ (a b : Wd) : gh_ (a ++ b) = gh_ a + gh_ b := by simp [gh_, ie_]
theorem ke_ : gh_ [] = 0 := rfl
theorem n4_ (l : Wd) : 0 ≤ gh_ l := by unfold gh_; omega
theorem ld_ (i : Int) : ∀ (a b : Wd) (c : Int), fi_ c (a ++ b) i = if i ∈ a.map (·.2) then fi_ c a i else fi_ (c + gh_ a) b i
 | [], b, c => by simp [ke_]
 | w :: a, b, c => by
  have ih := ld_ i a b (c + w.1.length + 1)
  simp only [List.cons_append, fi_, List.map_cons, List.mem_cons]
  by_cases h : w.2 = i
  ·simp [h]
  ·have h' : ¬ i = w.2 := fun e => h e.symm
   simp only [h, if_false, h', false_or, ih, qf_]
   split
   ·rfl
   ·congr 1; omega
theorem lg_ (i : Int) (d : Int) : ∀ (a : Wd) (c : Int), i ∈ a.map (·.2) → fi_ (c + d) a i = fi_ c a i + d
 | [], c, h => by simp at h
 | w :: a, c, h => by
  simp only [fi_]
  by_cases e : w.2 = i
  ·rw [if_pos e, if_pos e]
  ·rw [if_neg e, if_neg e]
   simp only [List.map_cons, List.mem_cons] at h
   have := lg_ i d a (c + w.1.length + 1) (h.resolve_left fun q => e q.symm)
   rw [← this]; congr 1; omega
theorem q4_ {l : Wd} {i : Int} : i ∈ ids l ↔ i ∈ l.map (·.2) ∧ 0 ≤ i := by simp [ids]
theorem lb_ : ∀ {l : Wd} {j : Nat} {w : Str × Int} (c : Int), (ids l).Nodup → l[j]? = some w → 0 ≤ w.2 → (c2_ c (l.map (·.1)))[j]? = some (fi_ c l w.2)
 | [], j, w, c, _, h, _ => by simp at h
 | v :: l, 0, w, c, _, h, _ => by
  simp only [List.getElem?_cons_zero, Option.some.injEq] at h; subst h
  simp [c2_, fi_]
 | v :: l, j + 1, w, c, hn, h, h0 => by
  simp only [List.getElem?_cons_succ] at h
  have hm : w.2 ∈ ids l := q4_.2 ⟨List.mem_map.2 ⟨w, List.mem_of_getElem? h, rfl⟩, h0⟩
  rw [hz_] at hn
  have hne : v.2 ≠ w.2 := fun e => by
   rw [if_pos (by omega)] at hn
   exact (List.nodup_cons.1 hn).1 (by rw [e]; exact hm)
  have hn' : (ids l).Nodup := by
   split at hn
   ·exact (List.nodup_cons.1 hn).2
   ·exact hn
  simp only [List.map_cons, c2_, List.getElem?_cons_succ, fi_, if_neg hne]
  exact lb_ _ hn' h h0
theorem ql_ : ∀ (M : List (Int × Int)) (k v i : Int), i2_ (jn_ M k v) i = if i = k then some v else i2_ M i
 | [], k, v, i => by simp [jn_, i2_]
 | (a, b) :: M, k, v, i => by
  have ih := ql_ M k v i
  simp only [jn_]
  by_cases h : k = a
  ·subst h
   simp only [if_true, i2_]
   split <;> rfl
  ·rw [if_neg h]
   simp only [i2_, ih]
   by_cases e : i = a
   ·rw [if_pos e, if_neg (fun q => h (q.symm.trans e)), if_pos e]
   ·rw [if_neg e, if_neg e]
def mq_ (l : Wd) (k : Nat) : List (Int × Int) := (((l.map (·.2)).zip (c2_ 0 (l.map (·.1)))).take k).foldl (fun M p => jn_ M p.1 p.2) []
theorem bi_ : ∀ (c : Int) (l : List Str), (c2_ c l).length = l.length
 | _, [] => rfl
 | c, w :: r => by simp only [c2_, T7_, bi_]
theorem yy_ (l : Wd) : mq_ l 0 = [] := rfl
theorem xy_ {l : Wd} {k : Nat} (h : k < l.length) : mq_ l (k + 1) = jn_ (mq_ l k) (l.getD k ([], 0)).2 ((c2_ 0 (l.map (·.1))).getD k 0) := by
 have h2 : k < ((l.map (·.2)).zip (c2_ 0 (l.map (·.1)))).length := by rw [List.length_zip, List.length_map, bi_, List.length_map]; omega
 have h3 : k < (c2_ 0 (l.map (·.1))).length := by rw [bi_, List.length_map]; exact h
 unfold mq_
 rw [List.take_add_one, T6_ h2, List.foldl_append]
 simp [T8_, T6_ h, T6_ h3]
theorem qt_ (i v : Int) : ∀ (Z M : List (Int × Int)), (∀ c, (i, c) ∈ Z → c = v) → ((i, v) ∈ Z ∨ i2_ M i = some v) → i2_ (Z.foldl (fun M p => jn_ M p.1 p.2) M) i = some v
 | [], M, _, h => by simpa using h
 | (a, b) :: Z, M, hu, h => by
  refine qt_ i v Z _ (fun c hc => hu c (List.mem_cons_of_mem _ hc)) ?_
  rw [ql_]
  by_cases e : i = a
  ·subst e
   have := hu b List.mem_cons_self
   subst this
   right; simp
  ·rw [if_neg e]
   rcases h with h | h
   ·rcases List.mem_cons.1 h with h | h
    ·simp only [Prod.mk.injEq] at h; exact absurd h.1 e
    ·exact .inl h
   ·exact .inr h
theorem aac_ {l : Wd} (hn : (ids l).Nodup) {i : Int} (hi : i ∈ ids l) : i2_ (mq_ l l.length) i = some (fi_ 0 l i) := by
 obtain ⟨hm, h0⟩ := q4_.1 hi
 obtain ⟨w, hw, hwi⟩ := List.mem_map.1 hm
 have hz : ∀ c, (i, c) ∈ (l.map (·.2)).zip (c2_ 0 (l.map (·.1))) → c = fi_ 0 l i := fun c hc => by
  obtain ⟨j, hj⟩ := List.mem_iff_getElem?.1 hc
  rw [List.getElem?_zip_eq_some] at hj
  obtain ⟨j1, j2⟩ := hj
  rw [List.getElem?_map] at j1
  obtain ⟨u, u1, u2⟩ := Option.map_eq_some_iff.1 j1
  have := lb_ 0 hn u1 (by rw [u2]; exact h0)
  rw [j2, u2] at this
  exact Option.some.inj this
 unfold mq_
 rw [T1_ (by rw [List.length_zip, List.length_map]; omega)]
 refine qt_ i _ _ _ hz (.inl ?_)
 obtain ⟨j, hj⟩ := List.mem_iff_getElem?.1 hw
 have := lb_ 0 hn hj (by rw [hwi]; exact h0)
 rw [hwi] at this
 refine List.mem_iff_getElem?.2 ⟨j, ?_⟩
 rw [List.getElem?_zip_eq_some]
 exact ⟨by rw [List.getElem?_map, hj]; simp [hwi], this⟩
theorem l3_ : ∀ (l : List Str) (c : Int) {k : Nat}, k < l.length → (c2_ c l).getD k 0 = c + wid (l.take k)
 | [], c, k, h => by simp at h
 | w :: r, c, 0, _ => by simp [c2_, re_]
 | w :: r, c, k + 1, h => by
  have := l3_ r (c + w.length + 1) (k := k) (by simpa using h)
  simp only [c2_, List.getD_cons_succ, List.take_succ_cons, hy_, this]
  omega
theorem abf_ {l : List Str} {k : Nat} (h : k < l.length) : wid (l.take (k + 1)) = wid (l.take k) + ((l.getD k []).length + 1) := by
 rw [List.take_add_one, T6_ h, ie_, T8_, T6_ h]; rfl
theorem adz_ (l : List Str) (k : Nat) : wid (l.take k) ≤ wid l := by
 conv => rhs; rw [← List.take_append_drop k l]
 rw [ie_]; omega
theorem Trc.lt {L : Wd} : ∀ {B C : Wd}, Trc L B C → ∀ p ∈ C, -1 ≤ p.2 ∧ p.2 < (L.length : Int)
 | [], [], _ => by simp
 | [], _ :: _, h => by simp [Trc] at h
 | _ :: _, [], h => by simp [Trc] at h
 | w :: B, c :: C, h => by
  simp only [Trc] at h
  intro p hp
  rcases List.mem_cons.1 hp with rfl | hp
  ·rcases h.2.1 with ⟨_, h2⟩ | ⟨_, h2, h3⟩
   ·omega
   ·have := (List.getElem?_eq_some_iff.1 h3).1; omega
  ·exact h.2.2.lt p hp
theorem Trc.len {L : Wd} {B C : Wd} (h : Trc L B C) : C.length = B.length := by
 have := congrArg List.length h.fst; simpa using this
theorem h2_ (d : Nat) (e : E) (h : form e d = true) (hm : many e d ≤ 1000) (m : Int) : (wds e m).length ≤ 3000 := by
 have := do_ d e m h; omega
theorem kp_ {d : Nat} {e : E} {t b : Int} (h : form e d = true) (hm : many e d ≤ 1000) (ht : t ≤ 4) (hb : b ≤ 4) : (l8 e t b).length ≤ 3000 ∧ ∀ p ∈ l8 e t b, -1 ≤ p.2 ∧ p.2 ≤ 3000 := by
 have T := h9_ d e t b 0 h ht hb (by decide)
 have h1 := fe_ d e h
 have q1 := h2_ d e h hm t
 have q2 := h2_ d (bare e) h1.1 (by omega) b
 refine ⟨by rw [T.len, l5_]; exact q2, fun p hp => ?_⟩
 have := T.lt p hp
 rw [l5_] at this
 omega
def l8c (e : E) : Wd :=
 if e.kind = 1 then [(Go.Lib.decDigits e.n.toNat, 0)]
 else if e.kind = 2 then [(e.s, 0)]
 else l8 (e.kids.getD 0 E0) (max 2 (bx_ e.s)) (max 2 (bx_ e.s)) ++ (e.s, ((wds (e.kids.getD 0 E0) (max 2 (bx_ e.s))).length : Int)) :: shf ((wds (e.kids.getD 0 E0) (max 2 (bx_ e.s))).length + 1) (l8 (e.kids.getD 1 E0) (bx_ e.s + 1) (bx_ e.s + 1))
theorem adh_ {e : E} (hk : e.kind = 1 ∨ e.kind = 2 ∨ e.kind = 3 ∧ e.kids.length = 2) (t b : Int) : l8 e t b = brk (decide (e.kind = 3 ∧ bx_ e.s < b)) (shf (if e.kind = 3 ∧ bx_ e.s < t then 1 else 0) (l8c e)) := by
 rcases hk with hk | hk | ⟨hk, hl⟩
 ·rw [abx_ hk]; simp [l8c, hk, kv_, brk]
 ·rw [xg_ hk]; simp [l8c, hk, kv_, brk]
 ·rw [aa6_ hk hl]; simp [l8c, hk]
def l8L (s : Sl) : Wd :=
 if s.kind = 1 then (s.name, 1) :: (wEq, 4) :: shf 5 (l8 s.expr 1 1)
 else if s.kind = 2 then (fm_, 0) :: shf 1 (l8 s.expr 1 1)
 else if s.kind = 3 then ((wIf, 0) :: shf 1 (l8 s.expr 1 1) ++ [(j7_, -1), (fm_, ((wds s.expr 1).length : Int) + 1)]) ++ shf ((wds s.expr 1).length + 2) (l8 s.thn 1 1)
 else []
def im_ (s : Sl) : List Int := (l8L s).map fun c => if c.2 < 0 then -1 else (c2_ 0 (sw' s)).getD c.2.toNat 0
end
end Go.Proofs.YtcigkafioinfoaaGreatDoor
