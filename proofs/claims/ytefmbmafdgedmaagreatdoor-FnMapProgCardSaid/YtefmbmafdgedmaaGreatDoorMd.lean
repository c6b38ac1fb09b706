/- The program's reader of what is reckoned, as a plain function; it reads back what is written. Conditions: none. -/
import Derived.Test.YtefmbmafdgedmaaGreatDoorMc
import Derived.Test.YtefmbmafdgedmaaGreatDoorMb
set_option linter.unusedVariables false
set_option linter.unusedSimpArgs false
namespace Go.Proofs.YtefmbmafdgedmaaGreatDoor
section
structure RS where
 left : List Str
 bad : Bool
 deep : Int
def wAs : Str := [97, 115]
def q4_ (s : RS) : Str := match s.left with | [] => [] | x :: _ => x
def ke_ (s : RS) : RS := match s.left with | [] => { s with bad := true } | _ :: r => { s with left := r }
def asL : List Str → E → Int → E × RS
 | [], e, d => (e, ⟨[], false, d⟩)
 | [w], e, d => if w = wAs then (.mk 4 0 [] [e], ⟨[], true, d⟩) else (e, ⟨[w], false, d⟩)
 | w :: t :: r, e, d => if w = wAs then asL r (.mk 4 0 t [e]) d else (e, ⟨w :: t :: r, false, d⟩)
def asR (s : RS) (e : E) : E × RS := if s.bad then (e, s) else asL s.left e s.deep
mutual
def nb_ : Nat → Nat → RS → E × RS
 | 0, _, s => (E0, s)
 | n + 1, t, s => if t = 4 then ae8_ n s else adk_ n t (nb_ n (t + 1) s).1 (nb_ n (t + 1) s).2
def adk_ : Nat → Nat → E → RS → E × RS
 | 0, _, e, s => (e, s)
 | n + 1, t, e, s => if s.bad = false ∧ s.left ≠ [] ∧ bb_ (q4_ s) = t then
   adk_ n t (.mk 3 0 (q4_ s) [e, (nb_ n (t + 1) (ke_ s)).1]) (nb_ n (t + 1) (ke_ s)).2 else (e, s)
def ae8_ : Nat → RS → E × RS
 | 0, s => (E0, s)
 | n + 1, s => asR (adh_ n (q4_ s) (ke_ s)).2 (adh_ n (q4_ s) (ke_ s)).1
def adh_ : Nat → Str → RS → E × RS
 | 0, _, s => (E0, s)
 | n + 1, w, s =>
  if w = [40] then
   if s.bad = true ∨ 40 < s.deep + 1 then (E0, { s with deep := s.deep + 1, bad := true })
   else
    let p := nb_ n 1 { s with deep := s.deep + 1 }
    (p.1, if p.2.bad then p.2 else { ke_ p.2 with bad := !(q4_ p.2 == [41]) })
  else if de_ w then (.mk 1 (b2_ w) [] [], s)
  else if hy_ w then (.mk 2 0 w [], s)
  else (E0, { s with bad := true })
end
theorem ph_ : ∀ (l : List Str) (e : E) (d : Int), (asL l e d).2.left.length ≤ l.length ∧ (asL l e d).2.deep = d
 | [], e, d => by simp [asL]
 | [w], e, d => by simp only [asL]; split <;> simp
 | w :: t :: r, e, d => by
  simp only [asL]
  split
  ·have := ph_ r (.mk 4 0 t [e]) d; simp only [List.length_cons]; omega
  ·simp
theorem ab5_ (s : RS) (e : E) : (asR s e).2.left.length ≤ s.left.length := by
 unfold asR; split
 ·exact Nat.le_refl _
 ·exact (ph_ s.left e s.deep).1
theorem z9_ (s : RS) (e : E) : (asR s e).2.deep = s.deep := by
 unfold asR; split
 ·rfl
 ·exact (ph_ s.left e s.deep).2
def eff (e : E) (must : Int) : Int := if e.kind = 3 ∧ ¬ bb_ e.s < must then bb_ e.s else 4
theorem wm_ {n : Nat} (h : n ≤ 1000000) : de_ (Go.Lib.decDigits n) = true ∧ b2_ (Go.Lib.decDigits n) = n ∧ Go.Lib.decDigits n ≠ [40] := by
 refine ⟨da_.2 ⟨n, h, rfl⟩, c3_ n, fun e => ?_⟩
 have := db_ n 40 (by rw [e]; simp)
 unfold e6_ at this; revert this; decide
end
section
theorem jz_ (c : UInt8) : b7_ c = true ↔ e6_ c := hs_ c
theorem x3_ (l : Str) : ((gc_ l).2 && (decide (0 ≤ (gc_ l).1) && decide ((gc_ l).1 ≤ 1000000))) = de_ l ∧ (de_ l = true → (gc_ l).1 = b2_ l) := by
 have key : de_ l = true → (gc_ l).2 = true ∧ (gc_ l).1 = b2_ l := fun h => by
  obtain ⟨n, hn, rfl⟩ := da_.1 h
  have hd := db_ n
  have hlen := hz_ hn
  have hh : (Go.Lib.decDigits n).head? ≠ some 45 := fun e => by
   have := hd 45 (List.mem_of_mem_head? (by rw [e]; rfl)); unfold e6_ at this; revert this; decide
  have hz : (Go.Lib.decDigits n).head? = some 48 → (Go.Lib.decDigits n).length ≤ 1 := fun e => by
   by_cases h : n < 10
   ·rw [Go.Lib.decDigits_one h]; simp
   ·exfalso; exact dec_lead n (by omega) e
  have hne : (Go.Lib.decDigits n).length ≠ 0 := fun e => e7_ n (List.eq_nil_of_length_eq_zero e)
  unfold gc_
  simp only [show ((Go.Lib.decDigits n).head? == some 45) = false by simpa using hh, Bool.false_eq_true, if_false, or_false]
  rw [if_neg (by rintro (h | h | ⟨h1, h2⟩); exact hne h; omega; have := hz h1; omega), if_pos (List.all_eq_true.2 fun c hc => (jz_ c).2 (hd c hc))]
  exact ⟨rfl, rfl⟩
 refine ⟨?_, fun h => (key h).2⟩
 cases h : de_ l with
 | true =>
  obtain ⟨h1, h2⟩ := key h
  obtain ⟨n, hn, rfl⟩ := da_.1 h
  rw [h1, h2, c3_]; simp; omega
 | false =>
  rw [Bool.eq_false_iff]
  intro hh
  rw [Bool.eq_false_iff] at h
  apply h
  simp only [Bool.and_eq_true, decide_eq_true_eq] at hh
  obtain ⟨h1, h2, h3⟩ := hh
  unfold gc_ at h1 h2 h3
  cases hneg : (l.head? == some 45) with
  | true =>
   exfalso
   simp only [hneg, if_true] at h1 h2 h3
   split at h1
   ·cases h1
   ·rename_i hc
    rw [if_neg hc] at h2 h3
    split at h1
    ·rename_i hall
     rw [if_pos hall] at h2 h3
     have hd : ∀ c ∈ l.tail, e6_ c := fun c hc => (jz_ c).1 (List.all_eq_true.1 hall c hc)
     have hne : l.tail ≠ [] := fun e => hc (.inl (by rw [e]; rfl))
     have := (lead hne hd (fun e => hc (.inr (.inr ⟨e, .inr trivial⟩)))).1
     omega
    ·cases h1
  | false =>
   simp only [hneg, Bool.false_eq_true, if_false, or_false] at h1 h2 h3
   split at h1
   ·cases h1
   ·rename_i hc
    rw [if_neg hc] at h2 h3
    split at h1
    ·rename_i hall
     rw [if_pos hall] at h2 h3
     have hd : ∀ c ∈ l, e6_ c := fun c hc => (jz_ c).1 (List.all_eq_true.1 hall c hc)
     have hne : l ≠ [] := fun e => hc (.inl (by rw [e]; rfl))
     refine da_.2 ⟨b2_ l, by omega, ?_⟩
     by_cases h0 : l.head? = some 48
     ·have : ¬ 1 < l.length := fun h => hc (.inr (.inr ⟨h0, h⟩))
      match l, h0, this, hne with
      | [c], h0, _, _ => simp at h0; subst h0; rw [show b2_ [48] = 0 from rfl, Go.Lib.decDigits_one (by decide)]; rfl
      | _ :: _ :: _, _, h, _ => simp at h
     ·exact (lead hne hd h0).2.symm
    ·cases h1
where
 dec_lead (n : Nat) (h : 1 ≤ n) : (Go.Lib.decDigits n).head? ≠ some 48 := by
  induction n using Nat.strongRecOn with
  | ind n ih =>
   by_cases h1 : n < 10
   ·rw [Go.Lib.decDigits_one h1]
    simp only [List.head?_cons, ne_eq, Option.some.injEq]
    intro e
    have := ms_ h1
    rw [e] at this
    have e2 : (48 : UInt8).toNat = 48 := rfl
    omega
   ·rw [cx_ h1]
    have := ih (n / 10) (by omega) (by omega)
    cases hl : Go.Lib.decDigits (n / 10) with
    | nil => exact absurd hl (e7_ _)
    | cons c r => rw [hl] at this; simpa using this
end
section
def marks : Str := [43, 45, 42, 60, 40, 41, 58, 61]
def dr_ (s : Str) : Bool := s.length == 1 && marks.contains (s.headD 0)
def ck_ (s : Str) : Int := if dq_ s then 1 else if de_ s then 2 else if dr_ s then 3 else 0
structure Tk where
 kind : Int
 s : Str
 col : Int
def c5_ (l : Str) : Nat := max 1 (max (l.takeWhile cf_).length (l.takeWhile b7_).length)
def e3_ : Nat → Str → Int → Option (List Tk)
 | 0, _, _ => some []
 | _ + 1, [], _ => some []
 | n + 1, c :: l, col =>
  if c = 32 then e3_ n l (col + 1)
  else if ck_ ((c :: l).take (c5_ (c :: l))) = 0 then none
  else (e3_ n ((c :: l).drop (c5_ (c :: l))) (col + c5_ (c :: l))).map (⟨ck_ ((c :: l).take (c5_ (c :: l))), (c :: l).take (c5_ (c :: l)), col⟩ :: ·)
def ci_ (l : Str) : Option (List Tk) := if 120 < l.length then none else e3_ l.length l 0
theorem mp_ (l : Str) : 1 ≤ c5_ l := by unfold c5_; omega
theorem ac2_ (p : UInt8 → Bool) (l : Str) : (l.takeWhile p).length ≤ l.length := (List.takeWhile_prefix p).length_le
theorem ack_ {l : Str} (h : l ≠ []) : c5_ l ≤ l.length := by
 have h1 := ac2_ cf_ l
 have h2 := ac2_ b7_ l
 have h3 := List.length_pos_iff.2 h
 unfold c5_; omega
theorem j5_ : ∀ (n m : Nat) (l : Str) (col : Int), l.length ≤ n → l.length ≤ m → e3_ n l col = e3_ m l col
 | 0, m, l, col, hn, hm => by
  have : l = [] := List.eq_nil_of_length_eq_zero (by omega)
  subst this
  cases m <;> rfl
 | n + 1, 0, l, col, hn, hm => by
  have : l = [] := List.eq_nil_of_length_eq_zero (by omega)
  subst this
  rfl
 | n + 1, m + 1, [], col, _, _ => rfl
 | n + 1, m + 1, c :: l, col, hn, hm => by
  simp only [List.length_cons] at hn hm
  have h1 := mp_ (c :: l)
  simp only [e3_]
  rw [j5_ n m l (col + 1) (by omega) (by omega), j5_ n m ((c :: l).drop (c5_ (c :: l))) _ (by simp; omega) (by simp; omega)]
theorem hr_ (c : UInt8) (l : Str) (col : Int) : e3_ (c :: l).length (c :: l) col =
  if c = 32 then e3_ l.length l (col + 1)
  else if ck_ ((c :: l).take (c5_ (c :: l))) = 0 then none
  else (e3_ ((c :: l).drop (c5_ (c :: l))).length ((c :: l).drop (c5_ (c :: l))) (col + c5_ (c :: l))).map (⟨ck_ ((c :: l).take (c5_ (c :: l))), (c :: l).take (c5_ (c :: l)), col⟩ :: ·) := by
 have h1 := mp_ (c :: l)
 have h2 := j5_ l.length ((c :: l).drop (c5_ (c :: l))).length ((c :: l).drop (c5_ (c :: l))) (col + c5_ (c :: l)) (by simp; omega) (Nat.le_refl _)
 simp only [List.length_cons, e3_]
 rw [h2]
def jk_ : Int → List Str → List Tk
 | _, [] => []
 | c, w :: r => ⟨ck_ w, w, c⟩ :: jk_ (c + w.length + 1) r
def b3_ : Int → List Str → List Int
 | _, [] => []
 | c, w :: r => c :: b3_ (c + w.length + 1) r
theorem z3_ : ∀ (c : Int) (l : List Str), (jk_ c l).map (·.s) = l
 | _, [] => rfl
 | c, w :: r => by simp only [jk_, List.map_cons, z3_]
def c9_ (w : Str) : Prop := ck_ w ≠ 0
theorem xv_ {p : UInt8 → Bool} {w r : Str} (h : w.all p = true) (hr : ∀ c, r.head? = some c → p c = false) : (w ++ r).takeWhile p = w := by
 induction w with
 | nil =>
  cases r with
  | nil => rfl
  | cons c r => simp [List.takeWhile, hr c rfl]
 | cons c w ih =>
  simp only [List.all_cons, Bool.and_eq_true] at h
  simp [List.takeWhile, h.1, ih h.2]
theorem h4_ {p : UInt8 → Bool} {c : UInt8} {l : Str} (h : p c = false) : (c :: l).takeWhile p = [] := by simp [List.takeWhile, h]
theorem e2_ {c : UInt8} (h : cf_ c = true) : b7_ c = false := by
 rw [Bool.eq_false_iff]; intro h2
 simp only [cf_, b7_, Bool.and_eq_true, decide_eq_true_eq] at h h2; omega
theorem ks_ {c : UInt8} (h : b7_ c = true) : cf_ c = false := by
 rw [Bool.eq_false_iff]; intro h2
 simp only [cf_, b7_, Bool.and_eq_true, decide_eq_true_eq] at h h2; omega
theorem h6_ {w : Str} (h : c9_ w) : (w ≠ [] ∧ w.all cf_ = true) ∨ (w ≠ [] ∧ w.all b7_ = true) ∨ (∃ c, w = [c] ∧ cf_ c = false ∧ b7_ c = false ∧ c ≠ 32) := by
 unfold c9_ ck_ at h
 by_cases h1 : dq_ w = true
 ·left
  simp only [dq_, Bool.and_eq_true, decide_eq_true_eq] at h1
  exact ⟨fun e => by subst e; simp at h1, h1.1.1⟩
 rw [if_neg h1] at h
 by_cases h2 : de_ w = true
 ·right; left
  obtain ⟨n, hn, rfl⟩ := da_.1 h2
  exact ⟨e7_ n, List.all_eq_true.2 fun c hc => (hs_ c).2 (db_ n c hc)⟩
 rw [if_neg h2] at h
 by_cases h3 : dr_ w = true
 ·right; right
  simp only [dr_, Bool.and_eq_true, beq_iff_eq] at h3
  match w, h3 with
  | [c], h3 =>
   have h4 := h3.2
   refine ⟨c, rfl, ?_⟩
   simp [marks] at h4
   rcases h4 with h4 | h4 | h4 | h4 | h4 | h4 | h4 | h4 <;> subst h4 <;> decide
 ·rw [if_neg h3] at h; exact absurd rfl h
theorem rb_ {w : Str} (h : c9_ w) : w ≠ [] := by
 rcases h6_ h with h | h | ⟨c, rfl, _⟩
 ·exact h.1
 ·exact h.1
 ·simp
theorem ll_ {c : UInt8} {w : Str} (h : c9_ (c :: w)) : c ≠ 32 := by
 rcases h6_ h with h | h | ⟨d, e, h1, h2, h3⟩
 ·intro e; subst e; have := h.2; simp [cf_] at this
 ·intro e; subst e; have := h.2; simp [b7_] at this
 ·injection e with e1 e2; subst e1; exact h3
theorem nx_ {w r : Str} (h : c9_ w) (hr : r = [] ∨ ∃ r', r = 32 :: r') : c5_ (w ++ r) = w.length := by
 have hl : ∀ c, r.head? = some c → cf_ c = false := fun c hc => by
  rcases hr with rfl | ⟨r', rfl⟩
  ·simp at hc
  ·simp at hc; subst hc; decide
 have hd : ∀ c, r.head? = some c → b7_ c = false := fun c hc => by
  rcases hr with rfl | ⟨r', rfl⟩
  ·simp at hc
  ·simp at hc; subst hc; decide
 unfold c5_
 rcases h6_ h with h | h | ⟨c, rfl, h1, h2, h3⟩
 ·rw [xv_ h.2 hl]
  cases w with
  | nil => exact absurd rfl h.1
  | cons c w =>
   have := h.2
   simp only [List.all_cons, Bool.and_eq_true] at this
   rw [List.cons_append, h4_ (e2_ this.1)]; simp
 ·rw [xv_ h.2 hd]
  cases w with
  | nil => exact absurd rfl h.1
  | cons c w =>
   have := h.2
   simp only [List.all_cons, Bool.and_eq_true] at this
   rw [List.cons_append, h4_ (ks_ this.1)]; simp
 ·rw [List.cons_append, h4_ h1, h4_ h2]; rfl
theorem l6_ : ∀ (l : List Str) (col : Int), (∀ w ∈ l, c9_ w) → e3_ (br_ l).length (br_ l) col = some (jk_ col l)
 | [], col, _ => rfl
 | [w], col, h => by
  have hw := h w (by simp)
  rw [d4_]
  have hl := nx_ (r := []) hw (.inl rfl)
  rw [List.append_nil] at hl
  cases hc : w with
  | nil => exact absurd hc (rb_ hw)
  | cons c v =>
   rw [← hc, show w.length = (c :: v).length by rw [hc], hc, hr_, ← hc, hl]
   have : c ≠ 32 := ll_ (by rw [← hc]; exact hw)
   rw [if_neg this, List.take_length, if_neg hw, List.drop_length]
   rfl
 | w :: x :: l, col, h => by
  have hw := h w (by simp)
  have ih := l6_ (x :: l) (col + w.length + 1) (fun y hy => h y (by simp [hy]))
  rw [do_]
  have hl := nx_ (r := 32 :: br_ (x :: l)) hw (.inr ⟨_, rfl⟩)
  cases hc : w with
  | nil => exact absurd hc (rb_ hw)
  | cons c v =>
   have h32 : c ≠ 32 := ll_ (by rw [← hc]; exact hw)
   have e1 : c :: v ++ 32 :: br_ (x :: l) = c :: (v ++ 32 :: br_ (x :: l)) := rfl
   have e2 : c :: (v ++ 32 :: br_ (x :: l)) = w ++ 32 :: br_ (x :: l) := by rw [hc]; rfl
   rw [e1, hr_, if_neg h32, e2, hl, List.take_left, List.drop_left, if_neg hw, hr_, if_pos rfl, ih, ← hc]
   rfl
theorem m9_ {l : List Str} (h : ∀ w ∈ l, c9_ w) (hl : (br_ l).length ≤ 120) : ci_ (br_ l) = some (jk_ 0 l) := by
 unfold ci_; rw [if_neg (by omega)]; exact l6_ l 0 h
theorem sf_ {s : Str} (h : hy_ s = true) : c9_ s := by
 simp only [hy_, Bool.and_eq_true] at h
 unfold c9_ ck_; rw [if_pos h.1]; decide
theorem vc_ {n : Nat} (h : n ≤ 1000000) : c9_ (Go.Lib.decDigits n) := by
 unfold c9_ ck_
 split
 ·decide
 ·rw [if_pos (wm_ h).1]; decide
theorem fn_ {s : Str} (h : dr_ s = true) : c9_ s := by
 unfold c9_ ck_
 split
 ·decide
 ·split
  ·decide
  ·try rw [if_pos h]
   decide
theorem fk_ {s : Str} (h : dq_ s = true) : c9_ s := by unfold c9_ ck_; rw [if_pos h]; decide
theorem zt_ {s : Str} (h : gn_ s = true) : c9_ s := by
 simp only [gn_, Bool.or_eq_true, beq_iff_eq] at h; rcases h with ((h | h) | h) | h <;> subst h <;> exact fn_ (by decide)
theorem vl_ {s : Str} (h : ef_ s = true) : c9_ s := by
 simp only [ef_, Bool.or_eq_true, beq_iff_eq] at h; rcases h with h | h <;> subst h <;> exact fk_ (by decide)
theorem en_ : ∀ (d : Nat) (e : E) (must : Int), form e d = true → ∀ s ∈ wds e must, c9_ s
 | 0, e, must, h => by have := (bj_ h).1; omega
 | d + 1, e, must, h => by
  have e1 : ((d + 1 : Nat) : Int) - 1 = (d : Int) := by omega
  intro s hs
  rcases (bj_ h).2 with ⟨k1, h1, h2, h3, h4⟩ | ⟨k1, h1, h2, h3⟩ | ⟨k1, h1, h2, h3, h4, h5⟩ | ⟨k1, h1, h2, h3, h4⟩
  ·rw [dc_ k1] at hs; simp at hs; subst hs; exact vc_ (by omega)
  ·rw [c0_ k1] at hs; simp at hs; subst hs; exact sf_ h2
  ·rw [e1] at h4 h5
   rw [e9_ k1 h3] at hs
   have A := en_ d _ (max 2 (bb_ e.s)) h4
   have B := en_ d _ (bb_ e.s + 1) h5
   have key : s ∈ wds (e.kids.getD 0 E0) (max 2 (bb_ e.s)) ++ [e.s] ++ wds (e.kids.getD 1 E0) (bb_ e.s + 1) → c9_ s := fun hs => by
    simp only [List.mem_append, List.mem_singleton] at hs
    rcases hs with (hs | hs) | hs
    ·exact A s hs
    ·rw [hs]; exact zt_ h2
    ·exact B s hs
   split at hs
   ·rcases List.mem_append.1 hs with hs | hs
    ·rcases List.mem_append.1 hs with hs | hs
     ·simp at hs; subst hs; exact fn_ (by decide)
     ·exact key hs
    ·simp at hs; subst hs; exact fn_ (by decide)
   ·exact key hs
  ·rw [e1] at h4
   rw [g5_ k1 h3] at hs
   simp only [List.mem_append, List.mem_cons, List.not_mem_nil, or_false] at hs
   rcases hs with hs | hs | hs
   ·exact en_ d _ 4 h4 s hs
   ·subst hs; exact fk_ (by decide)
   ·subst hs; exact vl_ h2
end
section
def aft_ (w : List Str) : Option E :=
 if w.length ≤ 40 then
  (if ((nb_ 500 1 ⟨w, false, 0⟩).2.bad || !(nb_ 500 1 ⟨w, false, 0⟩).2.left.isEmpty || !eok (nb_ 500 1 ⟨w, false, 0⟩).1 || !(wds (nb_ 500 1 ⟨w, false, 0⟩).1 1 == w)) then none else some (nb_ 500 1 ⟨w, false, 0⟩).1)
 else none
def ex (w : List Str) : E := (aft_ w).getD E0
def ts_ (b : Bl) : Str := br_ (bw b)
theorem ws_ {s : Sl} (h : sok s = true) : (br_ (sw' s)).length ≤ 116 ∧
  (s = S0 ∨ (s.kind = 1 ∧ hy_ s.name = true ∧ ef_ s.type = true ∧ eok s.expr = true ∧ s.thn = E0) ∨ (s.kind = 2 ∧ s.name = [] ∧ s.type = [] ∧ eok s.expr = true ∧ s.thn = E0) ∨ (s.kind = 3 ∧ s.name = [] ∧ s.type = [] ∧ eok s.expr = true ∧ eok s.thn = true)) := by
 simp only [sok, Bool.and_eq_true, decide_eq_true_eq] at h
 refine ⟨h.2, ?_⟩
 have h := h.1
 unfold ca_ at h
 by_cases k0 : s.kind = 0
 ·simp [k0, ct_] at h
  left; cases s; simp_all [S0]
 by_cases k1 : s.kind = 1
 ·simp [k1, ct_] at h; exact .inr (.inl ⟨k1, h.1.1.1, h.1.1.2, h.1.2, h.2⟩)
 by_cases k2 : s.kind = 2
 ·simp [k2, ct_] at h; exact .inr (.inr (.inl ⟨k2, h.1.1.1, h.1.1.2, h.1.2, h.2⟩))
 by_cases k3 : s.kind = 3
 ·simp [k3] at h; exact .inr (.inr (.inr ⟨k3, h.1.1.1, h.1.1.2, h.1.2, h.2⟩))
 ·simp [k0, k1, k2, k3] at h
theorem g8_ {s : Bl} (h : bok s = true) : (br_ (bw s)).length ≤ 120 ∧
  (s = B0 ∨ (s.kind = 1 ∧ hy_ s.name = true ∧ pe s.expr = true ∧ s.thn = E0) ∨ (s.kind = 2 ∧ s.name = [] ∧ pe s.expr = true ∧ s.thn = E0) ∨ (s.kind = 3 ∧ s.name = [] ∧ pe s.expr = true ∧ pe s.thn = true)) := by
 simp only [bok, Bool.and_eq_true, decide_eq_true_eq] at h
 refine ⟨h.2, ?_⟩
 have h := h.1
 unfold g7_ at h
 by_cases k0 : s.kind = 0
 ·simp [k0, ct_] at h
  left; cases s; simp_all [B0]
 by_cases k1 : s.kind = 1
 ·simp [k1, ct_] at h; exact .inr (.inl ⟨k1, h.1.1, h.1.2, h.2⟩)
 by_cases k2 : s.kind = 2
 ·simp [k2, ct_] at h; exact .inr (.inr (.inl ⟨k2, h.1.1, h.1.2, h.2⟩))
 by_cases k3 : s.kind = 3
 ·simp [k3] at h; exact .inr (.inr (.inr ⟨k3, h.1.1, h.1.2, h.2⟩))
 ·simp [k0, k1, k2, k3] at h
theorem vt_ : c9_ hx_ := fn_ (by decide)
theorem zk_ : c9_ wEq := fn_ (by decide)
theorem qa_ {s : Bl} (h : bok s = true) : ∀ w ∈ bw s, c9_ w := by
 obtain ⟨_, h | ⟨k, h1, h3, h4⟩ | ⟨k, h1, h3, h4⟩ | ⟨k, h1, h3, h4⟩⟩ := g8_ h
 ·subst h; intro w hw; simp [bw, B0] at hw
 ·intro w hw
  simp only [bw, k, if_true, List.mem_cons] at hw
  rcases hw with rfl | rfl | hw
  ·exact sf_ h1
  ·exact zk_
  ·exact en_ 5 _ 1 (bp_ (e1_ h3)) w hw
 ·intro w hw
  simp only [bw, k, show ¬ (2 : Int) = 1 by omega, if_false, if_true, List.mem_cons] at hw
  rcases hw with rfl | hw
  ·exact fk_ (by decide)
  ·exact en_ 5 _ 1 (bp_ (e1_ h3)) w hw
 ·intro w hw
  simp only [bw, k, show ¬ (3 : Int) = 1 by omega, show ¬ (3 : Int) = 2 by omega, if_false, if_true, List.mem_cons, List.mem_append] at hw
  rcases hw with (rfl | hw) | rfl | rfl | hw
  ·exact fk_ (by decide)
  ·exact en_ 5 _ 1 (bp_ (e1_ h3)) w hw
  ·exact vt_
  ·exact fk_ (by decide)
  ·exact en_ 5 _ 1 (bp_ (e1_ h4)) w hw
theorem vi_ {s : Bl} (h : bok s = true) : ci_ (ts_ s) = some (jk_ 0 (bw s)) := m9_ (qa_ h) (g8_ h).1
end
section
mutual
theorem jq_ : ∀ (e : E) (d k : Nat), form e d = true → form e ((d + k : Nat) : Int) = true ∧ many e ((d + k : Nat) : Int) = many e d
 | .mk kd n s kids, d, k, h => by
  have hd : 1 ≤ d := by have := (bj_ h).1; omega
  obtain ⟨d, rfl⟩ : ∃ d', d = d' + 1 := ⟨d - 1, by omega⟩
  have e1 : ((d + 1 : Nat) : Int) - 1 = (d : Int) := by omega
  have e2 : ((d + 1 + k : Nat) : Int) - 1 = ((d + k : Nat) : Int) := by omega
  simp only [form, Bool.and_eq_true, decide_eq_true_eq] at h ⊢
  rw [e1] at h
  have := m1_ kids d k h.2
  rw [e2]
  refine ⟨⟨⟨by omega, h.1.2⟩, this.1⟩, ?_⟩
  simp only [many]
  rw [if_pos (by omega), if_pos (by omega), e1, e2, this.2]
theorem m1_ : ∀ (l : List E) (d k : Nat), ce_ l d = true → ce_ l ((d + k : Nat) : Int) = true ∧ cb_ l ((d + k : Nat) : Int) = cb_ l d
 | [], d, k, _ => by simp [ce_, cb_]
 | e :: r, d, k, h => by
  simp only [ce_, Bool.and_eq_true] at h ⊢
  have h1 := jq_ e d k h.1
  have h2 := m1_ r d k h.2
  simp only [cb_]
  exact ⟨⟨h1.1, h2.1⟩, by rw [h1.2, h2.2]⟩
end
def wid (l : List Str) : Nat := (l.map fun s => s.length + 1).sum
theorem kz_ : wid [] = 0 := rfl
theorem ge_ (s : Str) (l : List Str) : wid (s :: l) = s.length + 1 + wid l := rfl
theorem gp_ (a b : List Str) : wid (a ++ b) = wid a + wid b := by simp [wid, List.sum_append]
theorem uu_ (l : List Str) : wid l = (l.map List.length).sum + l.length := by
 induction l with
 | nil => rfl
 | cons s l ih => rw [ge_, ih, List.map_cons, List.sum_cons, List.length_cons]; omega
theorem i7_ {l : List Str} (h : l ≠ []) : (br_ l).length + 1 = wid l := by rw [et_ l h, uu_]
theorem E.ext4 {e : E} {k n : Int} {s : Str} {l : List E} (h1 : e.kind = k) (h2 : e.n = n) (h3 : e.s = s) (h4 : e.kids = l) : e = .mk k n s l := by cases e; simp only [E.kind, E.n, E.s, E.kids] at *; subst h1 h2 h3 h4; rfl
theorem d2_ {e : E} (k : e.kind ≠ 4) (hl : e.kids = []) : bare e = e := by
 rw [jv_ k, hl]; simp only [dp_]; exact (E.ext4 rfl rfl rfl hl).symm
theorem jc_ {e : E} (k : e.kind = 3) (hl : e.kids.length = 2) : bare e = .mk 3 e.n e.s [bare (e.kids.getD 0 E0), bare (e.kids.getD 1 E0)] := by
 rw [jv_ (by omega), k]; conv => lhs; rw [l0_ hl]
 simp only [dp_]
theorem ky_ {e : E} (k : e.kind = 4) (hl : e.kids.length = 1) : bare e = bare (e.kids.getD 0 E0) := n0_ k (by omega)
theorem d1_ : ∀ (d : Nat) (e : E), form e d = true → form (bare e) d = true ∧ many (bare e) d ≤ many e d
 | 0, e, h => by have := (bj_ h).1; omega
 | d + 1, e, h => by
  have e1 : ((d + 1 : Nat) : Int) - 1 = (d : Int) := by omega
  obtain ⟨h0, h1 | h1 | h1 | h1⟩ := bj_ h
  ·rw [d2_ (by omega) h1.2.2.2.2]; exact ⟨h, Int.le_refl _⟩
  ·rw [d2_ (by omega) h1.2.2.2]; exact ⟨h, Int.le_refl _⟩
  ·obtain ⟨k, hn, ho, hl, ha, hb⟩ := h1
   rw [e1] at ha hb
   obtain ⟨a1, a2⟩ := d1_ d _ ha
   obtain ⟨b1, b2⟩ := d1_ d _ hb
   rw [jc_ k hl, f8_ h0 hl, e1]
   refine ⟨?_, ?_⟩
   ·simp only [form, ce_, e1, a1, b1, Bool.and_true, Bool.and_eq_true, decide_eq_true_eq]
    exact ⟨h0, by simp [shape, hn, ho]⟩
   ·rw [f8_ (e := .mk 3 e.n e.s [_, _]) h0 rfl, e1]
    show 1 + many (bare (e.kids.getD 0 E0)) d + many (bare (e.kids.getD 1 E0)) d ≤ _
    omega
  ·obtain ⟨k, hn, ho, hl, ha⟩ := h1
   rw [e1] at ha
   obtain ⟨a1, a2⟩ := d1_ d _ ha
   rw [ky_ k hl, hf_ h0 hl, e1]
   obtain ⟨m1, m2⟩ := jq_ _ d 1 a1
   exact ⟨m1, by rw [m2]; omega⟩
theorem k0_ {e : E} (h : eok e = true) : pe (bare e) = true := by
 have h1 := d1_ 5 e (bp_ h)
 have h2 := jd_ h
 simp only [pe, eok, Bool.and_eq_true, decide_eq_true_eq]
 exact ⟨⟨h1.1, Int.le_trans h1.2 h2⟩, i3_ e (gv_ h)⟩
theorem xi_ {e : E} {d : Nat} (h : form e d = true) {a b : Int} (hab : a ≤ b) : wid (wds e a) ≤ wid (wds e b) := by
 obtain ⟨h0, h1 | h1 | h1 | h1⟩ := bj_ h
 ·rw [dc_ h1.1, dc_ h1.1]; exact Nat.le_refl _
 ·rw [c0_ h1.1, c0_ h1.1]; exact Nat.le_refl _
 ·rw [e9_ h1.1 h1.2.2.2.1, e9_ h1.1 h1.2.2.2.1]
  split <;> split
  ·exact Nat.le_refl _
  ·omega
  ·simp only [gp_]; omega
  ·exact Nat.le_refl _
 ·rw [g5_ h1.1 h1.2.2.2.1, g5_ h1.1 h1.2.2.2.1]; exact Nat.le_refl _
theorem i1_ : ∀ (d : Nat) (e : E) (must : Int), must ≤ 4 → form e d = true → wid (wds (bare e) must) ≤ wid (wds e must)
 | 0, e, must, _, h => by have := (bj_ h).1; omega
 | d + 1, e, must, hm, h => by
  have e1 : ((d + 1 : Nat) : Int) - 1 = (d : Int) := by omega
  obtain ⟨h0, h1 | h1 | h1 | h1⟩ := bj_ h
  ·rw [d2_ (by omega) h1.2.2.2.2]; exact Nat.le_refl _
  ·rw [d2_ (by omega) h1.2.2.2]; exact Nat.le_refl _
  ·obtain ⟨k, hn, ho, hl, ha, hb⟩ := h1
   rw [e1] at ha hb
   have ht := di_ ho
   have A := i1_ d _ (max 2 (bb_ e.s)) (by omega) ha
   have B := i1_ d _ (bb_ e.s + 1) (by omega) hb
   rw [jc_ k hl, e9_ k hl, e9_ (e := .mk 3 e.n e.s [_, _]) rfl rfl]
   show wid (if bb_ e.s < must then [[40]] ++ (wds (bare (e.kids.getD 0 E0)) (max 2 (bb_ e.s)) ++ [e.s] ++ wds (bare (e.kids.getD 1 E0)) (bb_ e.s + 1)) ++ [[41]] else wds (bare (e.kids.getD 0 E0)) (max 2 (bb_ e.s)) ++ [e.s] ++ wds (bare (e.kids.getD 1 E0)) (bb_ e.s + 1)) ≤ _
   split <;> simp only [gp_] <;> omega
  ·obtain ⟨k, hn, ho, hl, ha⟩ := h1
   rw [e1] at ha
   have A := i1_ d _ 4 (by omega) ha
   have M := xi_ (d1_ d _ ha).1 hm
   rw [ky_ k hl, g5_ k hl, gp_]; omega
def offW (w : Str) : Prop := w ≠ wAs ∧ w ≠ [105, 110, 116] ∧ w ≠ [98, 111, 111, 108] ∧ w ≠ tj_ ∧ w ≠ gb_ ∧ w ≠ gj_
instance (w : Str) : Decidable (offW w) := by unfold offW; exact inferInstance
theorem abw_ {s : Sl} (h : ca_ s = true) : wid (bw (bof s)) ≤ wid (sw' s) + 2 := by
 unfold ca_ at h
 by_cases k0 : s.kind = 0
 ·simp [bw, sw', bof, k0, kz_]
 have hb : ∀ e : E, eok e = true → wid (wds (bare e) 1) ≤ wid (wds e 1) := fun e he => i1_ 5 e 1 (by decide) (bp_ he)
 by_cases k1 : s.kind = 1
 ·simp [k1] at h
  have := hb _ h.1.2
  simp [bw, sw', bof, k1, ge_, wEq, tj_, hx_]; omega
 by_cases k2 : s.kind = 2
 ·simp [k2] at h
  have := hb _ h.1.2
  simp [bw, sw', bof, k2, ge_, dy_, gb_]; omega
 by_cases k3 : s.kind = 3
 ·simp [k3] at h
  have h1 := hb _ h.1.2
  have h2 := hb _ h.2
  simp [bw, sw', bof, k3, ge_, gp_, dy_, gb_, wIf, gj_, hx_]; omega
 ·simp [k0, k1, k2, k3] at h
theorem ey_ {s : Sl} (h : ca_ s = true) : g7_ (bof s) = true := by
 unfold ca_ at h
 by_cases k0 : s.kind = 0
 ·simp [k0, ct_] at h; simp [g7_, bof, k0, h, l3_]
 by_cases k1 : s.kind = 1
 ·simp [k1, ct_] at h; simp [g7_, bof, k1, h, l3_, k0_ h.1.2]
 by_cases k2 : s.kind = 2
 ·simp [k2, ct_] at h; simp [g7_, bof, k2, h, l3_, k0_ h.1.2]
 by_cases k3 : s.kind = 3
 ·simp [k3] at h; simp [g7_, bof, k3, h, k0_ h.1.2, k0_ h.2]
 ·simp [k0, k1, k2, k3] at h
theorem agi_ {s : Sl} (h : s.kind = 1 ∨ s.kind = 2 ∨ s.kind = 3) : sw' s ≠ [] ∧ bw (bof s) ≠ [] := by
 rcases h with k | k | k <;> simp [sw', bw, bof, k]
theorem zr_ {s : Sl} (h : ca_ s = true) : (br_ (bw (bof s))).length ≤ (br_ (sw' s)).length + 2 := by
 have h1 := abw_ h
 by_cases hk : s.kind = 1 ∨ s.kind = 2 ∨ s.kind = 3
 ·obtain ⟨n1, n2⟩ := agi_ hk
  have t1 := i7_ n1
  have t2 := i7_ n2
  omega
 ·have : bw (bof s) = [] := by
   simp only [not_or] at hk
   simp [bw, bof, hk]
  rw [this]; simp [d5_]
theorem aa4_ {s : Sl} (h : sok s = true) : ca_ s = true ∧ (br_ (sw' s)).length ≤ 116 := by
 simpa [sok] using h
theorem lc_ {s : Sl} (h : sok s = true) : bok (bof s) = true := by
 obtain ⟨h1, h2⟩ := aa4_ h
 have h3 := zr_ h1
 simp only [bok, ey_ h1, Bool.true_and, decide_eq_true_eq]; omega
end
section
def shf (k : Int) (l : Wd) : Wd := l.map fun p => if 0 ≤ p.2 then (p.1, p.2 + k) else p
theorem aca_ (k : Int) (a b : Wd) : shf k (a ++ b) = shf k a ++ shf k b := by simp [shf]
theorem ay_ (k : Int) (a : Wd) : (shf k a).length = a.length := by simp [shf]
theorem ih_ (a : Wd) : shf 0 a = a := by
 unfold shf
 conv => rhs; rw [← List.map_id a]
 congr 1; funext p
 split <;> simp
theorem pc_ (k : Int) (a : Wd) : (shf k a).map (·.1) = a.map (·.1) := by
 unfold shf; rw [List.map_map]; congr 1; funext p; simp only [Function.comp]; split <;> rfl
mutual
def l8 : E → Int → Int → Wd
 | .mk k n s kids, t, b =>
  if k = 1 then [(Go.Lib.decDigits n.toNat, 0)]
  else if k = 2 then [(s, 0)]
  else if k = 3 then brk (decide (bb_ s < b)) (shf (if bb_ s < t then 1 else 0) (l8A kids (max 2 (bb_ s)) (max 2 (bb_ s)) ++ (s, wlA kids (max 2 (bb_ s))) :: shf (wlA kids (max 2 (bb_ s)) + 1) (l8B kids (bb_ s + 1))))
  else if k = 4 then l8A kids 4 b
  else []
def l8A : List E → Int → Int → Wd
 | [], _, _ => []
 | e :: _, t, b => l8 e t b
def l8B : List E → Int → Wd
 | [], _ => []
 | _ :: r, t => l8A r t t
def wlA : List E → Int → Int
 | [], _ => 0
 | e :: _, t => (wds e t).length
end
theorem xa_ {e : E} (h : e.kind = 1) (t b : Int) : l8 e t b = [(Go.Lib.decDigits e.n.toNat, 0)] := by
 cases e; simp only [E.kind] at h; subst h; simp [l8, E.n]
theorem ui_ {e : E} (h : e.kind = 2) (t b : Int) : l8 e t b = [(e.s, 0)] := by
 cases e; simp only [E.kind] at h; subst h; simp [l8, E.s]
theorem xd_ {e : E} (h : e.kind = 3) (hl : e.kids.length = 2) (t b : Int) : l8 e t b = brk (decide (bb_ e.s < b)) (shf (if bb_ e.s < t then 1 else 0) (l8 (e.kids.getD 0 E0) (max 2 (bb_ e.s)) (max 2 (bb_ e.s)) ++ (e.s, ((wds (e.kids.getD 0 E0) (max 2 (bb_ e.s))).length : Int)) :: shf ((wds (e.kids.getD 0 E0) (max 2 (bb_ e.s))).length + 1) (l8 (e.kids.getD 1 E0) (bb_ e.s + 1) (bb_ e.s + 1)))) := by
 cases e with
 | mk k n s kids =>
  simp only [E.kind] at h; subst h
  simp only [E.kids] at hl
  match kids, hl with
  | [x, y], _ => simp [l8, l8A, l8B, wlA, E.s, E.kids]; rfl
theorem adf_ {e : E} (h : e.kind = 4) (hl : e.kids.length = 1) (t b : Int) : l8 e t b = l8 (e.kids.getD 0 E0) 4 b := by
 cases e with
 | mk k n s kids =>
  simp only [E.kind] at h; subst h
  simp only [E.kids] at hl
  match kids, hl with
  | [a], _ => simp [l8, l8A, E.kids]
def Trc (L : Wd) : Wd → Wd → Prop
 | [], [] => True
 | w :: B, c :: C => c.1 = w.1 ∧ ((w.2 = -1 ∧ c.2 = -1) ∨ (0 ≤ w.2 ∧ 0 ≤ c.2 ∧ L[c.2.toNat]? = some w)) ∧ Trc L B C
 | _, _ => False
theorem Trc.app {L : Wd} : ∀ {B C B' C' : Wd}, Trc L B C → Trc L B' C' → Trc L (B ++ B') (C ++ C')
 | [], [], _, _, _, h => h
 | [], _ :: _, _, _, h, _ => by simp [Trc] at h
 | _ :: _, [], _, _, h, _ => by simp [Trc] at h
 | w :: B, c :: C, B', C', h, k => by
  simp only [Trc] at h
  simp only [List.cons_append, Trc]
  exact ⟨h.1, h.2.1, h.2.2.app k⟩
theorem Trc.shf {L P : Wd} : ∀ {B C : Wd}, Trc L B C → Trc (P ++ L) B (Go.Proofs.YtefmbmafdgedmaaGreatDoor.shf P.length C)
 | [], [], _ => by simp [Go.Proofs.YtefmbmafdgedmaaGreatDoor.shf, Trc]
 | [], _ :: _, h => by simp [Trc] at h
 | _ :: _, [], h => by simp [Trc] at h
 | w :: B, c :: C, h => by
  simp only [Trc] at h
  have ih := h.2.2.shf (P := P)
  simp only [Go.Proofs.YtefmbmafdgedmaaGreatDoor.shf, List.map_cons, Trc] at ih ⊢
  rcases h.2.1 with ⟨h1, h2⟩ | ⟨h1, h2, h3⟩
  ·rw [if_neg (by omega)]; exact ⟨h.1, .inl ⟨h1, h2⟩, ih⟩
  ·rw [if_pos h2]
   refine ⟨h.1, .inr ⟨h1, by dsimp only; omega, ?_⟩, ih⟩
   dsimp only
   rw [show (c.2 + (P.length : Int)).toNat = P.length + c.2.toNat by omega, List.getElem?_append_right (by omega), Nat.add_sub_cancel_left]
   exact h3
theorem Trc.right {L Q : Wd} : ∀ {B C : Wd}, Trc L B C → Trc (L ++ Q) B C
 | [], [], _ => by simp [Trc]
 | [], _ :: _, h => by simp [Trc] at h
 | _ :: _, [], h => by simp [Trc] at h
 | w :: B, c :: C, h => by
  simp only [Trc] at h ⊢
  refine ⟨h.1, ?_, h.2.2.right⟩
  rcases h.2.1 with h1 | ⟨h1, h2, h3⟩
  ·exact .inl h1
  ·exact .inr ⟨h1, h2, by rw [List.getElem?_append_left (List.getElem?_eq_some_iff.1 h3).1]; exact h3⟩
theorem Trc.brk {L B C : Wd} (b : Bool) (h : Trc L B C) : Trc L (Go.Proofs.YtefmbmafdgedmaaGreatDoor.brk b B) (Go.Proofs.YtefmbmafdgedmaaGreatDoor.brk b C) := by
 cases b with
 | false => exact h
 | true =>
  simp only [Go.Proofs.YtefmbmafdgedmaaGreatDoor.brk, if_true, Trc]
  refine ⟨trivial, .inl ⟨trivial, trivial⟩, h.app ?_⟩
  simp [Trc]
theorem r2_ {e : E} (h : e.kind = 1 ∨ e.kind = 2) (hl : e.kids = []) : cnt e = 1 := by
 cases e; simp only [E.kind, E.kids] at h hl; subst hl; rcases h with h | h <;> subst h <;> simp [cnt, m6_]
theorem hg_ : ∀ (d : Nat) (e : E), form e d = true → cnt (bare e) = cnt e
 | 0, e, h => by have := (bj_ h).1; omega
 | d + 1, e, h => by
  have e1 : ((d + 1 : Nat) : Int) - 1 = (d : Int) := by omega
  obtain ⟨h0, h1 | h1 | h1 | h1⟩ := bj_ h
  ·rw [d2_ (by omega) h1.2.2.2.2]
  ·rw [d2_ (by omega) h1.2.2.2]
  ·obtain ⟨k, hn, ho, hl, ha, hb⟩ := h1
   rw [e1] at ha hb
   rw [jc_ k hl, in_ (e := .mk 3 e.n e.s [_, _]) rfl rfl, in_ k hl]
   show 1 + cnt (bare (e.kids.getD 0 E0)) + cnt (bare (e.kids.getD 1 E0)) = _
   rw [hg_ d _ ha, hg_ d _ hb]
  ·obtain ⟨k, hn, ho, hl, ha⟩ := h1
   rw [e1] at ha
   rw [ky_ k hl, oq_ k hl, hg_ d _ ha]
theorem k1_ {e : E} (h : e.kind = 1) (must nx : Int) : src e must nx = [(Go.Lib.decDigits e.n.toNat, nx)] := by
 cases e; simp only [E.kind] at h; subst h; simp [src, E.n]
theorem ix_ {e : E} (h : e.kind = 2) (must nx : Int) : src e must nx = [(e.s, nx)] := by
 cases e; simp only [E.kind] at h; subst h; simp [src, E.s]
theorem j3_ (e : E) (must nx : Int) : (src e must nx).length = (wds e must).length := by
 rw [← dw_ e must nx, List.length_map]
theorem gr_ : ∀ (d : Nat) (e : E) (t b nx : Int), form e d = true → t ≤ 4 → b ≤ 4 → 0 ≤ nx → Trc (src e t nx) (src (bare e) b nx) (l8 e t b)
 | 0, e, t, b, nx, h, _, _, _ => by have := (bj_ h).1; omega
 | d + 1, e, t, b, nx, h, ht, hb4, hn0 => by
  have e1 : ((d + 1 : Nat) : Int) - 1 = (d : Int) := by omega
  obtain ⟨h0, h1 | h1 | h1 | h1⟩ := bj_ h
  ·rw [d2_ (by omega) h1.2.2.2.2, k1_ h1.1, k1_ h1.1, xa_ h1.1]
   simp [Trc, hn0]
  ·rw [d2_ (by omega) h1.2.2.2, ix_ h1.1, ix_ h1.1, ui_ h1.1]
   simp [Trc, hn0]
  ·obtain ⟨k, hn, ho, hl, ha, hb⟩ := h1
   rw [e1] at ha hb
   have htt := di_ ho
   have A := gr_ d _ (max 2 (bb_ e.s)) (max 2 (bb_ e.s)) (nx + 1) ha (by omega) (by omega) (by omega)
   have hc := cl_ d _ 0 ha
   have B := gr_ d _ (bb_ e.s + 1) (bb_ e.s + 1) (nx + 1 + cnt (e.kids.getD 0 E0)) hb (by omega) (by omega) (by omega)
   rw [jc_ k hl, fx_ k hl, fx_ (e := .mk 3 e.n e.s [_, _]) rfl rfl, xd_ k hl]
   refine Trc.brk _ ?_
   show Trc _ (src (bare (e.kids.getD 0 E0)) (max 2 (bb_ e.s)) (nx + 1) ++ (e.s, nx) :: src (bare (e.kids.getD 1 E0)) (bb_ e.s + 1) (nx + 1 + cnt (bare (e.kids.getD 0 E0)))) _
   rw [hg_ d _ ha]
   have core : Trc (src (e.kids.getD 0 E0) (max 2 (bb_ e.s)) (nx + 1) ++ (e.s, nx) :: src (e.kids.getD 1 E0) (bb_ e.s + 1) (nx + 1 + cnt (e.kids.getD 0 E0)))
     (src (bare (e.kids.getD 0 E0)) (max 2 (bb_ e.s)) (nx + 1) ++ (e.s, nx) :: src (bare (e.kids.getD 1 E0)) (bb_ e.s + 1) (nx + 1 + cnt (e.kids.getD 0 E0)))
     (l8 (e.kids.getD 0 E0) (max 2 (bb_ e.s)) (max 2 (bb_ e.s)) ++ (e.s, ((wds (e.kids.getD 0 E0) (max 2 (bb_ e.s))).length : Int)) :: shf ((wds (e.kids.getD 0 E0) (max 2 (bb_ e.s))).length + 1) (l8 (e.kids.getD 1 E0) (bb_ e.s + 1) (bb_ e.s + 1))) := by
    refine A.right.app ?_
    have B2 := B.shf (P := src (e.kids.getD 0 E0) (max 2 (bb_ e.s)) (nx + 1) ++ [(e.s, nx)])
    rw [List.length_append, j3_, List.length_singleton, List.append_assoc, List.singleton_append] at B2
    simp only [Trc]
    refine ⟨trivial, .inr ⟨hn0, by omega, ?_⟩, by simpa using B2⟩
    rw [Int.toNat_natCast, ← j3_ _ _ (nx + 1), List.getElem?_append_right (Nat.le_refl _), Nat.sub_self]; rfl
   cases hlt : decide (bb_ e.s < t) with
   | false =>
    simp only [decide_eq_false_iff_not] at hlt
    rw [if_neg hlt, ih_]; exact core
   | true =>
    simp only [decide_eq_true_eq] at hlt
    rw [if_pos hlt]
    have := (core.shf (P := [([40], -1)])).right (Q := [([41], -1)])
    simpa [brk] using this
  ·obtain ⟨k, hn, ho, hl, ha⟩ := h1
   rw [e1] at ha
   rw [ky_ k hl, jm_ k hl, adf_ k hl]
   exact (gr_ d _ 4 b nx ha (by omega) hb4 hn0).right
theorem Trc.fst {L : Wd} : ∀ {B C : Wd}, Trc L B C → C.map (·.1) = B.map (·.1)
 | [], [], _ => rfl
 | [], _ :: _, h => by simp [Trc] at h
 | _ :: _, [], h => by simp [Trc] at h
 | w :: B, c :: C, h => by
  simp only [Trc] at h
  simp only [List.map_cons, h.1, h.2.2.fst]
def ids (l : Wd) : List Int := (l.map (·.2)).filter fun k => decide (0 ≤ k)
theorem ip_ (a b : Wd) : ids (a ++ b) = ids a ++ ids b := by simp [ids]
theorem du_ (p : Str × Int) (b : Wd) : ids (p :: b) = if 0 ≤ p.2 then p.2 :: ids b else ids b := by
 simp only [ids, List.map_cons, List.filter_cons, decide_eq_true_eq]
theorem pz_ : ids [] = [] := rfl
theorem aa9_ (b : Bool) (l : Wd) : ids (brk b l) = ids l := by
 cases b <;> simp [brk, ip_, du_, pz_]
theorem ij_ : ∀ (d : Nat) (e : E) (must nx : Int), form e d = true → 0 ≤ nx → (ids (src e must nx)).Nodup ∧ ∀ i ∈ ids (src e must nx), nx ≤ i ∧ i < nx + cnt e
 | 0, e, must, nx, h, _ => by have := (bj_ h).1; omega
 | d + 1, e, must, nx, h, hn0 => by
  have e1 : ((d + 1 : Nat) : Int) - 1 = (d : Int) := by omega
  obtain ⟨h0, h1 | h1 | h1 | h1⟩ := bj_ h
  ·rw [k1_ h1.1, r2_ (.inl h1.1) h1.2.2.2.2]; simp [ids, hn0]; omega
  ·rw [ix_ h1.1, r2_ (.inr h1.1) h1.2.2.2]; simp [ids, hn0]; omega
  ·obtain ⟨k, hn, ho, hl, ha, hb⟩ := h1
   rw [e1] at ha hb
   have hc := cl_ d _ 0 ha
   have hc2 := cl_ d _ 0 hb
   obtain ⟨a1, a2⟩ := ij_ d _ (max 2 (bb_ e.s)) (nx + 1) ha (by omega)
   obtain ⟨b1, b2⟩ := ij_ d _ (bb_ e.s + 1) (nx + 1 + cnt (e.kids.getD 0 E0)) hb (by omega)
   rw [fx_ k hl, aa9_, ip_, du_, if_pos hn0, in_ k hl]
   refine ⟨?_, fun i hi => ?_⟩
   ·rw [List.nodup_append]
    refine ⟨a1, List.nodup_cons.2 ⟨fun hm => by have := b2 _ hm; omega, b1⟩, fun x hx y hy => ?_⟩
    have q1 := a2 x hx
    rcases List.mem_cons.1 hy with rfl | hy
    ·omega
    ·have q2 := b2 y hy; omega
   ·rcases List.mem_append.1 hi with hi | hi
    ·have := a2 i hi; omega
    ·rcases List.mem_cons.1 hi with rfl | hi
     ·omega
     ·have := b2 i hi; omega
  ·obtain ⟨k, hn, ho, hl, ha⟩ := h1
   rw [e1] at ha
   rw [jm_ k hl, ip_, oq_ k hl]
   have := ij_ d _ 4 nx ha hn0
   have e2 : ids [([97, 115], -1), (e.s, -1)] = [] := by simp [ids]
   rw [e2, List.append_nil]; exact this
def c6_ : Int → Wd → Int → Int
 | _, [], _ => -1
 | c, w :: r, i => if w.2 = i then c else c6_ (c + w.1.length + 1) r i
def ed_ (l : Wd) : Int := (wid (l.map (·.1)) : Int)
theorem jn_ (w : Str × Int) (l : Wd) : ed_ (w :: l) = w.1.length + 1 + ed_ l := by simp [ed_, ge_]
theorem i0_ (a b : Wd) : ed_ (a ++ b) = ed_ a + ed_ b := by simp [ed_, gp_]
theorem jb_ : ed_ [] = 0 := rfl
theorem i9_ (l : Wd) : 0 ≤ ed_ l := by unfold ed_; omega
theorem jo_ (i : Int) : ∀ (a b : Wd) (c : Int), c6_ c (a ++ b) i = if i ∈ a.map (·.2) then c6_ c a i else c6_ (c + ed_ a) b i
 | [], b, c => by simp [jb_]
 | w :: a, b, c => by
  have ih := jo_ i a b (c + w.1.length + 1)
  simp only [List.cons_append, c6_, List.map_cons, List.mem_cons]
  by_cases h : w.2 = i
  ·simp [h]
  ·have h' : ¬ i = w.2 := fun e => h e.symm
   simp only [h, if_false, h', false_or, ih, jn_]
   split
   ·rfl
   ·congr 1; omega
theorem q9_ (i : Int) : ∀ (a : Wd) (c : Int), i ∈ a.map (·.2) → c ≤ c6_ c a i ∧ c6_ c a i < c + ed_ a
 | [], c, h => by simp at h
 | w :: a, c, h => by
  have hp := i9_ a
  simp only [c6_, jn_]
  by_cases e : w.2 = i
  ·rw [if_pos e]; omega
  ·rw [if_neg e]
   simp only [List.map_cons, List.mem_cons] at h
   have := q9_ i a (c + w.1.length + 1) (h.resolve_left fun q => e q.symm)
   omega
theorem ji_ (i : Int) (d : Int) : ∀ (a : Wd) (c : Int), i ∈ a.map (·.2) → c6_ (c + d) a i = c6_ c a i + d
 | [], c, h => by simp at h
 | w :: a, c, h => by
  simp only [c6_]
  by_cases e : w.2 = i
  ·rw [if_pos e, if_pos e]
  ·rw [if_neg e, if_neg e]
   simp only [List.map_cons, List.mem_cons] at h
   have := ji_ i d a (c + w.1.length + 1) (h.resolve_left fun q => e q.symm)
   rw [← this]; congr 1; omega
theorem gw_ {l : Wd} {i : Int} : i ∈ ids l ↔ i ∈ l.map (·.2) ∧ 0 ≤ i := by simp [ids]
theorem gf_ : ∀ {l : Wd} {j : Nat} {w : Str × Int} (c : Int), (ids l).Nodup → l[j]? = some w → 0 ≤ w.2 → (b3_ c (l.map (·.1)))[j]? = some (c6_ c l w.2)
 | [], j, w, c, _, h, _ => by simp at h
 | v :: l, 0, w, c, _, h, _ => by
  simp only [List.getElem?_cons_zero, Option.some.injEq] at h; subst h
  simp [b3_, c6_]
 | v :: l, j + 1, w, c, hn, h, h0 => by
  simp only [List.getElem?_cons_succ] at h
  have hm : w.2 ∈ ids l := gw_.2 ⟨List.mem_map.2 ⟨w, List.mem_of_getElem? h, rfl⟩, h0⟩
  rw [du_] at hn
  have hne : v.2 ≠ w.2 := fun e => by
   rw [if_pos (by omega)] at hn
   exact (List.nodup_cons.1 hn).1 (by rw [e]; exact hm)
  have hn' : (ids l).Nodup := by
   split at hn
   ·exact (List.nodup_cons.1 hn).2
   ·exact hn
  simp only [List.map_cons, b3_, List.getElem?_cons_succ, c6_, if_neg hne]
  exact gf_ _ hn' h h0
theorem nw_ : ∀ (M : List (Int × Int)) (k v i : Int), hd_ (hw_ M k v) i = if i = k then some v else hd_ M i
 | [], k, v, i => by simp [hw_, hd_]
 | (a, b) :: M, k, v, i => by
  have ih := nw_ M k v i
  simp only [hw_]
  by_cases h : k = a
  ·subst h
   simp only [if_true, hd_]
   split <;> rfl
  ·rw [if_neg h]
   simp only [hd_, ih]
   by_cases e : i = a
   ·rw [if_pos e, if_neg (fun q => h (q.symm.trans e)), if_pos e]
   ·rw [if_neg e, if_neg e]
def kq_ (l : Wd) (k : Nat) : List (Int × Int) := (((l.map (·.2)).zip (b3_ 0 (l.map (·.1)))).take k).foldl (fun M p => hw_ M p.1 p.2) []
theorem a2_ : ∀ (c : Int) (l : List Str), (b3_ c l).length = l.length
 | _, [] => rfl
 | c, w :: r => by simp only [b3_, List.length_cons, a2_]
theorem u9_ (l : Wd) : kq_ l 0 = [] := rfl
theorem ve_ {l : Wd} {k : Nat} (h : k < l.length) : kq_ l (k + 1) = hw_ (kq_ l k) (l.getD k ([], 0)).2 ((b3_ 0 (l.map (·.1))).getD k 0) := by
 have h2 : k < ((l.map (·.2)).zip (b3_ 0 (l.map (·.1)))).length := by rw [List.length_zip, List.length_map, a2_, List.length_map]; omega
 have h3 : k < (b3_ 0 (l.map (·.1))).length := by rw [a2_, List.length_map]; exact h
 unfold kq_
 rw [List.take_add_one, List.getElem?_eq_getElem h2, List.foldl_append]
 simp [List.getD_eq_getElem?_getD, List.getElem?_eq_getElem h, List.getElem?_eq_getElem h3]
theorem nq_ (i v : Int) : ∀ (Z M : List (Int × Int)), (∀ c, (i, c) ∈ Z → c = v) → ((i, v) ∈ Z ∨ hd_ M i = some v) → hd_ (Z.foldl (fun M p => hw_ M p.1 p.2) M) i = some v
 | [], M, _, h => by simpa using h
 | (a, b) :: Z, M, hu, h => by
  refine nq_ i v Z _ (fun c hc => hu c (List.mem_cons_of_mem _ hc)) ?_
  rw [nw_]
  by_cases e : i = a
  ·subst e
   have := hu b List.mem_cons_self
   subst this
   right; simp
  ·rw [if_neg e]
   rcases h with h | h
   ·rcases List.mem_cons.1 h with h | h
    ·simp only [Prod.mk.injEq] at h; exact absurd h.1 e
    ·exact .inl h
   ·exact .inr h
theorem aab_ {l : Wd} (hn : (ids l).Nodup) {i : Int} (hi : i ∈ ids l) : hd_ (kq_ l l.length) i = some (c6_ 0 l i) := by
 obtain ⟨hm, h0⟩ := gw_.1 hi
 obtain ⟨w, hw, hwi⟩ := List.mem_map.1 hm
 have hz : ∀ c, (i, c) ∈ (l.map (·.2)).zip (b3_ 0 (l.map (·.1))) → c = c6_ 0 l i := fun c hc => by
  obtain ⟨j, hj⟩ := List.mem_iff_getElem?.1 hc
  rw [List.getElem?_zip_eq_some] at hj
  obtain ⟨j1, j2⟩ := hj
  rw [List.getElem?_map] at j1
  obtain ⟨u, u1, u2⟩ := Option.map_eq_some_iff.1 j1
  have := gf_ 0 hn u1 (by rw [u2]; exact h0)
  rw [j2, u2] at this
  exact Option.some.inj this
 unfold kq_
 rw [List.take_of_length_le (by rw [List.length_zip, List.length_map]; omega)]
 refine nq_ i _ _ _ hz (.inl ?_)
 obtain ⟨j, hj⟩ := List.mem_iff_getElem?.1 hw
 have := gf_ 0 hn hj (by rw [hwi]; exact h0)
 rw [hwi] at this
 refine List.mem_iff_getElem?.2 ⟨j, ?_⟩
 rw [List.getElem?_zip_eq_some]
 exact ⟨by rw [List.getElem?_map, hj]; simp [hwi], this⟩
theorem ff_ : ∀ (l : List Str) (c : Int) {k : Nat}, k < l.length → (b3_ c l).getD k 0 = c + wid (l.take k)
 | [], c, k, h => by simp at h
 | w :: r, c, 0, _ => by simp [b3_, kz_]
 | w :: r, c, k + 1, h => by
  have := ff_ r (c + w.length + 1) (k := k) (by simpa using h)
  simp only [b3_, List.getD_cons_succ, List.take_succ_cons, ge_, this]
  omega
theorem id_ {l : List Str} {k : Nat} (h : k < l.length) : wid (l.take (k + 1)) = wid (l.take k) + ((l.getD k []).length + 1) := by
 rw [List.take_add_one, List.getElem?_eq_getElem h, gp_, List.getD_eq_getElem?_getD, List.getElem?_eq_getElem h]; rfl
theorem ur_ (l : List Str) (k : Nat) : wid (l.take k) ≤ wid l := by
 conv => rhs; rw [← List.take_append_drop k l]
 rw [gp_]; omega
theorem Trc.lt {L : Wd} : ∀ {B C : Wd}, Trc L B C → ∀ p ∈ C, -1 ≤ p.2 ∧ p.2 < (L.length : Int)
 | [], [], _ => by simp
 | [], _ :: _, h => by simp [Trc] at h
 | _ :: _, [], h => by simp [Trc] at h
 | w :: B, c :: C, h => by
  simp only [Trc] at h
  intro p hp
  rcases List.mem_cons.1 hp with rfl | hp
  ·rcases h.2.1 with ⟨_, h2⟩ | ⟨_, h2, h3⟩
   ·omega
   ·have := (List.getElem?_eq_some_iff.1 h3).1; omega
  ·exact h.2.2.lt p hp
theorem Trc.len {L : Wd} {B C : Wd} (h : Trc L B C) : C.length = B.length := by
 have := congrArg List.length h.fst; simpa using this
theorem ga_ (d : Nat) (e : E) (h : form e d = true) (hm : many e d ≤ 1000) (m : Int) : (wds e m).length ≤ 3000 := by
 have := cl_ d e m h; omega
theorem ie_ {d : Nat} {e : E} {t b : Int} (h : form e d = true) (hm : many e d ≤ 1000) (ht : t ≤ 4) (hb : b ≤ 4) : (l8 e t b).length ≤ 3000 ∧ ∀ p ∈ l8 e t b, -1 ≤ p.2 ∧ p.2 ≤ 3000 := by
 have T := gr_ d e t b 0 h ht hb (by decide)
 have h1 := d1_ d e h
 have q1 := ga_ d e h hm t
 have q2 := ga_ d (bare e) h1.1 (by omega) b
 refine ⟨by rw [T.len, j3_]; exact q2, fun p hp => ?_⟩
 have := T.lt p hp
 rw [j3_] at this
 omega
def l8c (e : E) : Wd :=
 if e.kind = 1 then [(Go.Lib.decDigits e.n.toNat, 0)]
 else if e.kind = 2 then [(e.s, 0)]
 else l8 (e.kids.getD 0 E0) (max 2 (bb_ e.s)) (max 2 (bb_ e.s)) ++ (e.s, ((wds (e.kids.getD 0 E0) (max 2 (bb_ e.s))).length : Int)) :: shf ((wds (e.kids.getD 0 E0) (max 2 (bb_ e.s))).length + 1) (l8 (e.kids.getD 1 E0) (bb_ e.s + 1) (bb_ e.s + 1))
theorem aa5_ {e : E} (hk : e.kind = 1 ∨ e.kind = 2 ∨ e.kind = 3 ∧ e.kids.length = 2) (t b : Int) : l8 e t b = brk (decide (e.kind = 3 ∧ bb_ e.s < b)) (shf (if e.kind = 3 ∧ bb_ e.s < t then 1 else 0) (l8c e)) := by
 rcases hk with hk | hk | ⟨hk, hl⟩
 ·rw [xa_ hk]; simp [l8c, hk, ih_, brk]
 ·rw [ui_ hk]; simp [l8c, hk, ih_, brk]
 ·rw [xd_ hk hl]; simp [l8c, hk]
def l8L (s : Sl) : Wd :=
 if s.kind = 1 then (s.name, 1) :: (wEq, 4) :: shf 5 (l8 s.expr 1 1)
 else if s.kind = 2 then (dy_, 0) :: shf 1 (l8 s.expr 1 1)
 else if s.kind = 3 then ((wIf, 0) :: shf 1 (l8 s.expr 1 1) ++ [(hx_, -1), (dy_, ((wds s.expr 1).length : Int) + 1)]) ++ shf ((wds s.expr 1).length + 2) (l8 s.thn 1 1)
 else []
def g4_ (s : Sl) : List Int := (l8L s).map fun c => if c.2 < 0 then -1 else (b3_ 0 (sw' s)).getD c.2.toNat 0
end
end Go.Proofs.YtefmbmafdgedmaaGreatDoor
