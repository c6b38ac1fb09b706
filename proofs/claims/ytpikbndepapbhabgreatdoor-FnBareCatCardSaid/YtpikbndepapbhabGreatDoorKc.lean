/- The plain functions that the Go functions compute. Conditions: none. -/
import Derived.Test.YtpikbndepapbhabGreatDoorKa
import Derived.Lib.ItoaMem
import Derived.Lib.AtoiAll
set_option linter.unusedVariables false
set_option linter.unusedSimpArgs false
namespace Go.Proofs.YtpikbndepapbhabGreatDoor
section
def bk_ (s : Str) : Int := if s == [60] then 1 else if s == [43] || s == [45] then 2 else if s == [42] then 3 else 0
def dx_ (s : Str) : Bool := s == [105, 110, 116] || s == [98, 111, 111, 108]
def ei_ (s : Str) : Bool := s == [43] || s == [45] || s == [42] || s == [60]
def ml_ (s : Str) : Bool := s == [108, 101, 116] || s == [115, 97, 121] || s == [119, 104, 101, 110] || s == [97, 115] || s == [112, 114, 105, 110, 116] || s == [105, 102] || dx_ s
def fk_ (c : UInt8) : Bool := decide (97 ≤ (c.toNat : Int)) && decide ((c.toNat : Int) ≤ 122)
def digit (c : UInt8) : Bool := decide (48 ≤ (c.toNat : Int)) && decide ((c.toNat : Int) ≤ 57)
def fa_ (s : Str) : Bool := s.all fk_ && decide (1 ≤ s.length) && decide (s.length ≤ 8)
def ir_ (s : Str) : Bool := fa_ s && !ml_ s
def shape (k n : Int) (s : Str) (m : Nat) : Bool :=
 if k == 1 then decide (0 ≤ n) && decide (n ≤ 1000000) && s.isEmpty && m == 0
 else if k == 2 then n == 0 && ir_ s && m == 0
 else if k == 3 then n == 0 && ei_ s && m == 2
 else if k == 4 then n == 0 && dx_ s && m == 1
 else false
mutual
def form : E → Int → Bool
 | .mk k n s kids, d => decide (1 ≤ d) && shape k n s kids.length && bz_ kids (d - 1)
def bz_ : List E → Int → Bool
 | [], _ => true
 | e :: r, d => form e d && bz_ r d
end
mutual
def many : E → Int → Int
 | .mk _ _ _ kids, d => 1 + if 0 < d then bx_ kids (d - 1) else 0
def bx_ : List E → Int → Int
 | [], _ => 0
 | e :: r, d => many e d + bx_ r d
end
mutual
def wlk : E → Int → Int → Bool × Int
 | .mk k n s kids, d, p => if 5 < d ∨ 12 < p + 1 then (false, p + 1) else if shape k n s kids.length then ct_ kids (d + 1) (p + 1) else (false, p + 1)
def ct_ : List E → Int → Int → Bool × Int
 | [], _, p => (true, p)
 | e :: r, d, p => if (wlk e d p).1 then ct_ r d (wlk e d p).2 else (false, (wlk e d p).2)
end
def same : E → E → Bool
 | .mk k n s kids, y => match y with
  | .mk k' n' s' kids' => (k == k') && (n == n') && (s == s') && sameL kids kids'
where sameL : List E → List E → Bool
 | [], [] => true
 | x :: r, y :: t => same x y && sameL r t
 | _, _ => false
theorem hf_ (x y : E) : same x y = ((x.kind == y.kind) && (x.n == y.n) && (x.s == y.s) && same.sameL x.kids y.kids) := by
 cases x; cases y; simp only [same, E.kind, E.n, E.s, E.kids]
mutual
def bare : E → E
 | .mk k n s kids => if k = 4 then l8_ kids (.mk k n s []) else .mk k n s (cb_ kids)
def l8_ : List E → E → E
 | [], d => d
 | e :: _, _ => bare e
def cb_ : List E → List E
 | [] => []
 | e :: r => bare e :: cb_ r
end
abbrev Wd := List (Str × Int)
mutual
def cnt : E → Int
 | .mk k _ _ kids => if k = 4 then ki_ kids else 1 + ki_ kids
def ki_ : List E → Int
 | [] => 0
 | e :: r => cnt e + ki_ r
end
def brk (b : Bool) (l : Wd) : Wd := if b then ([40], -1) :: (l ++ [([41], -1)]) else l
mutual
def src : E → Int → Int → Wd
 | .mk k n s kids, must, nx =>
  if k = 1 then [(Go.Lib.decDigits n.toNat, nx)]
  else if k = 2 then [(s, nx)]
  else if k = 3 then brk (decide (bk_ s < must)) (kb_ kids (max 2 (bk_ s)) (nx + 1) ++ (s, nx) :: pt_ kids (bk_ s + 1) (nx + 1))
  else if k = 4 then kb_ kids 4 nx ++ [([97, 115], -1), (s, -1)]
  else []
def kb_ : List E → Int → Int → Wd
 | [], _, _ => []
 | e :: _, must, nx => src e must nx
def pt_ : List E → Int → Int → Wd
 | [], _, _ => []
 | e :: r, must, nx => kb_ r must (nx + cnt e)
end
def wds (e : E) (must : Int) : List Str := (src e must 0).map (·.1)
def bt_ (l : List Str) : Str := [(32 : UInt8)].intercalate l
def ta_ (l : List Str) (s : Str) : Int := if s ∈ l then (l.idxOf s : Int) else -1
end
section
open Go.Lib
theorem ev_ {n : Nat} (h : ¬ n < 10) : decDigits n = decDigits (n / 10) ++ [UInt8.ofNat (48 + n % 10)] := by
 rw [decDigits, dif_neg h]
end
section
theorem h3_ {kids : List E} {k : Nat} (h : k < kids.length) (d : Int) : bz_ (kids.drop k) d = (form kids[k] d && bz_ (kids.drop (k+1)) d) := by
 rw [List.drop_eq_getElem_cons h]; simp only [bz_]
theorem p1_ {kids : List E} {k : Nat} (h : kids.length ≤ k) (d : Int) : bz_ (kids.drop k) d = true := by
 rw [List.drop_of_length_le h]; simp only [bz_]
theorem p3_ {k n : Int} {s : Str} {m : Nat} (h : shape k n s m = true) (hm : m ≠ 0) : k = 3 ∧ n = 0 ∧ m = 2 ∧ ei_ s = true ∨ k = 4 ∧ n = 0 ∧ m = 1 ∧ dx_ s = true := by
 unfold shape at h
 by_cases k1 : k = 1
 ·subst k1; simp at h; omega
 by_cases k2 : k = 2
 ·subst k2; simp at h; omega
 by_cases k3 : k = 3
 ·subst k3; simp at h; exact .inl ⟨rfl, h.1.1, h.2, h.1.2⟩
 by_cases k4 : k = 4
 ·subst k4; simp at h; exact .inr ⟨rfl, h.1.1, h.2, h.1.2⟩
 ·simp [k1, k2, k3, k4] at h
theorem hx_ {kids : List E} {k : Nat} (h : k < kids.length) (d : Int) : bx_ (kids.drop k) d = many kids[k] d + bx_ (kids.drop (k+1)) d := by
 rw [List.drop_eq_getElem_cons h]; simp only [bx_]
theorem pe_ {kids : List E} {k : Nat} (h : kids.length ≤ k) (d : Int) : bx_ (kids.drop k) d = 0 := by
 rw [List.drop_of_length_le h]; simp only [bx_]
mutual
theorem f0_ : ∀ (e : E) (d : Nat), form e d = true → 1 ≤ many e d ∧ many e d ≤ 2 ^ d - 1
 | .mk k n s kids, 0, h => by simp [form] at h
 | .mk k n s kids, d + 1, h => by
  simp only [form, T5_, T3_] at h
  obtain ⟨⟨_, h2⟩, h3⟩ := h
  have h4 : kids.length ≤ 2 := by
   by_cases hk : kids.length = 0
   ·omega
   ·rcases p3_ h2 hk with ⟨_, _, h, _⟩ | ⟨_, _, h, _⟩ <;> omega
  have e1 : ((d + 1 : Nat) : Int) - 1 = (d : Int) := by omega
  rw [e1] at h3
  have := fv_ kids d h3
  simp only [many]
  rw [if_pos (by omega), e1]
  have h5 : (kids.length : Int) * (2 ^ d - 1) ≤ 2 * (2 ^ d - 1) := Int.mul_le_mul_of_nonneg_right (by omega) (by have : (0 : Int) < 2 ^ d := Int.pow_pos (by decide); omega)
  have h6 : (2 : Int) ^ (d + 1) = 2 * 2 ^ d := by rw [Int.pow_succ]; omega
  omega
theorem fv_ : ∀ (l : List E) (d : Nat), bz_ l d = true → 0 ≤ bx_ l d ∧ bx_ l d ≤ l.length * (2 ^ d - 1)
 | [], d, _ => by simp [bx_]
 | e :: r, d, h => by
  simp only [bz_, T5_] at h
  have h1 := f0_ e d h.1
  have h2 := fv_ r d h.2
  simp only [bx_, T7_]
  have : ((r.length + 1 : Nat) : Int) * (2 ^ d - 1) = r.length * (2 ^ d - 1) + (2 ^ d - 1) := by rw [Int.natCast_add, Int.add_mul]; simp
  omega
end
theorem no_ {l : List E} {d : Int} : ∀ (j : Nat), bz_ l d = true → bz_ (l.drop j) d = true := by
 induction l with
 | nil => intro j h; simpa using h
 | cons e r ih =>
  intro j h
  cases j with
  | zero => simpa using h
  | succ j => simp only [bz_, T5_] at h; simpa using ih j h.2
theorem gb_ {l : List E} {d : Int} (h : bz_ l d = true) : ∀ e ∈ l, form e d = true := by
 induction l with
 | nil => intro e he; cases he
 | cons x r ih =>
  simp only [bz_, T5_] at h
  intro e he
  rcases List.mem_cons.1 he with rfl | he
  ·exact h.1
  ·exact ih h.2 e he
theorem pb_ (s : Str) : decide (0 < bk_ s) = ei_ s := by
 unfold bk_ ei_
 by_cases h1 : s = [60]
 ·subst h1; rfl
 by_cases h2 : s = [43]
 ·subst h2; rfl
 by_cases h3 : s = [45]
 ·subst h3; rfl
 by_cases h4 : s = [42]
 ·subst h4; rfl
 ·simp [h1, h2, h3, h4]
mutual
theorem qr_ : ∀ (e : E) (d p : Int), (wlk e d p).1 = true → p < (wlk e d p).2 ∧ (wlk e d p).2 ≤ 12
 | .mk k n s kids, d, p, h => by
  simp only [wlk] at h ⊢
  by_cases h1 : 5 < d ∨ 12 < p + 1
  ·rw [if_pos h1] at h; cases h
  ·rw [if_neg h1] at h ⊢
   by_cases h2 : shape k n s kids.length = true
   ·rw [if_pos h2] at h ⊢
    have := n1_ kids (d + 1) (p + 1) (by omega) h
    omega
   ·rw [if_neg h2] at h; cases h
theorem n1_ : ∀ (l : List E) (d p : Int), p ≤ 12 → (ct_ l d p).1 = true → p ≤ (ct_ l d p).2 ∧ (ct_ l d p).2 ≤ 12
 | [], d, p, hp, _ => by simp only [ct_]; omega
 | e :: r, d, p, hp, h => by
  simp only [ct_] at h ⊢
  by_cases h1 : (wlk e d p).1 = true
  ·rw [if_pos h1] at h ⊢
   have h2 := qr_ e d p h1
   have h3 := n1_ r d _ h2.2 h
   omega
  ·rw [if_neg h1] at h; cases h
end
theorem i2_ {kids : List E} {k : Nat} (h : k < kids.length) (d p : Int) : ct_ (kids.drop k) d p = if (wlk kids[k] d p).1 then ct_ (kids.drop (k+1)) d (wlk kids[k] d p).2 else (false, (wlk kids[k] d p).2) := by
 rw [List.drop_eq_getElem_cons h]; simp only [ct_]
theorem qe_ {kids : List E} {k : Nat} (h : kids.length ≤ k) (d p : Int) : ct_ (kids.drop k) d p = (true, p) := by
 rw [List.drop_of_length_le h]; simp only [ct_]
def eok (e : E) : Bool := form e 5 && decide (many e 5 ≤ 12)
mutual
theorem kr_ : ∀ (e : E) (dd : Nat) (p : Int), dd ≤ 5 → p ≤ 12 →
  (wlk e (6 - dd) p).1 = (form e dd && decide (p + many e dd ≤ 12)) ∧ ((form e dd && decide (p + many e dd ≤ 12)) = true → (wlk e (6 - dd) p).2 = p + many e dd)
 | .mk k n s kids, 0, p, hd, hp => by
  have h : form (.mk k n s kids) ((0 : Nat) : Int) = false := by simp [form]
  rw [h]
  simp only [wlk]
  rw [if_pos (by omega)]
  simp
 | .mk k n s kids, dd + 1, p, hd, hp => by
  have e1 : (6 : Int) - ((dd + 1 : Nat) : Int) + 1 = 6 - (dd : Int) := by omega
  have e2 : (((dd + 1 : Nat) : Int)) - 1 = (dd : Int) := by omega
  have hml := f0_ (.mk k n s kids) (dd + 1)
  by_cases h1 : 12 < p + 1
  ·have hw : wlk (.mk k n s kids) (6 - ((dd + 1 : Nat) : Int)) p = (false, p + 1) := by simp only [wlk]; rw [if_pos (.inr h1)]
   rw [hw]
   have : (form (.mk k n s kids) ((dd + 1 : Nat) : Int) && decide (p + many (.mk k n s kids) ((dd + 1 : Nat) : Int) ≤ 12)) = false := by
    rw [Bool.eq_false_iff]; intro h
    simp only [T5_, T3_] at h
    have := hml h.1; omega
   rw [this]; simp
  ·have hf : form (.mk k n s kids) ((dd + 1 : Nat) : Int) = (shape k n s kids.length && bz_ kids (dd : Int)) := by
    simp only [form]; rw [e2, show decide ((1 : Int) ≤ ((dd + 1 : Nat) : Int)) = true by simp; omega]; rfl
   have hm : many (.mk k n s kids) ((dd + 1 : Nat) : Int) = 1 + bx_ kids (dd : Int) := by
    simp only [many]; rw [if_pos (by omega), e2]
   have hw : wlk (.mk k n s kids) (6 - ((dd + 1 : Nat) : Int)) p = if shape k n s kids.length then ct_ kids (6 - (dd : Int)) (p + 1) else (false, p + 1) := by
    simp only [wlk]; rw [if_neg (by omega), e1]
   rw [hf, hm, hw]
   cases hs : shape k n s kids.length with
   | false => simp
   | true =>
    have := im_ kids dd (p + 1) (by omega) (by omega)
    rw [if_pos rfl, Bool.true_and, show p + (1 + bx_ kids (dd : Int)) = p + 1 + bx_ kids (dd : Int) by omega]
    exact this
theorem im_ : ∀ (l : List E) (dd : Nat) (p : Int), dd ≤ 5 → p ≤ 12 →
  (ct_ l (6 - dd) p).1 = (bz_ l dd && decide (p + bx_ l dd ≤ 12)) ∧ ((bz_ l dd && decide (p + bx_ l dd ≤ 12)) = true → (ct_ l (6 - dd) p).2 = p + bx_ l dd)
 | [], dd, p, hd, hp => by simp [ct_, bz_, bx_, hp]
 | e :: r, dd, p, hd, hp => by
  obtain ⟨h1, h2⟩ := kr_ e dd p hd hp
  rw [show bz_ (e :: r) (dd : Int) = (form e dd && bz_ r dd) by simp only [bz_], show bx_ (e :: r) (dd : Int) = many e dd + bx_ r dd by simp only [bx_],
   show ct_ (e :: r) (6 - (dd : Int)) p = if (wlk e (6 - (dd : Int)) p).1 then ct_ r (6 - (dd : Int)) (wlk e (6 - (dd : Int)) p).2 else (false, (wlk e (6 - (dd : Int)) p).2) by simp only [ct_]]
  by_cases hw : (form e dd && decide (p + many e dd ≤ 12)) = true
  ·have hw1 := h1.trans hw
   have hw2 := h2 hw
   simp only [T5_, T3_] at hw
   rw [if_pos hw1, hw2, hw.1, Bool.true_and, show p + (many e dd + bx_ r dd) = p + many e dd + bx_ r dd by omega]
   exact im_ r dd _ hd hw.2
  ·have hw1 : (wlk e (6 - (dd : Int)) p).1 = false := by rw [h1]; simpa using hw
   have : (form e (dd : Int) && bz_ r (dd : Int) && decide (p + (many e dd + bx_ r dd) ≤ 12)) = false := by
    rw [Bool.eq_false_iff]; intro h
    simp only [T5_, T3_] at h hw
    have := fv_ r dd h.1.2
    exact hw ⟨h.1.1, by omega⟩
   rw [hw1, this]; simp
end
theorem ts_ (e : E) : (wlk e 1 0).1 = eok e := by
 have := (kr_ e 5 0 (by omega) (by omega)).1
 rw [show (6 : Int) - ((5 : Nat) : Int) = 1 by omega] at this
 rw [this]; unfold eok; simp
end
section
def E0 : E := .mk 0 0 [] []
theorem E.ind' {P : E → Prop} (h : ∀ e, (∀ x ∈ e.kids, P x) → P e) (e : E) : P e := E.ind (fun k n s kids ih => h _ ih) e
theorem ba_ {α : Type} {l : List α} {k : Nat} {d : α} (h : k < l.length) : l.getD k d ∈ l := by
 simp [T8_, T6_ h]
mutual
def sm : E → Bool
 | .mk _ _ s kids => decide (s.length < 4611686018427387904) && decide (kids.length < 1099511627776) && sms kids
def sms : List E → Bool
 | [] => true
 | e :: r => sm e && sms r
end
theorem b1_ : ∀ {l : List E}, sms l = true → ∀ e ∈ l, sm e = true
 | [], _, e, he => by cases he
 | x :: l, h, e, he => by
  simp only [sms, T5_] at h
  rcases List.mem_cons.1 he with rfl | he
  ·exact h.1
  ·exact b1_ h.2 e he
theorem cl_ {e : E} (h : sm e = true) : e.s.length < 4611686018427387904 ∧ e.kids.length < 4611686018427387904 ∧ sms e.kids = true := by
 cases e; simp only [sm, T5_, T3_] at h; exact ⟨h.1.1, Nat.lt_trans h.1.2 (by decide), h.2⟩
theorem jx_ {e : E} (h : sm e = true) : e.kids.length < 1099511627776 := by
 cases e; simp only [sm, T5_, T3_] at h; exact h.1.2
theorem dm_ {l : List E} {k : Nat} (h : k < l.length) : l.getD k E0 = l[k] := by simp [T8_, T6_ h]
theorem fn_ (e : E) (d : Int) : form e d = (decide (1 ≤ d) && shape e.kind e.n e.s e.kids.length && bz_ e.kids (d - 1)) := by cases e; simp only [form, E.kind, E.n, E.s, E.kids]
mutual
def wf : E → Bool
 | .mk k _ _ kids => (k != 4 || !kids.isEmpty) && wfs kids
def wfs : List E → Bool
 | [] => true
 | e :: r => wf e && wfs r
end
theorem fl_ : ∀ {l : List E}, wfs l = true → ∀ e ∈ l, wf e = true
 | [], _, e, he => by cases he
 | x :: l, h, e, he => by
  simp only [wfs, T5_] at h
  rcases List.mem_cons.1 he with rfl | he
  ·exact h.1
  ·exact fl_ h.2 e he
theorem oe_ {e : E} (h : wf e = true) : (e.kind = 4 → 0 < e.kids.length) ∧ wfs e.kids = true := by
 cases e with
 | mk k n s kids =>
  simp only [wf, T5_] at h
  refine ⟨fun hk => ?_, h.2⟩
  simp only [E.kind] at hk
  subst hk
  have := h.1
  simp only [E.kids]
  cases kids with
  | nil => simp at this
  | cons a b => simp
theorem ix_ {e : E} (h : e.kind = 4) (hk : 0 < e.kids.length) : bare e = bare (e.kids.getD 0 E0) := by
 cases e with
 | mk k n s kids =>
  simp only [E.kind] at h
  simp only [E.kids] at hk
  subst h
  cases kids with
  | nil => simp at hk
  | cons a b => simp [bare, l8_, E.kids]
theorem jg_ {e : E} (h : e.kind ≠ 4) : bare e = .mk e.kind e.n e.s (cb_ e.kids) := by
 cases e with
 | mk k n s kids => simp only [E.kind] at h; simp [bare, h, E.kind, E.n, E.s, E.kids]
theorem cr_ : ∀ l : List E, (cb_ l).length = l.length
 | [] => by simp [cb_]
 | e :: r => by simp [cb_, cr_ r]
theorem f5_ : ∀ l : List E, cb_ l = l.map bare
 | [] => by simp [cb_]
 | e :: r => by simp [cb_, f5_ r]
theorem hj_ {l : List E} {k : Nat} (h : k < l.length) : cb_ (l.take (k + 1)) = cb_ (l.take k) ++ [bare (l.getD k E0)] := by
 rw [f5_, f5_, List.take_add_one, T6_ h, T8_, T6_ h, List.map_append]
 rfl
mutual
def pla : E → Bool
 | .mk k _ _ kids => k != 4 && e9_ kids
def e9_ : List E → Bool
 | [] => true
 | e :: r => pla e && e9_ r
end
theorem ns_ (e : E) : pla e = (e.kind != 4 && e9_ e.kids) := by cases e; simp only [pla, E.kind, E.kids]
end
section
mutual
theorem fm_ : ∀ x y : E, same x y = true ↔ x = y
 | .mk k n s kids, .mk k' n' s' kids' => by
  have := jc_ kids kids'
  simp only [same, T5_, beq_iff_eq, this, E.mk.injEq, and_assoc]
theorem jc_ : ∀ x y : List E, same.sameL x y = true ↔ x = y
 | [], [] => by simp [same.sameL]
 | [], _ :: _ => by simp [same.sameL]
 | _ :: _, [] => by simp [same.sameL]
 | x :: xs, y :: ys => by
  have h1 := fm_ x y
  have h2 := jc_ xs ys
  simp only [same.sameL, T5_, h1, h2, List.cons.injEq]
end
instance : DecidableEq E := fun x y => if h : same x y = true then isTrue ((fm_ x y).1 h) else isFalse fun e => h ((fm_ x y).2 e)
mutual
theorem kx_ : ∀ e : E, pla e = true → bare e = e
 | .mk k n s kids, h => by
  simp only [pla, T5_, bne_iff_ne, ne_eq] at h
  simp only [bare, if_neg h.1, hp_ kids h.2]
theorem hp_ : ∀ l : List E, e9_ l = true → cb_ l = l
 | [], _ => by simp only [cb_]
 | e :: r, h => by
  simp only [e9_, T5_] at h
  simp only [cb_, kx_ e h.1, hp_ r h.2]
end
mutual
theorem ia_ : ∀ e : E, wf e = true → pla (bare e) = true
 | .mk k n s kids, h => by
  simp only [wf, T5_] at h
  simp only [bare]
  by_cases hk : k = 4
  ·rw [if_pos hk]
   cases kids with
   | nil => simp [hk] at h
   | cons a r =>
    simp only [l8_]
    simp only [wfs, T5_] at h
    exact ia_ a h.2.1
  ·rw [if_neg hk]
   simp only [pla, T5_, bne_iff_ne, ne_eq]
   exact ⟨hk, h7_ kids h.2⟩
theorem h7_ : ∀ l : List E, wfs l = true → e9_ (cb_ l) = true
 | [], _ => by simp only [cb_, e9_]
 | e :: r, h => by
  simp only [wfs, T5_] at h
  simp only [cb_, e9_, ia_ e h.1, h7_ r h.2, Bool.and_self]
end
theorem o5_ {e : E} (h : wf e = true) : same (bare e) e = pla e := by
 rw [Bool.eq_iff_iff, fm_]
 constructor
 ·intro he; have := ia_ e h; rwa [he] at this
 ·exact kx_ e
theorem nj_ {k n : Int} {s : Str} {m : Nat} (h : shape k n s m = true) : k = 4 → 0 < m := by
 rintro rfl; simp [shape] at h; omega
mutual
theorem jy_ : ∀ (e : E) (d : Int), form e d = true → wf e = true
 | .mk k n s kids, d, h => by
  simp only [form, T5_] at h
  have h1 := nj_ h.1.2
  simp only [wf, T5_, Bool.or_eq_true, bne_iff_ne, ne_eq, Bool.not_eq_true', List.isEmpty_eq_false_iff]
  refine ⟨?_, i8_ kids _ h.2⟩
  by_cases hk : k = 4
  ·right; intro e; have := h1 hk; simp [e] at this
  ·exact .inl hk
theorem i8_ : ∀ (l : List E) (d : Int), bz_ l d = true → wfs l = true
 | [], _, _ => by simp only [wfs]
 | e :: r, d, h => by
  simp only [bz_, T5_] at h
  simp only [wfs, jy_ e d h.1, i8_ r d h.2, Bool.and_self]
end
theorem b6_ {e : E} (h : eok e = true) : form e 5 = true := by simp only [eok, T5_] at h; exact h.1
theorem hs_ {e : E} (h : eok e = true) : many e 5 ≤ 12 := by simp only [eok, T5_, T3_] at h; exact h.2
theorem h1_ {e : E} (h : eok e = true) : wf e = true := jy_ e 5 (b6_ h)
theorem g9_ (b : Bool) (l : Wd) : (brk b l).map (·.1) = if b then [[40]] ++ l.map (·.1) ++ [[41]] else l.map (·.1) := by
 unfold brk; cases b <;> simp
mutual
theorem rb_ : ∀ (e : E) (must a b : Int), (src e must a).map (·.1) = (src e must b).map (·.1)
 | .mk k n s kids, must, a, b => by
  simp only [src]
  by_cases k1 : k = 1
  ·rw [if_pos k1, if_pos k1]; rfl
  by_cases k2 : k = 2
  ·rw [if_neg k1, if_neg k1, if_pos k2, if_pos k2]; rfl
  by_cases k3 : k = 3
  ·rw [if_neg k1, if_neg k1, if_neg k2, if_neg k2, if_pos k3, if_pos k3, g9_, g9_]
   simp only [List.map_append, List.map_cons, js_ kids (max 2 (bk_ s)) (a + 1) (b + 1), td_ kids (bk_ s + 1) (a + 1) (b + 1)]
  by_cases k4 : k = 4
  ·rw [if_neg k1, if_neg k1, if_neg k2, if_neg k2, if_neg k3, if_neg k3, if_pos k4, if_pos k4]
   simp only [List.map_append, js_ kids 4 a b]
  ·rw [if_neg k1, if_neg k1, if_neg k2, if_neg k2, if_neg k3, if_neg k3, if_neg k4, if_neg k4]
theorem js_ : ∀ (l : List E) (must a b : Int), (kb_ l must a).map (·.1) = (kb_ l must b).map (·.1)
 | [], _, _, _ => by simp only [kb_]
 | e :: r, must, a, b => by simp only [kb_]; exact rb_ e must a b
theorem td_ : ∀ (l : List E) (must a b : Int), (pt_ l must a).map (·.1) = (pt_ l must b).map (·.1)
 | [], _, _, _ => by simp only [pt_]
 | e :: r, must, a, b => by simp only [pt_]; exact js_ r must _ _
end
theorem ee_ (e : E) (must a : Int) : (src e must a).map (·.1) = wds e must := rb_ e must a 0
theorem cw_ {e : E} (h : e.kind = 1) (must : Int) : wds e must = [Go.Lib.decDigits e.n.toNat] := by
 cases e; simp only [E.kind] at h; subst h; simp [wds, src, E.n]
theorem ci_ {e : E} (h : e.kind = 2) (must : Int) : wds e must = [e.s] := by
 cases e; simp only [E.kind] at h; subst h; simp [wds, src, E.s]
theorem hd_ {e : E} (h : e.kind = 3) (hl : e.kids.length = 2) (must nx : Int) : src e must nx = brk (decide (bk_ e.s < must)) (src (e.kids.getD 0 E0) (max 2 (bk_ e.s)) (nx + 1) ++ (e.s, nx) :: src (e.kids.getD 1 E0) (bk_ e.s + 1) (nx + 1 + cnt (e.kids.getD 0 E0))) := by
 cases e with
 | mk k n s kids =>
  simp only [E.kind] at h; subst h
  simp only [E.kids] at hl
  match kids, hl with
  | [a, b], _ => simp [src, kb_, pt_, E.s, E.kids]; rfl
theorem g4_ {e : E} (h : e.kind = 3) (hl : e.kids.length = 2) (must : Int) : wds e must = if bk_ e.s < must then [[40]] ++ (wds (e.kids.getD 0 E0) (max 2 (bk_ e.s)) ++ [e.s] ++ wds (e.kids.getD 1 E0) (bk_ e.s + 1)) ++ [[41]] else wds (e.kids.getD 0 E0) (max 2 (bk_ e.s)) ++ [e.s] ++ wds (e.kids.getD 1 E0) (bk_ e.s + 1) := by
 rw [wds, hd_ h hl, g9_]
 simp only [T3_, List.map_append, List.map_cons, ee_, List.append_assoc, List.cons_append, List.nil_append]
theorem ka_ {e : E} (h : e.kind = 4) (hl : e.kids.length = 1) (must nx : Int) : src e must nx = src (e.kids.getD 0 E0) 4 nx ++ [([97, 115], -1), (e.s, -1)] := by
 cases e with
 | mk k n s kids =>
  simp only [E.kind] at h; subst h
  simp only [E.kids] at hl
  match kids, hl with
  | [a], _ => simp [src, kb_, E.s, E.kids]
theorem j1_ {e : E} (h : e.kind = 4) (hl : e.kids.length = 1) (must : Int) : wds e must = wds (e.kids.getD 0 E0) 4 ++ [[97, 115], e.s] := by
 rw [wds, ka_ h hl]; simp only [List.map_append, List.map_cons, List.map_nil, ee_]
theorem op_ {e : E} (h : e.kind = 3) (hl : e.kids.length = 2) : cnt e = 1 + cnt (e.kids.getD 0 E0) + cnt (e.kids.getD 1 E0) := by
 cases e with
 | mk k n s kids =>
  simp only [E.kind] at h; subst h
  simp only [E.kids] at hl
  match kids, hl with
  | [a, b], _ => simp [cnt, ki_, E.kids]; omega
theorem rs_ {e : E} (h : e.kind = 4) (hl : e.kids.length = 1) : cnt e = cnt (e.kids.getD 0 E0) := by
 cases e with
 | mk k n s kids =>
  simp only [E.kind] at h; subst h
  simp only [E.kids] at hl
  match kids, hl with
  | [a], _ => simp [cnt, ki_, E.kids]
theorem bd_ {e : E} {d : Int} (h : form e d = true) : 1 ≤ d ∧
    ((e.kind = 1 ∧ 0 ≤ e.n ∧ e.n ≤ 1000000 ∧ e.s = [] ∧ e.kids = []) ∨ (e.kind = 2 ∧ e.n = 0 ∧ ir_ e.s = true ∧ e.kids = []) ∨
     (e.kind = 3 ∧ e.n = 0 ∧ ei_ e.s = true ∧ e.kids.length = 2 ∧ form (e.kids.getD 0 E0) (d - 1) = true ∧ form (e.kids.getD 1 E0) (d - 1) = true) ∨
     (e.kind = 4 ∧ e.n = 0 ∧ dx_ e.s = true ∧ e.kids.length = 1 ∧ form (e.kids.getD 0 E0) (d - 1) = true)) := by
  cases e with
  | mk k n s kids =>
    simp only [form, T5_, T3_] at h
    obtain ⟨⟨h1, h2⟩, h3⟩ := h
    refine ⟨h1, ?_⟩
    simp only [E.kind, E.n, E.s, E.kids]
    have hm := gb_ h3
    unfold shape at h2
    by_cases k1 : k = 1
    · subst k1; simp at h2; exact .inl ⟨rfl, h2.1.1.1, h2.1.1.2, h2.1.2, h2.2⟩
    by_cases k2 : k = 2
    · subst k2; simp at h2; exact .inr (.inl ⟨rfl, h2.1.1, h2.1.2, h2.2⟩)
    by_cases k3 : k = 3
    · subst k3; simp at h2
      exact .inr (.inr (.inl ⟨rfl, h2.1.1, h2.1.2, h2.2, hm _ (ba_ (by omega)), hm _ (ba_ (by omega))⟩))
    by_cases k4 : k = 4
    · subst k4; simp at h2
      exact .inr (.inr (.inr ⟨rfl, h2.1.1, h2.1.2, h2.2, hm _ (ba_ (by omega))⟩))
    · simp [k1, k2, k3, k4] at h2
theorem sg_ {e : E} (h : e.kids.length = 2) : e.kids = [e.kids.getD 0 E0, e.kids.getD 1 E0] := by
 match hk : e.kids, h with
 | [a, b], _ => rfl
theorem qx_ {e : E} (h : e.kids.length = 1) : e.kids = [e.kids.getD 0 E0] := by
 match hk : e.kids, h with
 | [a], _ => rfl
theorem fu_ (e : E) {d : Int} (h : 1 ≤ d) : many e d = 1 + bx_ e.kids (d - 1) := by
 cases e; simp only [many, E.kids]; rw [if_pos (by omega)]
theorem ib_ {e : E} {d : Int} (h : 1 ≤ d) (hl : e.kids.length = 2) : many e d = 1 + many (e.kids.getD 0 E0) (d - 1) + many (e.kids.getD 1 E0) (d - 1) := by
 rw [fu_ e h, sg_ hl]; simp only [bx_, List.getD_cons_zero, List.getD_cons_succ]; omega
theorem h9_ {e : E} {d : Int} (h : 1 ≤ d) (hl : e.kids.length = 1) : many e d = 1 + many (e.kids.getD 0 E0) (d - 1) := by
 rw [fu_ e h, qx_ hl]; simp only [bx_, List.getD_cons_zero]; omega
theorem is_ {n : Nat} (h : n ≤ 1000000) : (Go.Lib.decDigits n).length ≤ 7 := by
 have key : ∀ (k n : Nat), n < 10 ^ k → 0 < k → (Go.Lib.decDigits n).length ≤ k := by
  intro k
  induction k with
  | zero => intro n _ h; omega
  | succ k ih =>
   intro n hn _
   by_cases h1 : n < 10
   ·rw [Go.Lib.decDigits_one h1]; simp
   ·rw [Go.Lib.decDigits, dif_neg h1]
    have h2 : n / 10 < 10 ^ k := by rw [Nat.pow_succ] at hn; omega
    have h3 : 0 < k := by
     rcases Nat.eq_zero_or_pos k with rfl | h3
     ·simp at hn; omega
     ·exact h3
    have := ih (n / 10) h2 h3
    simp; omega
 exact key 7 n (by omega) (by decide)
theorem kt_ {s : Str} (h : ir_ s = true) : 1 ≤ s.length ∧ s.length ≤ 8 := by
 simp only [ir_, fa_, T5_, T3_] at h; omega
theorem lt_ {s : Str} (h : ei_ s = true) : s.length = 1 := by
 simp only [ei_, Bool.or_eq_true, beq_iff_eq] at h; rcases h with ((h | h) | h) | h <;> subst h <;> rfl
theorem i0_ {s : Str} (h : dx_ s = true) : s.length ≤ 4 ∧ 1 ≤ s.length := by
 simp only [dx_, Bool.or_eq_true, beq_iff_eq] at h; rcases h with h | h <;> subst h <;> decide
theorem eh_ {s : Str} (h : ei_ s = true) : 1 ≤ bk_ s ∧ bk_ s ≤ 3 := by
 simp only [ei_, Bool.or_eq_true, beq_iff_eq] at h; rcases h with ((h | h) | h) | h <;> subst h <;> decide
theorem cq_ : ∀ (d : Nat) (e : E) (must : Int), form e d = true → 1 ≤ (wds e must).length ∧ ((wds e must).length : Int) ≤ 3 * many e d ∧ (∀ s ∈ wds e must, 1 ≤ s.length ∧ s.length ≤ 8) ∧ 1 ≤ cnt e ∧ cnt e ≤ many e d
 | 0, e, must, h => by have := (bd_ h).1; omega
 | d + 1, e, must, h => by
  have e1 : ((d + 1 : Nat) : Int) - 1 = (d : Int) := by omega
  have hd : (1 : Int) ≤ ((d + 1 : Nat) : Int) := by omega
  rcases (bd_ h).2 with ⟨k1, h1, h2, h3, h4⟩ | ⟨k1, h1, h2, h3⟩ | ⟨k1, h1, h2, h3, h4, h5⟩ | ⟨k1, h1, h2, h3, h4⟩
  ·have hm : many e ((d + 1 : Nat) : Int) = 1 := by rw [fu_ e hd, h4]; simp [bx_]
   have hc : cnt e = 1 := by cases e; simp only [E.kind, E.kids] at k1 h4; subst k1 h4; simp [cnt, ki_]
   rw [cw_ k1, hm, hc]
   have := is_ (n := e.n.toNat) (by omega)
   have h0 := List.length_pos_iff.2 (decDigits_ne' e.n.toNat)
   simp; omega
  ·have hm : many e ((d + 1 : Nat) : Int) = 1 := by rw [fu_ e hd, h3]; simp [bx_]
   have hc : cnt e = 1 := by cases e; simp only [E.kind, E.kids] at k1 h3; subst k1 h3; simp [cnt, ki_]
   have := kt_ h2
   rw [ci_ k1, hm, hc]; simp; omega
  ·rw [e1] at h4 h5
   obtain ⟨a1, a2, a3, a4, a5⟩ := cq_ d (e.kids.getD 0 E0) (max 2 (bk_ e.s)) h4
   obtain ⟨b1, b2, b3, b4, b5⟩ := cq_ d (e.kids.getD 1 E0) (bk_ e.s + 1) h5
   have hm := ib_ hd h3
   rw [e1] at hm
   have hl := lt_ h2
   rw [g4_ k1 h3, hm, op_ k1 h3]
   refine ⟨by split <;> simp <;> omega, ?_, ?_, by omega, by omega⟩
   ·split <;> simp only [T2_, T7_, List.length_nil] <;> omega
   ·intro s hs
    have key : s ∈ wds (e.kids.getD 0 E0) (max 2 (bk_ e.s)) ++ [e.s] ++ wds (e.kids.getD 1 E0) (bk_ e.s + 1) → 1 ≤ s.length ∧ s.length ≤ 8 := fun hs => by
     simp only [List.mem_append, List.mem_singleton] at hs
     rcases hs with (hs | hs) | hs
     ·exact a3 s hs
     ·rw [hs, hl]; omega
     ·exact b3 s hs
    split at hs
    ·rcases List.mem_append.1 hs with hs | hs
     ·rcases List.mem_append.1 hs with hs | hs
      ·simp at hs; subst hs; simp
      ·exact key hs
     ·simp at hs; subst hs; simp
    ·exact key hs
  ·rw [e1] at h4
   obtain ⟨a1, a2, a3, a4, a5⟩ := cq_ d (e.kids.getD 0 E0) 4 h4
   have hm := h9_ hd h3
   rw [e1] at hm
   have hl := i0_ h2
   rw [j1_ k1 h3, hm, rs_ k1 h3]
   refine ⟨by simp, by simp only [T2_, T7_, List.length_nil]; omega, ?_, by omega, by omega⟩
   intro s hs
   simp only [List.mem_append, List.mem_cons, List.not_mem_nil, or_false] at hs
   rcases hs with hs | hs | hs
   ·exact a3 s hs
   ·subst hs; simp
   ·rw [hs]; omega
where
 decDigits_ne' (n : Nat) : Go.Lib.decDigits n ≠ [] := by
  by_cases h : n < 10
  ·rw [Go.Lib.decDigits_one h]; simp
  ·rw [Go.Lib.decDigits, dif_neg h]; simp
theorem cg_ {e : E} (h : eok e = true) (must : Int) : 1 ≤ (wds e must).length ∧ (wds e must).length ≤ 36 ∧ ∀ s ∈ wds e must, 1 ≤ s.length ∧ s.length ≤ 8 := by
 have := cq_ 5 e must (b6_ h)
 have h2 := hs_ h
 have h3 : many e ((5 : Nat) : Int) = many e 5 := rfl
 rw [h3] at this
 exact ⟨this.1, by omega, this.2.2.1⟩
end
section
structure Bl where
 kind : Int
 name : Str
 expr : E
 thn : E
structure Sl where
 kind : Int
 name : Str
 type : Str
 expr : E
 thn : E
def wEq : Str := [61]
def eq_ : Str := [112, 114, 105, 110, 116]
def wIf : Str := [105, 102]
def s7_ : Str := [58]
def y3_ : Str := [108, 101, 116]
def yo_ : Str := [115, 97, 121]
def w1_ : Str := [119, 104, 101, 110]
def jf_ (e : E) : Bool := same e E0
def pe (e : E) : Bool := eok e && pla e
def bw (b : Bl) : List Str :=
 if b.kind = 1 then b.name :: wEq :: wds b.expr 1
 else if b.kind = 2 then eq_ :: wds b.expr 1
 else if b.kind = 3 then wIf :: wds b.expr 1 ++ s7_ :: eq_ :: wds b.thn 1
 else []
def ca_ (b : Bl) : Bool :=
 if b.kind = 0 then b.name == [] && jf_ b.expr && jf_ b.thn
 else if b.kind = 1 then ir_ b.name && pe b.expr && jf_ b.thn
 else if b.kind = 2 then b.name == [] && pe b.expr && jf_ b.thn
 else if b.kind = 3 then b.name == [] && pe b.expr && pe b.thn
 else false
def bok (b : Bl) : Bool := ca_ b && decide ((bt_ (bw b)).length ≤ 120)
def bof (s : Sl) : Bl := ⟨s.kind, s.name, if s.kind = 0 then E0 else bare s.expr, if s.kind = 3 then bare s.thn else E0⟩
def B0 : Bl := ⟨0, [], E0, E0⟩
def S0 : Sl := ⟨0, [], [], E0, E0⟩
theorem df_ {e : E} (h : pe e = true) : eok e = true := by simp only [pe, T5_] at h; exact h.1
theorem q3_ (e : E) : (eok e && same (bare e) e) = pe e := by
 unfold pe
 cases h : eok e with
 | false => rfl
 | true => rw [o5_ (h1_ h)]
theorem nt_ (s x : Str) (l : List Str) : [(32 : UInt8)].intercalate (s :: x :: l) = s ++ 32 :: [(32 : UInt8)].intercalate (x :: l) := by
 simp [List.intercalate]
theorem dl_ (s x : Str) (l : List Str) : bt_ (s :: x :: l) = s ++ 32 :: bt_ (x :: l) := nt_ s x l
theorem d0_ (s : Str) : bt_ [s] = s := by simp [bt_, List.intercalate]
theorem da_ : bt_ [] = [] := rfl
theorem dz_ : ∀ l : List Str, l ≠ [] → (bt_ l).length + 1 = (l.map List.length).sum + l.length
 | [], h => absurd rfl h
 | [s], _ => by rw [d0_]; simp
 | s :: x :: l, _ => by
  have := dz_ (x :: l) (by simp)
  rw [dl_]
  simp only [T2_, T7_, List.map_cons, List.sum_cons] at this ⊢
  omega
theorem vl_ {l : List Str} {k : Nat} (h : ∀ s ∈ l, s.length ≤ k) : (l.map List.length).sum ≤ l.length * k := by
 induction l with
 | nil => simp
 | cons a r ih =>
  have h1 := h a (by simp)
  have h2 := ih fun s hs => h s (by simp [hs])
  simp only [List.map_cons, List.sum_cons, T7_, Nat.add_mul]; omega
theorem ng_ {l : List Str} {k : Nat} (h : ∀ s ∈ l, s.length ≤ k) : (bt_ l).length ≤ l.length * (k + 1) := by
 by_cases hl : l = []
 ·subst hl; simp [da_]
 ·have h1 := dz_ l hl
  have h2 := vl_ h
  rw [Nat.mul_add]; omega
theorem ot_ {b : Bl} (h : ca_ b = true) : (bw b).length ≤ 76 ∧ ∀ s ∈ bw b, 1 ≤ s.length ∧ s.length ≤ 8 := by
 unfold ca_ at h
 unfold bw
 by_cases k0 : b.kind = 0
 ·simp [k0]
 by_cases k1 : b.kind = 1
 ·simp [k1] at h
  have h1 := cg_ (df_ h.1.2) 1
  have h2 := kt_ h.1.1
  simp only [k1, if_true]
  refine ⟨by simp; omega, fun s hs => ?_⟩
  rcases List.mem_cons.1 hs with rfl | hs
  ·exact h2
  rcases List.mem_cons.1 hs with rfl | hs
  ·decide
  ·exact h1.2.2 s hs
 by_cases k2 : b.kind = 2
 ·simp [k2] at h
  have h1 := cg_ (df_ h.1.2) 1
  simp only [k2, if_true]
  refine ⟨by simp; omega, fun s hs => ?_⟩
  simp only [show ¬ (2 : Int) = 1 by omega, if_false] at hs
  rcases List.mem_cons.1 hs with rfl | hs
  ·decide
  ·exact h1.2.2 s hs
 by_cases k3 : b.kind = 3
 ·simp [k3] at h
  have h1 := cg_ (df_ h.1.2) 1
  have h2 := cg_ (df_ h.2) 1
  simp only [k3, if_true]
  refine ⟨by simp; omega, fun s hs => ?_⟩
  simp only [show ¬ (3 : Int) = 1 by omega, show ¬ (3 : Int) = 2 by omega, if_false] at hs
  rcases List.mem_append.1 hs with hs | hs
  ·rcases List.mem_cons.1 hs with rfl | hs
   ·decide
   ·exact h1.2.2 s hs
  ·rcases List.mem_cons.1 hs with rfl | hs
   ·decide
   rcases List.mem_cons.1 hs with rfl | hs
   ·decide
   ·exact h2.2.2 s hs
 ·simp [k0, k1, k2, k3] at h
theorem g6_ {e : E} {d : Int} (h : form e d = true) : wds e 0 = wds e 1 := by
 rcases (bd_ h).2 with ⟨k1, _⟩ | ⟨k1, _⟩ | ⟨k1, h1, h2, h3, _⟩ | ⟨k1, h1, h2, h3, _⟩
 ·rw [cw_ k1, cw_ k1]
 ·rw [ci_ k1, ci_ k1]
 ·have := eh_ h2
  rw [g4_ k1 h3, g4_ k1 h3, if_neg (by omega), if_neg (by omega)]
 ·rw [j1_ k1 h3, j1_ k1 h3]
end
end Go.Proofs.YtpikbndepapbhabGreatDoor
