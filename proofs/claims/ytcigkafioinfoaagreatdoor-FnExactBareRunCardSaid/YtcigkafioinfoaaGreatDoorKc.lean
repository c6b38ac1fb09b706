/- The plain functions that the Go functions compute. Conditions: none. -/
import Derived.Test.YtcigkafioinfoaaGreatDoorKa
import Derived.Lib.ItoaMem
import Derived.Lib.AtoiAll
set_option linter.unusedVariables false
set_option linter.unusedSimpArgs false
namespace Go.Proofs.YtcigkafioinfoaaGreatDoor
section
def bo_ (s : Str) : Int := if s == [60] then 1 else if s == [43] || s == [45] then 2 else if s == [42] then 3 else 0
def f3_ (s : Str) : Bool := s == [105, 110, 116] || s == [98, 111, 111, 108]
def g7_ (s : Str) : Bool := s == [43] || s == [45] || s == [42] || s == [60]
def j2_ (s : Str) : Bool := s == [108, 101, 116] || s == [115, 97, 121] || s == [119, 104, 101, 110] || s == [97, 115] || s == [112, 114, 105, 110, 116] || s == [105, 102] || f3_ s
def iy_ (c : UInt8) : Bool := decide (97 ≤ (c.toNat : Int)) && decide ((c.toNat : Int) ≤ 122)
def ih_ (s : Str) : Bool := s.all iy_ && decide (1 ≤ s.length) && decide (s.length ≤ 8)
def na_ (s : Str) : Bool := ih_ s && !j2_ s
def shape (k n : Int) (s : Str) (m : Nat) : Bool :=
 if k == 1 then decide (0 ≤ n) && decide (n ≤ 1000000) && s.isEmpty && m == 0
 else if k == 2 then n == 0 && na_ s && m == 0
 else if k == 3 then n == 0 && g7_ s && m == 2
 else if k == 4 then n == 0 && f3_ s && m == 1
 else false
mutual
def form : E → Int → Bool
 | .mk k n s kids, d => decide (1 ≤ d) && shape k n s kids.length && c1_ kids (d - 1)
def c1_ : List E → Int → Bool
 | [], _ => true
 | e :: r, d => form e d && c1_ r d
end
mutual
def many : E → Int → Int
 | .mk _ _ _ kids, d => 1 + if 0 < d then cq_ kids (d - 1) else 0
def cq_ : List E → Int → Int
 | [], _ => 0
 | e :: r, d => many e d + cq_ r d
end
mutual
def wlk : E → Int → Int → Bool × Int
 | .mk k n s kids, d, p => if 5 < d ∨ 12 < p + 1 then (false, p + 1) else if shape k n s kids.length then d5_ kids (d + 1) (p + 1) else (false, p + 1)
def d5_ : List E → Int → Int → Bool × Int
 | [], _, p => (true, p)
 | e :: r, d, p => if (wlk e d p).1 then d5_ r d (wlk e d p).2 else (false, (wlk e d p).2)
end
def same : E → E → Bool
 | .mk k n s kids, y => match y with
  | .mk k' n' s' kids' => (k == k') && (n == n') && (s == s') && sameL kids kids'
where sameL : List E → List E → Bool
 | [], [] => true
 | x :: r, y :: t => same x y && sameL r t
 | _, _ => false
theorem it_ (x y : E) : same x y = ((x.kind == y.kind) && (x.n == y.n) && (x.s == y.s) && same.sameL x.kids y.kids) := by
 cases x; cases y; simp only [same, E.kind, E.n, E.s, E.kids]
mutual
def bare : E → E
 | .mk k n s kids => if k = 4 then p2_ kids (.mk k n s []) else .mk k n s (de_ kids)
def p2_ : List E → E → E
 | [], d => d
 | e :: _, _ => bare e
def de_ : List E → List E
 | [] => []
 | e :: r => bare e :: de_ r
end
abbrev Wd := List (Str × Int)
mutual
def cnt : E → Int
 | .mk k _ _ kids => if k = 4 then m8_ kids else 1 + m8_ kids
def m8_ : List E → Int
 | [] => 0
 | e :: r => cnt e + m8_ r
end
def brk (b : Bool) (l : Wd) : Wd := if b then ([40], -1) :: (l ++ [([41], -1)]) else l
mutual
def src : E → Int → Int → Wd
 | .mk k n s kids, must, nx =>
  if k = 1 then [(Go.Lib.decDigits n.toNat, nx)]
  else if k = 2 then [(s, nx)]
  else if k = 3 then brk (decide (bo_ s < must)) (os_ kids (max 2 (bo_ s)) (nx + 1) ++ (s, nx) :: vd_ kids (bo_ s + 1) (nx + 1))
  else if k = 4 then os_ kids 4 nx ++ [([97, 115], -1), (s, -1)]
  else []
def os_ : List E → Int → Int → Wd
 | [], _, _ => []
 | e :: _, must, nx => src e must nx
def vd_ : List E → Int → Int → Wd
 | [], _, _ => []
 | e :: r, must, nx => os_ r must (nx + cnt e)
end
def wds (e : E) (must : Int) : List Str := (src e must 0).map (·.1)
def ce_ (l : List Str) : Str := [(32 : UInt8)].intercalate l
def sidx (l : List Str) (s : Str) : Int := if s ∈ l then (l.idxOf s : Int) else -1
end
section
open Go.Lib
theorem hp_ {n : Nat} (h : ¬ n < 10) : decDigits n = decDigits (n / 10) ++ [UInt8.ofNat (48 + n % 10)] := by
 rw [decDigits, dif_neg h]
end
section
theorem m6_ {kids : List E} {k : Nat} (h : k < kids.length) (d : Int) : c1_ (kids.drop k) d = (form kids[k] d && c1_ (kids.drop (k+1)) d) := by
 rw [List.drop_eq_getElem_cons h]; simp only [c1_]
theorem vq_ {kids : List E} {k : Nat} (h : kids.length ≤ k) (d : Int) : c1_ (kids.drop k) d = true := by
 rw [List.drop_of_length_le h]; simp only [c1_]
theorem uo_ {k n : Int} {s : Str} {m : Nat} (h : shape k n s m = true) (hm : m ≠ 0) : k = 3 ∧ n = 0 ∧ m = 2 ∧ g7_ s = true ∨ k = 4 ∧ n = 0 ∧ m = 1 ∧ f3_ s = true := by
 unfold shape at h
 by_cases k1 : k = 1
 ·subst k1; simp at h; omega
 by_cases k2 : k = 2
 ·subst k2; simp at h; omega
 by_cases k3 : k = 3
 ·subst k3; simp at h; exact .inl ⟨rfl, h.1.1, h.2, h.1.2⟩
 by_cases k4 : k = 4
 ·subst k4; simp at h; exact .inr ⟨rfl, h.1.1, h.2, h.1.2⟩
 ·simp [k1, k2, k3, k4] at h
theorem mp_ {kids : List E} {k : Nat} (h : k < kids.length) (d : Int) : cq_ (kids.drop k) d = many kids[k] d + cq_ (kids.drop (k+1)) d := by
 rw [List.drop_eq_getElem_cons h]; simp only [cq_]
theorem ur_ {kids : List E} {k : Nat} (h : kids.length ≤ k) (d : Int) : cq_ (kids.drop k) d = 0 := by
 rw [List.drop_of_length_le h]; simp only [cq_]
mutual
theorem k5_ : ∀ (e : E) (d : Nat), form e d = true → 1 ≤ many e d ∧ many e d ≤ 2 ^ d - 1
 | .mk k n s kids, 0, h => by simp [form] at h
 | .mk k n s kids, d + 1, h => by
  simp only [form, T5_, T3_] at h
  obtain ⟨⟨_, h2⟩, h3⟩ := h
  have h4 : kids.length ≤ 2 := by
   by_cases hk : kids.length = 0
   ·omega
   ·rcases uo_ h2 hk with ⟨_, _, h, _⟩ | ⟨_, _, h, _⟩ <;> omega
  have e1 : ((d + 1 : Nat) : Int) - 1 = (d : Int) := by omega
  rw [e1] at h3
  have := jc_ kids d h3
  simp only [many]
  rw [if_pos (by omega), e1]
  have h5 : (kids.length : Int) * (2 ^ d - 1) ≤ 2 * (2 ^ d - 1) := Int.mul_le_mul_of_nonneg_right (by omega) (by have : (0 : Int) < 2 ^ d := Int.pow_pos (by decide); omega)
  have h6 : (2 : Int) ^ (d + 1) = 2 * 2 ^ d := by rw [Int.pow_succ]; omega
  omega
theorem jc_ : ∀ (l : List E) (d : Nat), c1_ l d = true → 0 ≤ cq_ l d ∧ cq_ l d ≤ l.length * (2 ^ d - 1)
 | [], d, _ => by simp [cq_]
 | e :: r, d, h => by
  simp only [c1_, T5_] at h
  have h1 := k5_ e d h.1
  have h2 := jc_ r d h.2
  simp only [cq_, T7_]
  have : ((r.length + 1 : Nat) : Int) * (2 ^ d - 1) = r.length * (2 ^ d - 1) + (2 ^ d - 1) := by rw [Int.natCast_add, Int.add_mul]; simp
  omega
end
theorem st_ {l : List E} {d : Int} : ∀ (j : Nat), c1_ l d = true → c1_ (l.drop j) d = true := by
 induction l with
 | nil => intro j h; simpa using h
 | cons e r ih =>
  intro j h
  cases j with
  | zero => simpa using h
  | succ j => simp only [c1_, T5_] at h; simpa using ih j h.2
theorem j5_ {l : List E} {d : Int} (h : c1_ l d = true) : ∀ e ∈ l, form e d = true := by
 induction l with
 | nil => intro e he; cases he
 | cons x r ih =>
  simp only [c1_, T5_] at h
  intro e he
  rcases List.mem_cons.1 he with rfl | he
  ·exact h.1
  ·exact ih h.2 e he
theorem u7_ (s : Str) : decide (0 < bo_ s) = g7_ s := by
 unfold bo_ g7_
 by_cases h1 : s = [60]
 ·subst h1; rfl
 by_cases h2 : s = [43]
 ·subst h2; rfl
 by_cases h3 : s = [45]
 ·subst h3; rfl
 by_cases h4 : s = [42]
 ·subst h4; rfl
 ·simp [h1, h2, h3, h4]
mutual
theorem zh_ : ∀ (e : E) (d p : Int), (wlk e d p).1 = true → p < (wlk e d p).2 ∧ (wlk e d p).2 ≤ 12
 | .mk k n s kids, d, p, h => by
  simp only [wlk] at h ⊢
  by_cases h1 : 5 < d ∨ 12 < p + 1
  ·rw [if_pos h1] at h; cases h
  ·rw [if_neg h1] at h ⊢
   by_cases h2 : shape k n s kids.length = true
   ·rw [if_pos h2] at h ⊢
    have := s7_ kids (d + 1) (p + 1) (by omega) h
    omega
   ·rw [if_neg h2] at h; cases h
theorem s7_ : ∀ (l : List E) (d p : Int), p ≤ 12 → (d5_ l d p).1 = true → p ≤ (d5_ l d p).2 ∧ (d5_ l d p).2 ≤ 12
 | [], d, p, hp, _ => by simp only [d5_]; omega
 | e :: r, d, p, hp, h => by
  simp only [d5_] at h ⊢
  by_cases h1 : (wlk e d p).1 = true
  ·rw [if_pos h1] at h ⊢
   have h2 := zh_ e d p h1
   have h3 := s7_ r d _ h2.2 h
   omega
  ·rw [if_neg h1] at h; cases h
end
theorem n7_ {kids : List E} {k : Nat} (h : k < kids.length) (d p : Int) : d5_ (kids.drop k) d p = if (wlk kids[k] d p).1 then d5_ (kids.drop (k+1)) d (wlk kids[k] d p).2 else (false, (wlk kids[k] d p).2) := by
 rw [List.drop_eq_getElem_cons h]; simp only [d5_]
theorem v1_ {kids : List E} {k : Nat} (h : kids.length ≤ k) (d p : Int) : d5_ (kids.drop k) d p = (true, p) := by
 rw [List.drop_of_length_le h]; simp only [d5_]
def eok (e : E) : Bool := form e 5 && decide (many e 5 ≤ 12)
mutual
theorem p1_ : ∀ (e : E) (dd : Nat) (p : Int), dd ≤ 5 → p ≤ 12 →
  (wlk e (6 - dd) p).1 = (form e dd && decide (p + many e dd ≤ 12)) ∧ ((form e dd && decide (p + many e dd ≤ 12)) = true → (wlk e (6 - dd) p).2 = p + many e dd)
 | .mk k n s kids, 0, p, hd, hp => by
  have h : form (.mk k n s kids) ((0 : Nat) : Int) = false := by simp [form]
  rw [h]
  simp only [wlk]
  rw [if_pos (by omega)]
  simp
 | .mk k n s kids, dd + 1, p, hd, hp => by
  have e1 : (6 : Int) - ((dd + 1 : Nat) : Int) + 1 = 6 - (dd : Int) := by omega
  have e2 : (((dd + 1 : Nat) : Int)) - 1 = (dd : Int) := by omega
  have hml := k5_ (.mk k n s kids) (dd + 1)
  by_cases h1 : 12 < p + 1
  ·have hw : wlk (.mk k n s kids) (6 - ((dd + 1 : Nat) : Int)) p = (false, p + 1) := by simp only [wlk]; rw [if_pos (.inr h1)]
   rw [hw]
   have : (form (.mk k n s kids) ((dd + 1 : Nat) : Int) && decide (p + many (.mk k n s kids) ((dd + 1 : Nat) : Int) ≤ 12)) = false := by
    rw [Bool.eq_false_iff]; intro h
    simp only [T5_, T3_] at h
    have := hml h.1; omega
   rw [this]; simp
  ·have hf : form (.mk k n s kids) ((dd + 1 : Nat) : Int) = (shape k n s kids.length && c1_ kids (dd : Int)) := by
    simp only [form]; rw [e2, show decide ((1 : Int) ≤ ((dd + 1 : Nat) : Int)) = true by simp; omega]; rfl
   have hm : many (.mk k n s kids) ((dd + 1 : Nat) : Int) = 1 + cq_ kids (dd : Int) := by
    simp only [many]; rw [if_pos (by omega), e2]
   have hw : wlk (.mk k n s kids) (6 - ((dd + 1 : Nat) : Int)) p = if shape k n s kids.length then d5_ kids (6 - (dd : Int)) (p + 1) else (false, p + 1) := by
    simp only [wlk]; rw [if_neg (by omega), e1]
   rw [hf, hm, hw]
   cases hs : shape k n s kids.length with
   | false => simp
   | true =>
    have := lr_ kids dd (p + 1) (by omega) (by omega)
    rw [if_pos rfl, Bool.true_and, show p + (1 + cq_ kids (dd : Int)) = p + 1 + cq_ kids (dd : Int) by omega]
    exact this
theorem lr_ : ∀ (l : List E) (dd : Nat) (p : Int), dd ≤ 5 → p ≤ 12 →
  (d5_ l (6 - dd) p).1 = (c1_ l dd && decide (p + cq_ l dd ≤ 12)) ∧ ((c1_ l dd && decide (p + cq_ l dd ≤ 12)) = true → (d5_ l (6 - dd) p).2 = p + cq_ l dd)
 | [], dd, p, hd, hp => by simp [d5_, c1_, cq_, hp]
 | e :: r, dd, p, hd, hp => by
  obtain ⟨h1, h2⟩ := p1_ e dd p hd hp
  rw [show c1_ (e :: r) (dd : Int) = (form e dd && c1_ r dd) by simp only [c1_], show cq_ (e :: r) (dd : Int) = many e dd + cq_ r dd by simp only [cq_],
   show d5_ (e :: r) (6 - (dd : Int)) p = if (wlk e (6 - (dd : Int)) p).1 then d5_ r (6 - (dd : Int)) (wlk e (6 - (dd : Int)) p).2 else (false, (wlk e (6 - (dd : Int)) p).2) by simp only [d5_]]
  by_cases hw : (form e dd && decide (p + many e dd ≤ 12)) = true
  ·have hw1 := h1.trans hw
   have hw2 := h2 hw
   simp only [T5_, T3_] at hw
   rw [if_pos hw1, hw2, hw.1, Bool.true_and, show p + (many e dd + cq_ r dd) = p + many e dd + cq_ r dd by omega]
   exact lr_ r dd _ hd hw.2
  ·have hw1 : (wlk e (6 - (dd : Int)) p).1 = false := by rw [h1]; simpa using hw
   have : (form e (dd : Int) && c1_ r (dd : Int) && decide (p + (many e dd + cq_ r dd) ≤ 12)) = false := by
    rw [Bool.eq_false_iff]; intro h
    simp only [T5_, T3_] at h hw
    have := jc_ r dd h.1.2
    exact hw ⟨h.1.1, by omega⟩
   rw [hw1, this]; simp
end
theorem aa6_ (e : E) : (wlk e 1 0).1 = eok e := by
 have := (p1_ e 5 0 (by omega) (by omega)).1
 rw [show (6 : Int) - ((5 : Nat) : Int) = 1 by omega] at this
 rw [this]; unfold eok; simp
end
section
def E0 : E := .mk 0 0 [] []
theorem E.ind' {P : E → Prop} (h : ∀ e, (∀ x ∈ e.kids, P x) → P e) (e : E) : P e := E.ind (fun k n s kids ih => h _ ih) e
theorem bw_ {α : Type} {l : List α} {k : Nat} {d : α} (h : k < l.length) : l.getD k d ∈ l := by
 simp [T8_, T6_ h]
mutual
def sm : E → Bool
 | .mk _ _ s kids => decide (s.length < 4611686018427387904) && decide (kids.length < 1099511627776) && sms kids
def sms : List E → Bool
 | [] => true
 | e :: r => sm e && sms r
end
theorem cj_ : ∀ {l : List E}, sms l = true → ∀ e ∈ l, sm e = true
 | [], _, e, he => by cases he
 | x :: l, h, e, he => by
  simp only [sms, T5_] at h
  rcases List.mem_cons.1 he with rfl | he
  ·exact h.1
  ·exact cj_ h.2 e he
theorem c6_ {e : E} (h : sm e = true) : e.s.length < 4611686018427387904 ∧ e.kids.length < 4611686018427387904 ∧ sms e.kids = true := by
 cases e; simp only [sm, T5_, T3_] at h; exact ⟨h.1.1, Nat.lt_trans h.1.2 (by decide), h.2⟩
theorem t7_ {e : E} (h : sm e = true) : e.kids.length < 1099511627776 := by
 cases e; simp only [sm, T5_, T3_] at h; exact h.1.2
theorem ep_ {l : List E} {k : Nat} (h : k < l.length) : l.getD k E0 = l[k] := by simp [T8_, T6_ h]
theorem jl_ (e : E) (d : Int) : form e d = (decide (1 ≤ d) && shape e.kind e.n e.s e.kids.length && c1_ e.kids (d - 1)) := by cases e; simp only [form, E.kind, E.n, E.s, E.kids]
mutual
def wf : E → Bool
 | .mk k _ _ kids => (k != 4 || !kids.isEmpty) && wfs kids
def wfs : List E → Bool
 | [] => true
 | e :: r => wf e && wfs r
end
theorem pe_ : ∀ {l : List E}, wfs l = true → ∀ e ∈ l, wf e = true
 | [], _, e, he => by cases he
 | x :: l, h, e, he => by
  simp only [wfs, T5_] at h
  rcases List.mem_cons.1 he with rfl | he
  ·exact h.1
  ·exact pe_ h.2 e he
theorem aao_ {e : E} (h : wf e = true) : (e.kind = 4 → 0 < e.kids.length) ∧ wfs e.kids = true := by
 cases e with
 | mk k n s kids =>
  simp only [wf, T5_] at h
  refine ⟨fun hk => ?_, h.2⟩
  simp only [E.kind] at hk
  subst hk
  have := h.1
  simp only [E.kids]
  cases kids with
  | nil => simp at this
  | cons a b => simp
theorem nu_ {e : E} (h : e.kind = 4) (hk : 0 < e.kids.length) : bare e = bare (e.kids.getD 0 E0) := by
 cases e with
 | mk k n s kids =>
  simp only [E.kind] at h
  simp only [E.kids] at hk
  subst h
  cases kids with
  | nil => simp at hk
  | cons a b => simp [bare, p2_, E.kids]
theorem jo_ {e : E} (h : e.kind ≠ 4) : bare e = .mk e.kind e.n e.s (de_ e.kids) := by
 cases e with
 | mk k n s kids => simp only [E.kind] at h; simp [bare, h, E.kind, E.n, E.s, E.kids]
theorem fm_ : ∀ l : List E, (de_ l).length = l.length
 | [] => by simp [de_]
 | e :: r => by simp [de_, fm_ r]
theorem jz_ : ∀ l : List E, de_ l = l.map bare
 | [] => by simp [de_]
 | e :: r => by simp [de_, jz_ r]
theorem ss_ {l : List E} {k : Nat} (h : k < l.length) : de_ (l.take (k + 1)) = de_ (l.take k) ++ [bare (l.getD k E0)] := by
 rw [jz_, jz_, List.take_add_one, T6_ h, T8_, T6_ h, List.map_append]
 rfl
mutual
def pla : E → Bool
 | .mk k _ _ kids => k != 4 && ho_ kids
def ho_ : List E → Bool
 | [] => true
 | e :: r => pla e && ho_ r
end
theorem mb_ (e : E) : pla e = (e.kind != 4 && ho_ e.kids) := by cases e; simp only [pla, E.kind, E.kids]
end
section
mutual
theorem fv_ : ∀ x y : E, same x y = true ↔ x = y
 | .mk k n s kids, .mk k' n' s' kids' => by
  have := ns_ kids kids'
  simp only [same, T5_, beq_iff_eq, this, E.mk.injEq, and_assoc]
theorem ns_ : ∀ x y : List E, same.sameL x y = true ↔ x = y
 | [], [] => by simp [same.sameL]
 | [], _ :: _ => by simp [same.sameL]
 | _ :: _, [] => by simp [same.sameL]
 | x :: xs, y :: ys => by
  have h1 := fv_ x y
  have h2 := ns_ xs ys
  simp only [same.sameL, T5_, h1, h2, List.cons.injEq]
end
theorem vv_ (x : E) : same x x = true := (fv_ x x).2 rfl
instance : DecidableEq E := fun x y => if h : same x y = true then isTrue ((fv_ x y).1 h) else isFalse fun e => h ((fv_ x y).2 e)
mutual
theorem qe_ : ∀ e : E, pla e = true → bare e = e
 | .mk k n s kids, h => by
  simp only [pla, T5_, bne_iff_ne, ne_eq] at h
  simp only [bare, if_neg h.1, mg_ kids h.2]
theorem mg_ : ∀ l : List E, ho_ l = true → de_ l = l
 | [], _ => by simp only [de_]
 | e :: r, h => by
  simp only [ho_, T5_] at h
  simp only [de_, qe_ e h.1, mg_ r h.2]
end
mutual
theorem hm_ : ∀ e : E, wf e = true → pla (bare e) = true
 | .mk k n s kids, h => by
  simp only [wf, T5_] at h
  simp only [bare]
  by_cases hk : k = 4
  ·rw [if_pos hk]
   cases kids with
   | nil => simp [hk] at h
   | cons a r =>
    simp only [p2_]
    simp only [wfs, T5_] at h
    exact hm_ a h.2.1
  ·rw [if_neg hk]
   simp only [pla, T5_, bne_iff_ne, ne_eq]
   exact ⟨hk, me_ kids h.2⟩
theorem me_ : ∀ l : List E, wfs l = true → ho_ (de_ l) = true
 | [], _ => by simp only [de_, ho_]
 | e :: r, h => by
  simp only [wfs, T5_] at h
  simp only [de_, ho_, hm_ e h.1, me_ r h.2, Bool.and_self]
end
theorem u1_ {e : E} (h : wf e = true) : same (bare e) e = pla e := by
 rw [Bool.eq_iff_iff, fv_]
 constructor
 ·intro he; have := hm_ e h; rwa [he] at this
 ·exact qe_ e
theorem sm_ {k n : Int} {s : Str} {m : Nat} (h : shape k n s m = true) : k = 4 → 0 < m := by
 rintro rfl; simp [shape] at h; omega
mutual
theorem t8_ : ∀ (e : E) (d : Int), form e d = true → wf e = true
 | .mk k n s kids, d, h => by
  simp only [form, T5_] at h
  have h1 := sm_ h.1.2
  simp only [wf, T5_, Bool.or_eq_true, bne_iff_ne, ne_eq, Bool.not_eq_true', List.isEmpty_eq_false_iff]
  refine ⟨?_, n1_ kids _ h.2⟩
  by_cases hk : k = 4
  ·right; intro e; have := h1 hk; simp [e] at this
  ·exact .inl hk
theorem n1_ : ∀ (l : List E) (d : Int), c1_ l d = true → wfs l = true
 | [], _, _ => by simp only [wfs]
 | e :: r, d, h => by
  simp only [c1_, T5_] at h
  simp only [wfs, t8_ e d h.1, n1_ r d h.2, Bool.and_self]
end
theorem b1_ {e : E} (h : eok e = true) : form e 5 = true := by simp only [eok, T5_] at h; exact h.1
theorem iv_ {e : E} (h : eok e = true) : many e 5 ≤ 12 := by simp only [eok, T5_, T3_] at h; exact h.2
theorem hl_ {e : E} (h : eok e = true) : wf e = true := t8_ e 5 (b1_ h)
theorem k7_ (b : Bool) (l : Wd) : (brk b l).map (·.1) = if b then [[40]] ++ l.map (·.1) ++ [[41]] else l.map (·.1) := by
 unfold brk; cases b <;> simp
mutual
theorem w2_ : ∀ (e : E) (must a b : Int), (src e must a).map (·.1) = (src e must b).map (·.1)
 | .mk k n s kids, must, a, b => by
  simp only [src]
  by_cases k1 : k = 1
  ·rw [if_pos k1, if_pos k1]; rfl
  by_cases k2 : k = 2
  ·rw [if_neg k1, if_neg k1, if_pos k2, if_pos k2]; rfl
  by_cases k3 : k = 3
  ·rw [if_neg k1, if_neg k1, if_neg k2, if_neg k2, if_pos k3, if_pos k3, k7_, k7_]
   simp only [List.map_append, List.map_cons, pg_ kids (max 2 (bo_ s)) (a + 1) (b + 1), aap_ kids (bo_ s + 1) (a + 1) (b + 1)]
  by_cases k4 : k = 4
  ·rw [if_neg k1, if_neg k1, if_neg k2, if_neg k2, if_neg k3, if_neg k3, if_pos k4, if_pos k4]
   simp only [List.map_append, pg_ kids 4 a b]
  ·rw [if_neg k1, if_neg k1, if_neg k2, if_neg k2, if_neg k3, if_neg k3, if_neg k4, if_neg k4]
theorem pg_ : ∀ (l : List E) (must a b : Int), (os_ l must a).map (·.1) = (os_ l must b).map (·.1)
 | [], _, _, _ => by simp only [os_]
 | e :: r, must, a, b => by simp only [os_]; exact w2_ e must a b
theorem aap_ : ∀ (l : List E) (must a b : Int), (vd_ l must a).map (·.1) = (vd_ l must b).map (·.1)
 | [], _, _, _ => by simp only [vd_]
 | e :: r, must, a, b => by simp only [vd_]; exact pg_ r must _ _
end
theorem dz_ (e : E) (must a : Int) : (src e must a).map (·.1) = wds e must := w2_ e must a 0
theorem d8_ {e : E} (h : e.kind = 1) (must : Int) : wds e must = [Go.Lib.decDigits e.n.toNat] := by
 cases e; simp only [E.kind] at h; subst h; simp [wds, src, E.n]
theorem do_ {e : E} (h : e.kind = 2) (must : Int) : wds e must = [e.s] := by
 cases e; simp only [E.kind] at h; subst h; simp [wds, src, E.s]
theorem f6_ {e : E} (h : e.kind = 3) (hl : e.kids.length = 2) (must nx : Int) : src e must nx = brk (decide (bo_ e.s < must)) (src (e.kids.getD 0 E0) (max 2 (bo_ e.s)) (nx + 1) ++ (e.s, nx) :: src (e.kids.getD 1 E0) (bo_ e.s + 1) (nx + 1 + cnt (e.kids.getD 0 E0))) := by
 cases e with
 | mk k n s kids =>
  simp only [E.kind] at h; subst h
  simp only [E.kids] at hl
  match kids, hl with
  | [a, b], _ => simp [src, os_, vd_, E.s, E.kids]; rfl
theorem k6_ {e : E} (h : e.kind = 3) (hl : e.kids.length = 2) (must : Int) : wds e must = if bo_ e.s < must then [[40]] ++ (wds (e.kids.getD 0 E0) (max 2 (bo_ e.s)) ++ [e.s] ++ wds (e.kids.getD 1 E0) (bo_ e.s + 1)) ++ [[41]] else wds (e.kids.getD 0 E0) (max 2 (bo_ e.s)) ++ [e.s] ++ wds (e.kids.getD 1 E0) (bo_ e.s + 1) := by
 rw [wds, f6_ h hl, k7_]
 simp only [T3_, List.map_append, List.map_cons, dz_, List.append_assoc, List.cons_append, List.nil_append]
theorem j6_ {e : E} (h : e.kind = 4) (hl : e.kids.length = 1) (must nx : Int) : src e must nx = src (e.kids.getD 0 E0) 4 nx ++ [([97, 115], -1), (e.s, -1)] := by
 cases e with
 | mk k n s kids =>
  simp only [E.kind] at h; subst h
  simp only [E.kids] at hl
  match kids, hl with
  | [a], _ => simp [src, os_, E.s, E.kids]
theorem ox_ {e : E} (h : e.kind = 4) (hl : e.kids.length = 1) (must : Int) : wds e must = wds (e.kids.getD 0 E0) 4 ++ [[97, 115], e.s] := by
 rw [wds, j6_ h hl]; simp only [List.map_append, List.map_cons, List.map_nil, dz_]
theorem io_ {e : E} (h : e.kind = 3) (hl : e.kids.length = 2) : cnt e = 1 + cnt (e.kids.getD 0 E0) + cnt (e.kids.getD 1 E0) := by
 cases e with
 | mk k n s kids =>
  simp only [E.kind] at h; subst h
  simp only [E.kids] at hl
  match kids, hl with
  | [a, b], _ => simp [cnt, m8_, E.kids]; omega
theorem om_ {e : E} (h : e.kind = 4) (hl : e.kids.length = 1) : cnt e = cnt (e.kids.getD 0 E0) := by
 cases e with
 | mk k n s kids =>
  simp only [E.kind] at h; subst h
  simp only [E.kids] at hl
  match kids, hl with
  | [a], _ => simp [cnt, m8_, E.kids]
theorem bt_ {e : E} {d : Int} (h : form e d = true) : 1 ≤ d ∧
    ((e.kind = 1 ∧ 0 ≤ e.n ∧ e.n ≤ 1000000 ∧ e.s = [] ∧ e.kids = []) ∨ (e.kind = 2 ∧ e.n = 0 ∧ na_ e.s = true ∧ e.kids = []) ∨
     (e.kind = 3 ∧ e.n = 0 ∧ g7_ e.s = true ∧ e.kids.length = 2 ∧ form (e.kids.getD 0 E0) (d - 1) = true ∧ form (e.kids.getD 1 E0) (d - 1) = true) ∨
     (e.kind = 4 ∧ e.n = 0 ∧ f3_ e.s = true ∧ e.kids.length = 1 ∧ form (e.kids.getD 0 E0) (d - 1) = true)) := by
  cases e with
  | mk k n s kids =>
    simp only [form, T5_, T3_] at h
    obtain ⟨⟨h1, h2⟩, h3⟩ := h
    refine ⟨h1, ?_⟩
    simp only [E.kind, E.n, E.s, E.kids]
    have hm := j5_ h3
    unfold shape at h2
    by_cases k1 : k = 1
    · subst k1; simp at h2; exact .inl ⟨rfl, h2.1.1.1, h2.1.1.2, h2.1.2, h2.2⟩
    by_cases k2 : k = 2
    · subst k2; simp at h2; exact .inr (.inl ⟨rfl, h2.1.1, h2.1.2, h2.2⟩)
    by_cases k3 : k = 3
    · subst k3; simp at h2
      exact .inr (.inr (.inl ⟨rfl, h2.1.1, h2.1.2, h2.2, hm _ (bw_ (by omega)), hm _ (bw_ (by omega))⟩))
    by_cases k4 : k = 4
    · subst k4; simp at h2
      exact .inr (.inr (.inr ⟨rfl, h2.1.1, h2.1.2, h2.2, hm _ (bw_ (by omega))⟩))
    · simp [k1, k2, k3, k4] at h2
theorem my_ {e : E} (h : e.kids.length = 2) : e.kids = [e.kids.getD 0 E0, e.kids.getD 1 E0] := by
 match hk : e.kids, h with
 | [a, b], _ => rfl
theorem yx_ {e : E} (h : e.kids.length = 1) : e.kids = [e.kids.getD 0 E0] := by
 match hk : e.kids, h with
 | [a], _ => rfl
theorem ir_ (e : E) {d : Int} (h : 1 ≤ d) : many e d = 1 + cq_ e.kids (d - 1) := by
 cases e; simp only [many, E.kids]; rw [if_pos (by omega)]
theorem gu_ {e : E} {d : Int} (h : 1 ≤ d) (hl : e.kids.length = 2) : many e d = 1 + many (e.kids.getD 0 E0) (d - 1) + many (e.kids.getD 1 E0) (d - 1) := by
 rw [ir_ e h, my_ hl]; simp only [cq_, List.getD_cons_zero, List.getD_cons_succ]; omega
theorem hq_ {e : E} {d : Int} (h : 1 ≤ d) (hl : e.kids.length = 1) : many e d = 1 + many (e.kids.getD 0 E0) (d - 1) := by
 rw [ir_ e h, yx_ hl]; simp only [cq_, List.getD_cons_zero]; omega
theorem nc_ {n : Nat} (h : n ≤ 1000000) : (Go.Lib.decDigits n).length ≤ 7 := by
 have key : ∀ (k n : Nat), n < 10 ^ k → 0 < k → (Go.Lib.decDigits n).length ≤ k := by
  intro k
  induction k with
  | zero => intro n _ h; omega
  | succ k ih =>
   intro n hn _
   by_cases h1 : n < 10
   ·rw [Go.Lib.decDigits_one h1]; simp
   ·rw [Go.Lib.decDigits, dif_neg h1]
    have h2 : n / 10 < 10 ^ k := by rw [Nat.pow_succ] at hn; omega
    have h3 : 0 < k := by
     rcases Nat.eq_zero_or_pos k with rfl | h3
     ·simp at hn; omega
     ·exact h3
    have := ih (n / 10) h2 h3
    simp; omega
 exact key 7 n (by omega) (by decide)
theorem lv_ {s : Str} (h : na_ s = true) : 1 ≤ s.length ∧ s.length ≤ 8 := by
 simp only [na_, ih_, T5_, T3_] at h; omega
theorem xx_ {s : Str} (h : g7_ s = true) : s.length = 1 := by
 simp only [g7_, Bool.or_eq_true, beq_iff_eq] at h; rcases h with ((h | h) | h) | h <;> subst h <;> rfl
theorem ng_ {s : Str} (h : f3_ s = true) : s.length ≤ 4 ∧ 1 ≤ s.length := by
 simp only [f3_, Bool.or_eq_true, beq_iff_eq] at h; rcases h with h | h <;> subst h <;> decide
theorem d0_ {s : Str} (h : g7_ s = true) : 1 ≤ bo_ s ∧ bo_ s ≤ 3 := by
 simp only [g7_, Bool.or_eq_true, beq_iff_eq] at h; rcases h with ((h | h) | h) | h <;> subst h <;> decide
theorem cx_ : ∀ (d : Nat) (e : E) (must : Int), form e d = true → 1 ≤ (wds e must).length ∧ ((wds e must).length : Int) ≤ 3 * many e d ∧ (∀ s ∈ wds e must, 1 ≤ s.length ∧ s.length ≤ 8) ∧ 1 ≤ cnt e ∧ cnt e ≤ many e d
 | 0, e, must, h => by have := (bt_ h).1; omega
 | d + 1, e, must, h => by
  have e1 : ((d + 1 : Nat) : Int) - 1 = (d : Int) := by omega
  have hd : (1 : Int) ≤ ((d + 1 : Nat) : Int) := by omega
  rcases (bt_ h).2 with ⟨k1, h1, h2, h3, h4⟩ | ⟨k1, h1, h2, h3⟩ | ⟨k1, h1, h2, h3, h4, h5⟩ | ⟨k1, h1, h2, h3, h4⟩
  ·have hm : many e ((d + 1 : Nat) : Int) = 1 := by rw [ir_ e hd, h4]; simp [cq_]
   have hc : cnt e = 1 := by cases e; simp only [E.kind, E.kids] at k1 h4; subst k1 h4; simp [cnt, m8_]
   rw [d8_ k1, hm, hc]
   have := nc_ (n := e.n.toNat) (by omega)
   have h0 := List.length_pos_iff.2 (decDigits_ne' e.n.toNat)
   simp; omega
  ·have hm : many e ((d + 1 : Nat) : Int) = 1 := by rw [ir_ e hd, h3]; simp [cq_]
   have hc : cnt e = 1 := by cases e; simp only [E.kind, E.kids] at k1 h3; subst k1 h3; simp [cnt, m8_]
   have := lv_ h2
   rw [do_ k1, hm, hc]; simp; omega
  ·rw [e1] at h4 h5
   obtain ⟨a1, a2, a3, a4, a5⟩ := cx_ d (e.kids.getD 0 E0) (max 2 (bo_ e.s)) h4
   obtain ⟨b1, b2, b3, b4, b5⟩ := cx_ d (e.kids.getD 1 E0) (bo_ e.s + 1) h5
   have hm := gu_ hd h3
   rw [e1] at hm
   have hl := xx_ h2
   rw [k6_ k1 h3, hm, io_ k1 h3]
   refine ⟨by split <;> simp <;> omega, ?_, ?_, by omega, by omega⟩
   ·split <;> simp only [T2_, T7_, List.length_nil] <;> omega
   ·intro s hs
    have key : s ∈ wds (e.kids.getD 0 E0) (max 2 (bo_ e.s)) ++ [e.s] ++ wds (e.kids.getD 1 E0) (bo_ e.s + 1) → 1 ≤ s.length ∧ s.length ≤ 8 := fun hs => by
     simp only [List.mem_append, List.mem_singleton] at hs
     rcases hs with (hs | hs) | hs
     ·exact a3 s hs
     ·rw [hs, hl]; omega
     ·exact b3 s hs
    split at hs
    ·rcases List.mem_append.1 hs with hs | hs
     ·rcases List.mem_append.1 hs with hs | hs
      ·simp at hs; subst hs; simp
      ·exact key hs
     ·simp at hs; subst hs; simp
    ·exact key hs
  ·rw [e1] at h4
   obtain ⟨a1, a2, a3, a4, a5⟩ := cx_ d (e.kids.getD 0 E0) 4 h4
   have hm := hq_ hd h3
   rw [e1] at hm
   have hl := ng_ h2
   rw [ox_ k1 h3, hm, om_ k1 h3]
   refine ⟨by simp, by simp only [T2_, T7_, List.length_nil]; omega, ?_, by omega, by omega⟩
   intro s hs
   simp only [List.mem_append, List.mem_cons, List.not_mem_nil, or_false] at hs
   rcases hs with hs | hs | hs
   ·exact a3 s hs
   ·subst hs; simp
   ·rw [hs]; omega
where
 decDigits_ne' (n : Nat) : Go.Lib.decDigits n ≠ [] := by
  by_cases h : n < 10
  ·rw [Go.Lib.decDigits_one h]; simp
  ·rw [Go.Lib.decDigits, dif_neg h]; simp
theorem cg_ {e : E} (h : eok e = true) (must : Int) : 1 ≤ (wds e must).length ∧ (wds e must).length ≤ 36 ∧ ∀ s ∈ wds e must, 1 ≤ s.length ∧ s.length ≤ 8 := by
 have := cx_ 5 e must (b1_ h)
 have h2 := iv_ h
 have h3 : many e ((5 : Nat) : Int) = many e 5 := rfl
 rw [h3] at this
 exact ⟨this.1, by omega, this.2.2.1⟩
end
section
structure Bl where
 kind : Int
 name : Str
 expr : E
 thn : E
structure Sl where
 kind : Int
 name : Str
 type : Str
 expr : E
 thn : E
def wEq : Str := [61]
def d6_ : Str := [112, 114, 105, 110, 116]
def wIf : Str := [105, 102]
def jv_ : Str := [58]
def vh_ : Str := [108, 101, 116]
def g5_ : Str := [115, 97, 121]
def g3_ : Str := [119, 104, 101, 110]
def g2_ (e : E) : Bool := same e E0
def pe (e : E) : Bool := eok e && pla e
def bw (b : Bl) : List Str :=
 if b.kind = 1 then b.name :: wEq :: wds b.expr 1
 else if b.kind = 2 then d6_ :: wds b.expr 1
 else if b.kind = 3 then wIf :: wds b.expr 1 ++ jv_ :: d6_ :: wds b.thn 1
 else []
def sw' (s : Sl) : List Str :=
 if s.kind = 1 then vh_ :: s.name :: jv_ :: s.type :: wEq :: wds s.expr 1
 else if s.kind = 2 then g5_ :: wds s.expr 1
 else if s.kind = 3 then g3_ :: wds s.expr 1 ++ g5_ :: wds s.thn 1
 else []
def cz_ (b : Bl) : Bool :=
 if b.kind = 0 then b.name == [] && g2_ b.expr && g2_ b.thn
 else if b.kind = 1 then na_ b.name && pe b.expr && g2_ b.thn
 else if b.kind = 2 then b.name == [] && pe b.expr && g2_ b.thn
 else if b.kind = 3 then b.name == [] && pe b.expr && pe b.thn
 else false
def bok (b : Bl) : Bool := cz_ b && decide ((ce_ (bw b)).length ≤ 120)
def cs_ (s : Sl) : Bool :=
 if s.kind = 0 then s.name == [] && s.type == [] && g2_ s.expr && g2_ s.thn
 else if s.kind = 1 then na_ s.name && f3_ s.type && eok s.expr && g2_ s.thn
 else if s.kind = 2 then s.name == [] && s.type == [] && eok s.expr && g2_ s.thn
 else if s.kind = 3 then s.name == [] && s.type == [] && eok s.expr && eok s.thn
 else false
def sok (s : Sl) : Bool := cs_ s && decide ((ce_ (sw' s)).length ≤ 116)
def gc_ (a b : Bl) : Bool := a.kind == b.kind && a.name == b.name && same a.expr b.expr && same a.thn b.thn
def bof (s : Sl) : Bl := ⟨s.kind, s.name, if s.kind = 0 then E0 else bare s.expr, if s.kind = 3 then bare s.thn else E0⟩
def B0 : Bl := ⟨0, [], E0, E0⟩
def S0 : Sl := ⟨0, [], [], E0, E0⟩
theorem vk_ (a b : Bl) : gc_ a b = true ↔ a = b := by
 cases a; cases b; simp only [gc_, T5_, beq_iff_eq, fv_, Bl.mk.injEq, and_assoc]
theorem en_ (e : E) : g2_ e = true ↔ e = E0 := fv_ e E0
theorem lu_ : g2_ E0 = true := (en_ E0).2 rfl
theorem e2_ {e : E} (h : pe e = true) : eok e = true := by simp only [pe, T5_] at h; exact h.1
theorem x6_ (e : E) : (eok e && same (bare e) e) = pe e := by
 unfold pe
 cases h : eok e with
 | false => rfl
 | true => rw [u1_ (hl_ h)]
theorem r7_ (s x : Str) (l : List Str) : [(32 : UInt8)].intercalate (s :: x :: l) = s ++ 32 :: [(32 : UInt8)].intercalate (x :: l) := by
 simp [List.intercalate]
theorem fc_ (s x : Str) (l : List Str) : ce_ (s :: x :: l) = s ++ 32 :: ce_ (x :: l) := r7_ s x l
theorem f2_ (s : Str) : ce_ [s] = s := by simp [ce_, List.intercalate]
theorem e1_ : ce_ [] = [] := rfl
theorem f5_ : ∀ l : List Str, l ≠ [] → (ce_ l).length + 1 = (l.map List.length).sum + l.length
 | [], h => absurd rfl h
 | [s], _ => by rw [f2_]; simp
 | s :: x :: l, _ => by
  have := f5_ (x :: l) (by simp)
  rw [fc_]
  simp only [T2_, T7_, List.map_cons, List.sum_cons] at this ⊢
  omega
theorem xn_ {l : List Str} {k : Nat} (h : ∀ s ∈ l, s.length ≤ k) : (l.map List.length).sum ≤ l.length * k := by
 induction l with
 | nil => simp
 | cons a r ih =>
  have h1 := h a (by simp)
  have h2 := ih fun s hs => h s (by simp [hs])
  simp only [List.map_cons, List.sum_cons, T7_, Nat.add_mul]; omega
theorem ma_ {l : List Str} {k : Nat} (h : ∀ s ∈ l, s.length ≤ k) : (ce_ l).length ≤ l.length * (k + 1) := by
 by_cases hl : l = []
 ·subst hl; simp [e1_]
 ·have h1 := f5_ l hl
  have h2 := xn_ h
  rw [Nat.mul_add]; omega
theorem kj_ {b : Bl} (h : cz_ b = true) : (bw b).length ≤ 76 ∧ ∀ s ∈ bw b, 1 ≤ s.length ∧ s.length ≤ 8 := by
 unfold cz_ at h
 unfold bw
 by_cases k0 : b.kind = 0
 ·simp [k0]
 by_cases k1 : b.kind = 1
 ·simp [k1] at h
  have h1 := cg_ (e2_ h.1.2) 1
  have h2 := lv_ h.1.1
  simp only [k1, if_true]
  refine ⟨by simp; omega, fun s hs => ?_⟩
  rcases List.mem_cons.1 hs with rfl | hs
  ·exact h2
  rcases List.mem_cons.1 hs with rfl | hs
  ·decide
  ·exact h1.2.2 s hs
 by_cases k2 : b.kind = 2
 ·simp [k2] at h
  have h1 := cg_ (e2_ h.1.2) 1
  simp only [k2, if_true]
  refine ⟨by simp; omega, fun s hs => ?_⟩
  simp only [show ¬ (2 : Int) = 1 by omega, if_false] at hs
  rcases List.mem_cons.1 hs with rfl | hs
  ·decide
  ·exact h1.2.2 s hs
 by_cases k3 : b.kind = 3
 ·simp [k3] at h
  have h1 := cg_ (e2_ h.1.2) 1
  have h2 := cg_ (e2_ h.2) 1
  simp only [k3, if_true]
  refine ⟨by simp; omega, fun s hs => ?_⟩
  simp only [show ¬ (3 : Int) = 1 by omega, show ¬ (3 : Int) = 2 by omega, if_false] at hs
  rcases List.mem_append.1 hs with hs | hs
  ·rcases List.mem_cons.1 hs with rfl | hs
   ·decide
   ·exact h1.2.2 s hs
  ·rcases List.mem_cons.1 hs with rfl | hs
   ·decide
   rcases List.mem_cons.1 hs with rfl | hs
   ·decide
   ·exact h2.2.2 s hs
 ·simp [k0, k1, k2, k3] at h
theorem mi_ {b : Sl} (h : cs_ b = true) : (sw' b).length ≤ 76 ∧ ∀ s ∈ sw' b, 1 ≤ s.length ∧ s.length ≤ 8 := by
 unfold cs_ at h
 unfold sw'
 by_cases k0 : b.kind = 0
 ·simp [k0]
 by_cases k1 : b.kind = 1
 ·simp [k1] at h
  have h1 := cg_ h.1.2 1
  have h2 := lv_ h.1.1.1
  have h3 := ng_ h.1.1.2
  simp only [k1, if_true]
  refine ⟨by simp; omega, fun s hs => ?_⟩
  rcases List.mem_cons.1 hs with rfl | hs
  ·decide
  rcases List.mem_cons.1 hs with rfl | hs
  ·exact h2
  rcases List.mem_cons.1 hs with rfl | hs
  ·decide
  rcases List.mem_cons.1 hs with rfl | hs
  ·omega
  rcases List.mem_cons.1 hs with rfl | hs
  ·decide
  ·exact h1.2.2 s hs
 by_cases k2 : b.kind = 2
 ·simp [k2] at h
  have h1 := cg_ h.1.2 1
  simp only [k2, if_true]
  refine ⟨by simp; omega, fun s hs => ?_⟩
  simp only [show ¬ (2 : Int) = 1 by omega, if_false] at hs
  rcases List.mem_cons.1 hs with rfl | hs
  ·decide
  ·exact h1.2.2 s hs
 by_cases k3 : b.kind = 3
 ·simp [k3] at h
  have h1 := cg_ h.1.2 1
  have h2 := cg_ h.2 1
  simp only [k3, if_true]
  refine ⟨by simp; omega, fun s hs => ?_⟩
  simp only [show ¬ (3 : Int) = 1 by omega, show ¬ (3 : Int) = 2 by omega, if_false] at hs
  rcases List.mem_append.1 hs with hs | hs
  ·rcases List.mem_cons.1 hs with rfl | hs
   ·decide
   ·exact h1.2.2 s hs
  ·rcases List.mem_cons.1 hs with rfl | hs
   ·decide
   ·exact h2.2.2 s hs
 ·simp [k0, k1, k2, k3] at h
theorem ff_ {e : E} {d : Int} (h : form e d = true) : wds e 0 = wds e 1 := by
 rcases (bt_ h).2 with ⟨k1, _⟩ | ⟨k1, _⟩ | ⟨k1, h1, h2, h3, _⟩ | ⟨k1, h1, h2, h3, _⟩
 ·rw [d8_ k1, d8_ k1]
 ·rw [do_ k1, do_ k1]
 ·have := d0_ h2
  rw [k6_ k1 h3, k6_ k1 h3, if_neg (by omega), if_neg (by omega)]
 ·rw [ox_ k1 h3, ox_ k1 h3]
end
end Go.Proofs.YtcigkafioinfoaaGreatDoor
