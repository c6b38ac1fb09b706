/- The plain functions that the Go functions compute. Conditions: none. -/
import Derived.Test.YtefmbmafdgedmaaGreatDoorMa
import Derived.Lib.ItoaMem
import Derived.Lib.AtoiAll
set_option linter.unusedVariables false
set_option linter.unusedSimpArgs false
namespace Go.Proofs.YtefmbmafdgedmaaGreatDoor
section
def bb_ (s : Str) : Int := if s == [60] then 1 else if s == [43] || s == [45] then 2 else if s == [42] then 3 else 0
def ef_ (s : Str) : Bool := s == [105, 110, 116] || s == [98, 111, 111, 108]
def gn_ (s : Str) : Bool := s == [43] || s == [45] || s == [42] || s == [60]
def ku_ (s : Str) : Bool := s == [108, 101, 116] || s == [115, 97, 121] || s == [119, 104, 101, 110] || s == [97, 115] || s == [112, 114, 105, 110, 116] || s == [105, 102] || ef_ s
def cf_ (c : UInt8) : Bool := decide (97 ≤ (c.toNat : Int)) && decide ((c.toNat : Int) ≤ 122)
def b7_ (c : UInt8) : Bool := decide (48 ≤ (c.toNat : Int)) && decide ((c.toNat : Int) ≤ 57)
def dq_ (s : Str) : Bool := s.all cf_ && decide (1 ≤ s.length) && decide (s.length ≤ 8)
def hy_ (s : Str) : Bool := dq_ s && !ku_ s
def shape (k n : Int) (s : Str) (m : Nat) : Bool :=
 if k == 1 then decide (0 ≤ n) && decide (n ≤ 1000000) && s.isEmpty && m == 0
 else if k == 2 then n == 0 && hy_ s && m == 0
 else if k == 3 then n == 0 && gn_ s && m == 2
 else if k == 4 then n == 0 && ef_ s && m == 1
 else false
mutual
def form : E → Int → Bool
 | .mk k n s kids, d => decide (1 ≤ d) && shape k n s kids.length && ce_ kids (d - 1)
def ce_ : List E → Int → Bool
 | [], _ => true
 | e :: r, d => form e d && ce_ r d
end
mutual
def many : E → Int → Int
 | .mk _ _ _ kids, d => 1 + if 0 < d then cb_ kids (d - 1) else 0
def cb_ : List E → Int → Int
 | [], _ => 0
 | e :: r, d => many e d + cb_ r d
end
mutual
def wlk : E → Int → Int → Bool × Int
 | .mk k n s kids, d, p => if 5 < d ∨ 12 < p + 1 then (false, p + 1) else if shape k n s kids.length then d6_ kids (d + 1) (p + 1) else (false, p + 1)
def d6_ : List E → Int → Int → Bool × Int
 | [], _, p => (true, p)
 | e :: r, d, p => if (wlk e d p).1 then d6_ r d (wlk e d p).2 else (false, (wlk e d p).2)
end
def same : E → E → Bool
 | .mk k n s kids, y => match y with
  | .mk k' n' s' kids' => (k == k') && (n == n') && (s == s') && sameL kids kids'
where sameL : List E → List E → Bool
 | [], [] => true
 | x :: r, y :: t => same x y && sameL r t
 | _, _ => false
theorem k2_ (x y : E) : same x y = ((x.kind == y.kind) && (x.n == y.n) && (x.s == y.s) && same.sameL x.kids y.kids) := by
 cases x; cases y; simp only [same, E.kind, E.n, E.s, E.kids]
mutual
def bare : E → E
 | .mk k n s kids => if k = 4 then rg_ kids (.mk k n s []) else .mk k n s (dp_ kids)
def rg_ : List E → E → E
 | [], d => d
 | e :: _, _ => bare e
def dp_ : List E → List E
 | [] => []
 | e :: r => bare e :: dp_ r
end
abbrev Wd := List (Str × Int)
mutual
def cnt : E → Int
 | .mk k _ _ kids => if k = 4 then m6_ kids else 1 + m6_ kids
def m6_ : List E → Int
 | [] => 0
 | e :: r => cnt e + m6_ r
end
def brk (b : Bool) (l : Wd) : Wd := if b then ([40], -1) :: (l ++ [([41], -1)]) else l
mutual
def src : E → Int → Int → Wd
 | .mk k n s kids, must, nx =>
  if k = 1 then [(Go.Lib.decDigits n.toNat, nx)]
  else if k = 2 then [(s, nx)]
  else if k = 3 then brk (decide (bb_ s < must)) (py_ kids (max 2 (bb_ s)) (nx + 1) ++ (s, nx) :: wd_ kids (bb_ s + 1) (nx + 1))
  else if k = 4 then py_ kids 4 nx ++ [([97, 115], -1), (s, -1)]
  else []
def py_ : List E → Int → Int → Wd
 | [], _, _ => []
 | e :: _, must, nx => src e must nx
def wd_ : List E → Int → Int → Wd
 | [], _, _ => []
 | e :: r, must, nx => py_ r must (nx + cnt e)
end
def wds (e : E) (must : Int) : List Str := (src e must 0).map (·.1)
def br_ (l : List Str) : Str := [(32 : UInt8)].intercalate l
def sidx (l : List Str) (s : Str) : Int := if s ∈ l then (l.idxOf s : Int) else -1
end
section
open Go.Lib
def d8_ (a : Nat) (c : UInt8) : Nat := a * 10 + (c.toNat - 48)
def b2_ (l : Str) : Nat := l.foldl d8_ 0
def de_ (l : Str) : Bool := decide (b2_ l ≤ 1000000) && (decDigits (b2_ l) == l)
def e6_ (c : UInt8) : Prop := 48 ≤ c.toNat ∧ c.toNat ≤ 57
theorem ms_ {d : Nat} (h : d < 10) : (UInt8.ofNat (48 + d)).toNat = 48 + d := by
 rw [UInt8.toNat_ofNat']; omega
theorem cx_ {n : Nat} (h : ¬ n < 10) : decDigits n = decDigits (n / 10) ++ [UInt8.ofNat (48 + n % 10)] := by
 rw [decDigits, dif_neg h]
theorem db_ : ∀ n : Nat, ∀ c ∈ decDigits n, e6_ c := by
 intro n
 induction n using Nat.strongRecOn with
 | ind n ih =>
  intro c hc
  by_cases h : n < 10
  ·rw [decDigits_one h] at hc
   simp only [List.mem_singleton] at hc
   subst hc; unfold e6_; rw [ms_ h]; omega
  ·rw [cx_ h] at hc
   rcases List.mem_append.1 hc with hc | hc
   ·exact ih _ (by omega) c hc
   ·simp only [List.mem_singleton] at hc
    subst hc; unfold e6_; rw [ms_ (by omega)]; omega
theorem fy_ (l : Str) (c : UInt8) : b2_ (l ++ [c]) = b2_ l * 10 + (c.toNat - 48) := by simp [b2_, d8_]
theorem c3_ (n : Nat) : b2_ (decDigits n) = n := by
 induction n using Nat.strongRecOn with
 | ind n ih =>
  by_cases h : n < 10
  ·rw [decDigits_one h]
   show 0 * 10 + ((UInt8.ofNat (48 + n)).toNat - 48) = n
   rw [ms_ h]; omega
  ·rw [cx_ h, fy_, ih _ (by omega), ms_ (by omega)]; omega
theorem e7_ (n : Nat) : decDigits n ≠ [] := by
 by_cases h : n < 10
 ·rw [decDigits_one h]; simp
 ·rw [cx_ h]; simp
theorem p3_ : ∀ (l : Str) (a : Nat), a ≤ l.foldl d8_ a
 | [], a => Nat.le_refl _
 | c :: r, a => Nat.le_trans (by unfold d8_; omega) (p3_ r (d8_ a c))
theorem i4_ : ∀ (l : Str) (a : Nat), (∀ c ∈ l, e6_ c) → l.foldl d8_ a ≤ 1000000 → parseUint10 a l = .ok (l.foldl d8_ a)
 | [], a, _, _ => rfl
 | c :: r, a, h, hl => by
  have hc := h c (by simp)
  have h1 := p3_ r (d8_ a c)
  have h2 : d8_ a c ≤ 1000000 := Nat.le_trans h1 hl
  unfold e6_ at hc
  rw [parseUint10, if_pos hc, if_neg (by unfold d8_ at h2; omega), if_neg (by unfold d8_ at h2; omega)]
  exact i4_ r _ (fun x hx => h x (by simp [hx])) hl
theorem fi_ {n : Nat} (h : n ≤ 1000000) : atoiAll (decDigits n) = .ok (n : Int) := by
 have hd := db_ n
 have hv := c3_ n
 cases hl : decDigits n with
 | nil => exact absurd hl (e7_ n)
 | cons c r =>
  rw [hl] at hd hv
  have hc := hd c (by simp)
  unfold e6_ at hc
  have hp : parseMag (c :: r) = .ok n := by
   unfold parseMag
   rw [if_neg (by simp), i4_ _ _ hd (by unfold b2_ at hv; omega)]
   exact congrArg _ hv
  simp only [atoiAll]
  rw [if_neg (by omega), hp]
  simp only []
  rw [if_neg (by omega), if_neg (by omega), if_neg (by omega)]
theorem da_ {l : Str} : de_ l = true ↔ ∃ n : Nat, n ≤ 1000000 ∧ l = decDigits n := by
 unfold de_
 simp only [Bool.and_eq_true, decide_eq_true_eq, beq_iff_eq]
 constructor
 ·rintro ⟨h, k⟩; exact ⟨_, h, k.symm⟩
 ·rintro ⟨n, h, rfl⟩; rw [c3_]; exact ⟨h, rfl⟩
theorem aa0_ {l : Str} {v : Int} (h : atoiAll l = .ok v) : (decide (0 ≤ v) && decide (v ≤ 1000000) && (itoa v == l)) = de_ l := by
 rw [Bool.eq_iff_iff, da_]
 simp only [Bool.and_eq_true, decide_eq_true_eq, beq_iff_eq]
 constructor
 ·rintro ⟨⟨h0, h1⟩, h2⟩
  refine ⟨v.toNat, by omega, ?_⟩
  rw [← h2, ← itoa_nonneg, Int.toNat_of_nonneg h0]
 ·rintro ⟨n, hn, rfl⟩
  rw [fi_ hn] at h
  injection h with h
  subst h
  exact ⟨⟨by omega, by omega⟩, itoa_nonneg n⟩
theorem xn_ {l : Str} {v : Int} (h : atoiAll l = .ok v) (k : de_ l = true) : v = b2_ l := by
 obtain ⟨n, hn, rfl⟩ := da_.1 k
 rw [fi_ hn] at h
 injection h with h
 rw [c3_, h]
theorem yg_ {l : Str} (h : ∀ v, atoiAll l ≠ .ok v) : de_ l = false := by
 rw [Bool.eq_false_iff]
 intro k
 obtain ⟨n, hn, rfl⟩ := da_.1 k
 exact h _ (fi_ hn)
def gc_ (l : Str) : Int × Bool :=
 let neg := l.head? == some 45
 let r := if neg then l.tail else l
 if r.length = 0 ∨ 17 < r.length ∨ (r.head? = some 48 ∧ (1 < r.length ∨ neg = true)) then (0, false)
 else if r.all b7_ then (if neg then -(b2_ r : Int) else b2_ r, true) else (0, false)
theorem hs_ (c : UInt8) : b7_ c = true ↔ e6_ c := by
 unfold b7_ e6_; simp only [Bool.and_eq_true, decide_eq_true_eq]; omega
theorem lead {l : Str} : l ≠ [] → (∀ c ∈ l, e6_ c) → l.head? ≠ some 48 → 1 ≤ b2_ l ∧ decDigits (b2_ l) = l := by
 suffices H : ∀ (k : Nat) (l : Str), l.length = k → l ≠ [] → (∀ c ∈ l, e6_ c) → l.head? ≠ some 48 → 1 ≤ b2_ l ∧ decDigits (b2_ l) = l from H _ l rfl
 intro k
 induction k with
 | zero => intro l h hne; exact absurd (List.eq_nil_of_length_eq_zero h) hne
 | succ k ih =>
  intro l hk hne hd hh
  obtain ⟨i, c, rfl⟩ : ∃ i c, l = i ++ [c] := ⟨l.dropLast, l.getLast hne, (List.dropLast_concat_getLast hne).symm⟩
  have hc := hd c (by simp)
  have hcc := hc
  unfold e6_ at hc
  have hcn : UInt8.ofNat (48 + (c.toNat - 48)) = c := by
   rw [show 48 + (c.toNat - 48) = c.toNat from by omega]; exact UInt8.ofNat_toNat
  rw [fy_]
  cases i with
  | nil =>
   have h0 : c ≠ 48 := fun e => hh (by simp [e])
   have h1 : c.toNat ≠ 48 := fun e => h0 (by rw [← UInt8.ofNat_toNat (x := c), e]; rfl)
   simp only [b2_, List.foldl_nil, Nat.zero_mul, Nat.zero_add, List.nil_append]
   exact ⟨by omega, by rw [decDigits_one (by omega), hcn]⟩
  | cons x r =>
   obtain ⟨h1, h2⟩ := ih (x :: r) (by simpa using hk) (by simp) (fun y hy => hd y (List.mem_append_left _ hy)) (by simpa using hh)
   refine ⟨by omega, ?_⟩
   rw [cx_ (by omega), show (b2_ (x :: r) * 10 + (c.toNat - 48)) / 10 = b2_ (x :: r) from by omega, h2,
    show (b2_ (x :: r) * 10 + (c.toNat - 48)) % 10 = c.toNat - 48 from by omega, hcn]
end
section
theorem m4_ {kids : List E} {k : Nat} (h : k < kids.length) (d : Int) : ce_ (kids.drop k) d = (form kids[k] d && ce_ (kids.drop (k+1)) d) := by
 rw [List.drop_eq_getElem_cons h]; simp only [ce_]
theorem wn_ {kids : List E} {k : Nat} (h : kids.length ≤ k) (d : Int) : ce_ (kids.drop k) d = true := by
 rw [List.drop_of_length_le h]; simp only [ce_]
theorem vu_ {k n : Int} {s : Str} {m : Nat} (h : shape k n s m = true) (hm : m ≠ 0) : k = 3 ∧ n = 0 ∧ m = 2 ∧ gn_ s = true ∨ k = 4 ∧ n = 0 ∧ m = 1 ∧ ef_ s = true := by
 unfold shape at h
 by_cases k1 : k = 1
 ·subst k1; simp at h; omega
 by_cases k2 : k = 2
 ·subst k2; simp at h; omega
 by_cases k3 : k = 3
 ·subst k3; simp at h; exact .inl ⟨rfl, h.1.1, h.2, h.1.2⟩
 by_cases k4 : k = 4
 ·subst k4; simp at h; exact .inr ⟨rfl, h.1.1, h.2, h.1.2⟩
 ·simp [k1, k2, k3, k4] at h
theorem lk_ {kids : List E} {k : Nat} (h : k < kids.length) (d : Int) : cb_ (kids.drop k) d = many kids[k] d + cb_ (kids.drop (k+1)) d := by
 rw [List.drop_eq_getElem_cons h]; simp only [cb_]
theorem vy_ {kids : List E} {k : Nat} (h : kids.length ≤ k) (d : Int) : cb_ (kids.drop k) d = 0 := by
 rw [List.drop_of_length_le h]; simp only [cb_]
mutual
theorem ig_ : ∀ (e : E) (d : Nat), form e d = true → 1 ≤ many e d ∧ many e d ≤ 2 ^ d - 1
 | .mk k n s kids, 0, h => by simp [form] at h
 | .mk k n s kids, d + 1, h => by
  simp only [form, Bool.and_eq_true, decide_eq_true_eq] at h
  obtain ⟨⟨_, h2⟩, h3⟩ := h
  have h4 : kids.length ≤ 2 := by
   by_cases hk : kids.length = 0
   ·omega
   ·rcases vu_ h2 hk with ⟨_, _, h, _⟩ | ⟨_, _, h, _⟩ <;> omega
  have e1 : ((d + 1 : Nat) : Int) - 1 = (d : Int) := by omega
  rw [e1] at h3
  have := i5_ kids d h3
  simp only [many]
  rw [if_pos (by omega), e1]
  have h5 : (kids.length : Int) * (2 ^ d - 1) ≤ 2 * (2 ^ d - 1) := Int.mul_le_mul_of_nonneg_right (by omega) (by have : (0 : Int) < 2 ^ d := Int.pow_pos (by decide); omega)
  have h6 : (2 : Int) ^ (d + 1) = 2 * 2 ^ d := by rw [Int.pow_succ]; omega
  omega
theorem i5_ : ∀ (l : List E) (d : Nat), ce_ l d = true → 0 ≤ cb_ l d ∧ cb_ l d ≤ l.length * (2 ^ d - 1)
 | [], d, _ => by simp [cb_]
 | e :: r, d, h => by
  simp only [ce_, Bool.and_eq_true] at h
  have h1 := ig_ e d h.1
  have h2 := i5_ r d h.2
  simp only [cb_, List.length_cons]
  have : ((r.length + 1 : Nat) : Int) * (2 ^ d - 1) = r.length * (2 ^ d - 1) + (2 ^ d - 1) := by rw [Int.natCast_add, Int.add_mul]; simp
  omega
end
theorem so_ {l : List E} {d : Int} : ∀ (j : Nat), ce_ l d = true → ce_ (l.drop j) d = true := by
 induction l with
 | nil => intro j h; simpa using h
 | cons e r ih =>
  intro j h
  cases j with
  | zero => simpa using h
  | succ j => simp only [ce_, Bool.and_eq_true] at h; simpa using ih j h.2
theorem jw_ {l : List E} {d : Int} (h : ce_ l d = true) : ∀ e ∈ l, form e d = true := by
 induction l with
 | nil => intro e he; cases he
 | cons x r ih =>
  simp only [ce_, Bool.and_eq_true] at h
  intro e he
  rcases List.mem_cons.1 he with rfl | he
  ·exact h.1
  ·exact ih h.2 e he
theorem v2_ (s : Str) : decide (0 < bb_ s) = gn_ s := by
 unfold bb_ gn_
 by_cases h1 : s = [60]
 ·subst h1; rfl
 by_cases h2 : s = [43]
 ·subst h2; rfl
 by_cases h3 : s = [45]
 ·subst h3; rfl
 by_cases h4 : s = [42]
 ·subst h4; rfl
 ·simp [h1, h2, h3, h4]
mutual
theorem yp_ : ∀ (e : E) (d p : Int), (wlk e d p).1 = true → p < (wlk e d p).2 ∧ (wlk e d p).2 ≤ 12
 | .mk k n s kids, d, p, h => by
  simp only [wlk] at h ⊢
  by_cases h1 : 5 < d ∨ 12 < p + 1
  ·rw [if_pos h1] at h; cases h
  ·rw [if_neg h1] at h ⊢
   by_cases h2 : shape k n s kids.length = true
   ·rw [if_pos h2] at h ⊢
    have := t3_ kids (d + 1) (p + 1) (by omega) h
    omega
   ·rw [if_neg h2] at h; cases h
theorem t3_ : ∀ (l : List E) (d p : Int), p ≤ 12 → (d6_ l d p).1 = true → p ≤ (d6_ l d p).2 ∧ (d6_ l d p).2 ≤ 12
 | [], d, p, hp, _ => by simp only [d6_]; omega
 | e :: r, d, p, hp, h => by
  simp only [d6_] at h ⊢
  by_cases h1 : (wlk e d p).1 = true
  ·rw [if_pos h1] at h ⊢
   have h2 := yp_ e d p h1
   have h3 := t3_ r d _ h2.2 h
   omega
  ·rw [if_neg h1] at h; cases h
end
theorem nf_ {kids : List E} {k : Nat} (h : k < kids.length) (d p : Int) : d6_ (kids.drop k) d p = if (wlk kids[k] d p).1 then d6_ (kids.drop (k+1)) d (wlk kids[k] d p).2 else (false, (wlk kids[k] d p).2) := by
 rw [List.drop_eq_getElem_cons h]; simp only [d6_]
theorem zs_ {kids : List E} {k : Nat} (h : kids.length ≤ k) (d p : Int) : d6_ (kids.drop k) d p = (true, p) := by
 rw [List.drop_of_length_le h]; simp only [d6_]
def eok (e : E) : Bool := form e 5 && decide (many e 5 ≤ 12)
mutual
theorem rq_ : ∀ (e : E) (dd : Nat) (p : Int), dd ≤ 5 → p ≤ 12 →
  (wlk e (6 - dd) p).1 = (form e dd && decide (p + many e dd ≤ 12)) ∧ ((form e dd && decide (p + many e dd ≤ 12)) = true → (wlk e (6 - dd) p).2 = p + many e dd)
 | .mk k n s kids, 0, p, hd, hp => by
  have h : form (.mk k n s kids) ((0 : Nat) : Int) = false := by simp [form]
  rw [h]
  simp only [wlk]
  rw [if_pos (by omega)]
  simp
 | .mk k n s kids, dd + 1, p, hd, hp => by
  have e1 : (6 : Int) - ((dd + 1 : Nat) : Int) + 1 = 6 - (dd : Int) := by omega
  have e2 : (((dd + 1 : Nat) : Int)) - 1 = (dd : Int) := by omega
  have hml := ig_ (.mk k n s kids) (dd + 1)
  by_cases h1 : 12 < p + 1
  ·have hw : wlk (.mk k n s kids) (6 - ((dd + 1 : Nat) : Int)) p = (false, p + 1) := by simp only [wlk]; rw [if_pos (.inr h1)]
   rw [hw]
   have : (form (.mk k n s kids) ((dd + 1 : Nat) : Int) && decide (p + many (.mk k n s kids) ((dd + 1 : Nat) : Int) ≤ 12)) = false := by
    rw [Bool.eq_false_iff]; intro h
    simp only [Bool.and_eq_true, decide_eq_true_eq] at h
    have := hml h.1; omega
   rw [this]; simp
  ·have hf : form (.mk k n s kids) ((dd + 1 : Nat) : Int) = (shape k n s kids.length && ce_ kids (dd : Int)) := by
    simp only [form]; rw [e2, show decide ((1 : Int) ≤ ((dd + 1 : Nat) : Int)) = true by simp; omega]; rfl
   have hm : many (.mk k n s kids) ((dd + 1 : Nat) : Int) = 1 + cb_ kids (dd : Int) := by
    simp only [many]; rw [if_pos (by omega), e2]
   have hw : wlk (.mk k n s kids) (6 - ((dd + 1 : Nat) : Int)) p = if shape k n s kids.length then d6_ kids (6 - (dd : Int)) (p + 1) else (false, p + 1) := by
    simp only [wlk]; rw [if_neg (by omega), e1]
   rw [hf, hm, hw]
   cases hs : shape k n s kids.length with
   | false => simp
   | true =>
    have := mz_ kids dd (p + 1) (by omega) (by omega)
    rw [if_pos rfl, Bool.true_and, show p + (1 + cb_ kids (dd : Int)) = p + 1 + cb_ kids (dd : Int) by omega]
    exact this
theorem mz_ : ∀ (l : List E) (dd : Nat) (p : Int), dd ≤ 5 → p ≤ 12 →
  (d6_ l (6 - dd) p).1 = (ce_ l dd && decide (p + cb_ l dd ≤ 12)) ∧ ((ce_ l dd && decide (p + cb_ l dd ≤ 12)) = true → (d6_ l (6 - dd) p).2 = p + cb_ l dd)
 | [], dd, p, hd, hp => by simp [d6_, ce_, cb_, hp]
 | e :: r, dd, p, hd, hp => by
  obtain ⟨h1, h2⟩ := rq_ e dd p hd hp
  rw [show ce_ (e :: r) (dd : Int) = (form e dd && ce_ r dd) by simp only [ce_], show cb_ (e :: r) (dd : Int) = many e dd + cb_ r dd by simp only [cb_],
   show d6_ (e :: r) (6 - (dd : Int)) p = if (wlk e (6 - (dd : Int)) p).1 then d6_ r (6 - (dd : Int)) (wlk e (6 - (dd : Int)) p).2 else (false, (wlk e (6 - (dd : Int)) p).2) by simp only [d6_]]
  by_cases hw : (form e dd && decide (p + many e dd ≤ 12)) = true
  ·have hw1 := h1.trans hw
   have hw2 := h2 hw
   simp only [Bool.and_eq_true, decide_eq_true_eq] at hw
   rw [if_pos hw1, hw2, hw.1, Bool.true_and, show p + (many e dd + cb_ r dd) = p + many e dd + cb_ r dd by omega]
   exact mz_ r dd _ hd hw.2
  ·have hw1 : (wlk e (6 - (dd : Int)) p).1 = false := by rw [h1]; simpa using hw
   have : (form e (dd : Int) && ce_ r (dd : Int) && decide (p + (many e dd + cb_ r dd) ≤ 12)) = false := by
    rw [Bool.eq_false_iff]; intro h
    simp only [Bool.and_eq_true, decide_eq_true_eq] at h hw
    have := i5_ r dd h.1.2
    exact hw ⟨h.1.1, by omega⟩
   rw [hw1, this]; simp
end
theorem ace_ (e : E) : (wlk e 1 0).1 = eok e := by
 have := (rq_ e 5 0 (by omega) (by omega)).1
 rw [show (6 : Int) - ((5 : Nat) : Int) = 1 by omega] at this
 rw [this]; unfold eok; simp
end
section
def E0 : E := .mk 0 0 [] []
theorem E.ind' {P : E → Prop} (h : ∀ e, (∀ x ∈ e.kids, P x) → P e) (e : E) : P e := E.ind (fun k n s kids ih => h _ ih) e
theorem bh_ {α : Type} {l : List α} {k : Nat} {d : α} (h : k < l.length) : l.getD k d ∈ l := by
 simp [List.getD_eq_getElem?_getD, List.getElem?_eq_getElem h]
mutual
def sm : E → Bool
 | .mk _ _ s kids => decide (s.length < 4611686018427387904) && decide (kids.length < 1099511627776) && sms kids
def sms : List E → Bool
 | [] => true
 | e :: r => sm e && sms r
end
theorem ch_ : ∀ {l : List E}, sms l = true → ∀ e ∈ l, sm e = true
 | [], _, e, he => by cases he
 | x :: l, h, e, he => by
  simp only [sms, Bool.and_eq_true] at h
  rcases List.mem_cons.1 he with rfl | he
  ·exact h.1
  ·exact ch_ h.2 e he
theorem dx_ {e : E} (h : sm e = true) : e.s.length < 4611686018427387904 ∧ e.kids.length < 4611686018427387904 ∧ sms e.kids = true := by
 cases e; simp only [sm, Bool.and_eq_true, decide_eq_true_eq] at h; exact ⟨h.1.1, Nat.lt_trans h.1.2 (by decide), h.2⟩
theorem tt_ {e : E} (h : sm e = true) : e.kids.length < 1099511627776 := by
 cases e; simp only [sm, Bool.and_eq_true, decide_eq_true_eq] at h; exact h.1.2
theorem fs_ {l : List E} {k : Nat} (h : k < l.length) : l.getD k E0 = l[k] := by simp [List.getD_eq_getElem?_getD, List.getElem?_eq_getElem h]
theorem it_ (e : E) (d : Int) : form e d = (decide (1 ≤ d) && shape e.kind e.n e.s e.kids.length && ce_ e.kids (d - 1)) := by cases e; simp only [form, E.kind, E.n, E.s, E.kids]
mutual
def wf : E → Bool
 | .mk k _ _ kids => (k != 4 || !kids.isEmpty) && wfs kids
def wfs : List E → Bool
 | [] => true
 | e :: r => wf e && wfs r
end
theorem o0_ : ∀ {l : List E}, wfs l = true → ∀ e ∈ l, wf e = true
 | [], _, e, he => by cases he
 | x :: l, h, e, he => by
  simp only [wfs, Bool.and_eq_true] at h
  rcases List.mem_cons.1 he with rfl | he
  ·exact h.1
  ·exact o0_ h.2 e he
theorem abg_ {e : E} (h : wf e = true) : (e.kind = 4 → 0 < e.kids.length) ∧ wfs e.kids = true := by
 cases e with
 | mk k n s kids =>
  simp only [wf, Bool.and_eq_true] at h
  refine ⟨fun hk => ?_, h.2⟩
  simp only [E.kind] at hk
  subst hk
  have := h.1
  simp only [E.kids]
  cases kids with
  | nil => simp at this
  | cons a b => simp
theorem n0_ {e : E} (h : e.kind = 4) (hk : 0 < e.kids.length) : bare e = bare (e.kids.getD 0 E0) := by
 cases e with
 | mk k n s kids =>
  simp only [E.kind] at h
  simp only [E.kids] at hk
  subst h
  cases kids with
  | nil => simp at hk
  | cons a b => simp [bare, rg_, E.kids]
theorem jv_ {e : E} (h : e.kind ≠ 4) : bare e = .mk e.kind e.n e.s (dp_ e.kids) := by
 cases e with
 | mk k n s kids => simp only [E.kind] at h; simp [bare, h, E.kind, E.n, E.s, E.kids]
theorem fe_ : ∀ l : List E, (dp_ l).length = l.length
 | [] => by simp [dp_]
 | e :: r => by simp [dp_, fe_ r]
theorem jj_ : ∀ l : List E, dp_ l = l.map bare
 | [] => by simp [dp_]
 | e :: r => by simp [dp_, jj_ r]
theorem s2_ {l : List E} {k : Nat} (h : k < l.length) : dp_ (l.take (k + 1)) = dp_ (l.take k) ++ [bare (l.getD k E0)] := by
 rw [jj_, jj_, List.take_add_one, List.getElem?_eq_getElem h, List.getD_eq_getElem?_getD, List.getElem?_eq_getElem h, List.map_append]
 rfl
mutual
def pla : E → Bool
 | .mk k _ _ kids => k != 4 && qk_ kids
def qk_ : List E → Bool
 | [] => true
 | e :: r => pla e && qk_ r
end
theorem wx_ (e : E) : pla e = (e.kind != 4 && qk_ e.kids) := by cases e; simp only [pla, E.kind, E.kids]
end
section
mutual
theorem ii_ : ∀ x y : E, same x y = true ↔ x = y
 | .mk k n s kids, .mk k' n' s' kids' => by
  have := n5_ kids kids'
  simp only [same, Bool.and_eq_true, beq_iff_eq, this, E.mk.injEq, and_assoc]
theorem n5_ : ∀ x y : List E, same.sameL x y = true ↔ x = y
 | [], [] => by simp [same.sameL]
 | [], _ :: _ => by simp [same.sameL]
 | _ :: _, [] => by simp [same.sameL]
 | x :: xs, y :: ys => by
  have h1 := ii_ x y
  have h2 := n5_ xs ys
  simp only [same.sameL, Bool.and_eq_true, h1, h2, List.cons.injEq]
end
instance : DecidableEq E := fun x y => if h : same x y = true then isTrue ((ii_ x y).1 h) else isFalse fun e => h ((ii_ x y).2 e)
mutual
theorem i3_ : ∀ e : E, wf e = true → pla (bare e) = true
 | .mk k n s kids, h => by
  simp only [wf, Bool.and_eq_true] at h
  simp only [bare]
  by_cases hk : k = 4
  ·rw [if_pos hk]
   cases kids with
   | nil => simp [hk] at h
   | cons a r =>
    simp only [rg_]
    simp only [wfs, Bool.and_eq_true] at h
    exact i3_ a h.2.1
  ·rw [if_neg hk]
   simp only [pla, Bool.and_eq_true, bne_iff_ne, ne_eq]
   exact ⟨hk, l8_ kids h.2⟩
theorem l8_ : ∀ l : List E, wfs l = true → qk_ (dp_ l) = true
 | [], _ => by simp only [dp_, qk_]
 | e :: r, h => by
  simp only [wfs, Bool.and_eq_true] at h
  simp only [dp_, qk_, i3_ e h.1, l8_ r h.2, Bool.and_self]
end
theorem sk_ {k n : Int} {s : Str} {m : Nat} (h : shape k n s m = true) : k = 4 → 0 < m := by
 rintro rfl; simp [shape] at h; omega
mutual
theorem o8_ : ∀ (e : E) (d : Int), form e d = true → wf e = true
 | .mk k n s kids, d, h => by
  simp only [form, Bool.and_eq_true] at h
  have h1 := sk_ h.1.2
  simp only [wf, Bool.and_eq_true, Bool.or_eq_true, bne_iff_ne, ne_eq, Bool.not_eq_true', List.isEmpty_eq_false_iff]
  refine ⟨?_, no_ kids _ h.2⟩
  by_cases hk : k = 4
  ·right; intro e; have := h1 hk; simp [e] at this
  ·exact .inl hk
theorem no_ : ∀ (l : List E) (d : Int), ce_ l d = true → wfs l = true
 | [], _, _ => by simp only [wfs]
 | e :: r, d, h => by
  simp only [ce_, Bool.and_eq_true] at h
  simp only [wfs, o8_ e d h.1, no_ r d h.2, Bool.and_self]
end
theorem bp_ {e : E} (h : eok e = true) : form e 5 = true := by simp only [eok, Bool.and_eq_true] at h; exact h.1
theorem jd_ {e : E} (h : eok e = true) : many e 5 ≤ 12 := by simp only [eok, Bool.and_eq_true, decide_eq_true_eq] at h; exact h.2
theorem gv_ {e : E} (h : eok e = true) : wf e = true := o8_ e 5 (bp_ h)
theorem k3_ (b : Bool) (l : Wd) : (brk b l).map (·.1) = if b then [[40]] ++ l.map (·.1) ++ [[41]] else l.map (·.1) := by
 unfold brk; cases b <;> simp
mutual
theorem xg_ : ∀ (e : E) (must a b : Int), (src e must a).map (·.1) = (src e must b).map (·.1)
 | .mk k n s kids, must, a, b => by
  simp only [src]
  by_cases k1 : k = 1
  ·rw [if_pos k1, if_pos k1]; rfl
  by_cases k2 : k = 2
  ·rw [if_neg k1, if_neg k1, if_pos k2, if_pos k2]; rfl
  by_cases k3 : k = 3
  ·rw [if_neg k1, if_neg k1, if_neg k2, if_neg k2, if_pos k3, if_pos k3, k3_, k3_]
   simp only [List.map_append, List.map_cons, pe_ kids (max 2 (bb_ s)) (a + 1) (b + 1), ab9_ kids (bb_ s + 1) (a + 1) (b + 1)]
  by_cases k4 : k = 4
  ·rw [if_neg k1, if_neg k1, if_neg k2, if_neg k2, if_neg k3, if_neg k3, if_pos k4, if_pos k4]
   simp only [List.map_append, pe_ kids 4 a b]
  ·rw [if_neg k1, if_neg k1, if_neg k2, if_neg k2, if_neg k3, if_neg k3, if_neg k4, if_neg k4]
theorem pe_ : ∀ (l : List E) (must a b : Int), (py_ l must a).map (·.1) = (py_ l must b).map (·.1)
 | [], _, _, _ => by simp only [py_]
 | e :: r, must, a, b => by simp only [py_]; exact xg_ e must a b
theorem ab9_ : ∀ (l : List E) (must a b : Int), (wd_ l must a).map (·.1) = (wd_ l must b).map (·.1)
 | [], _, _, _ => by simp only [wd_]
 | e :: r, must, a, b => by simp only [wd_]; exact pe_ r must _ _
end
theorem dw_ (e : E) (must a : Int) : (src e must a).map (·.1) = wds e must := xg_ e must a 0
theorem dc_ {e : E} (h : e.kind = 1) (must : Int) : wds e must = [Go.Lib.decDigits e.n.toNat] := by
 cases e; simp only [E.kind] at h; subst h; simp [wds, src, E.n]
theorem c0_ {e : E} (h : e.kind = 2) (must : Int) : wds e must = [e.s] := by
 cases e; simp only [E.kind] at h; subst h; simp [wds, src, E.s]
theorem fx_ {e : E} (h : e.kind = 3) (hl : e.kids.length = 2) (must nx : Int) : src e must nx = brk (decide (bb_ e.s < must)) (src (e.kids.getD 0 E0) (max 2 (bb_ e.s)) (nx + 1) ++ (e.s, nx) :: src (e.kids.getD 1 E0) (bb_ e.s + 1) (nx + 1 + cnt (e.kids.getD 0 E0))) := by
 cases e with
 | mk k n s kids =>
  simp only [E.kind] at h; subst h
  simp only [E.kids] at hl
  match kids, hl with
  | [a, b], _ => simp [src, py_, wd_, E.s, E.kids]; rfl
theorem e9_ {e : E} (h : e.kind = 3) (hl : e.kids.length = 2) (must : Int) : wds e must = if bb_ e.s < must then [[40]] ++ (wds (e.kids.getD 0 E0) (max 2 (bb_ e.s)) ++ [e.s] ++ wds (e.kids.getD 1 E0) (bb_ e.s + 1)) ++ [[41]] else wds (e.kids.getD 0 E0) (max 2 (bb_ e.s)) ++ [e.s] ++ wds (e.kids.getD 1 E0) (bb_ e.s + 1) := by
 rw [wds, fx_ h hl, k3_]
 simp only [decide_eq_true_eq, List.map_append, List.map_cons, dw_, List.append_assoc, List.cons_append, List.nil_append]
theorem jm_ {e : E} (h : e.kind = 4) (hl : e.kids.length = 1) (must nx : Int) : src e must nx = src (e.kids.getD 0 E0) 4 nx ++ [([97, 115], -1), (e.s, -1)] := by
 cases e with
 | mk k n s kids =>
  simp only [E.kind] at h; subst h
  simp only [E.kids] at hl
  match kids, hl with
  | [a], _ => simp [src, py_, E.s, E.kids]
theorem g5_ {e : E} (h : e.kind = 4) (hl : e.kids.length = 1) (must : Int) : wds e must = wds (e.kids.getD 0 E0) 4 ++ [[97, 115], e.s] := by
 rw [wds, jm_ h hl]; simp only [List.map_append, List.map_cons, List.map_nil, dw_]
theorem in_ {e : E} (h : e.kind = 3) (hl : e.kids.length = 2) : cnt e = 1 + cnt (e.kids.getD 0 E0) + cnt (e.kids.getD 1 E0) := by
 cases e with
 | mk k n s kids =>
  simp only [E.kind] at h; subst h
  simp only [E.kids] at hl
  match kids, hl with
  | [a, b], _ => simp [cnt, m6_, E.kids]; omega
theorem oq_ {e : E} (h : e.kind = 4) (hl : e.kids.length = 1) : cnt e = cnt (e.kids.getD 0 E0) := by
 cases e with
 | mk k n s kids =>
  simp only [E.kind] at h; subst h
  simp only [E.kids] at hl
  match kids, hl with
  | [a], _ => simp [cnt, m6_, E.kids]
theorem bj_ {e : E} {d : Int} (h : form e d = true) : 1 ≤ d ∧
    ((e.kind = 1 ∧ 0 ≤ e.n ∧ e.n ≤ 1000000 ∧ e.s = [] ∧ e.kids = []) ∨ (e.kind = 2 ∧ e.n = 0 ∧ hy_ e.s = true ∧ e.kids = []) ∨
     (e.kind = 3 ∧ e.n = 0 ∧ gn_ e.s = true ∧ e.kids.length = 2 ∧ form (e.kids.getD 0 E0) (d - 1) = true ∧ form (e.kids.getD 1 E0) (d - 1) = true) ∨
     (e.kind = 4 ∧ e.n = 0 ∧ ef_ e.s = true ∧ e.kids.length = 1 ∧ form (e.kids.getD 0 E0) (d - 1) = true)) := by
  cases e with
  | mk k n s kids =>
    simp only [form, Bool.and_eq_true, decide_eq_true_eq] at h
    obtain ⟨⟨h1, h2⟩, h3⟩ := h
    refine ⟨h1, ?_⟩
    simp only [E.kind, E.n, E.s, E.kids]
    have hm := jw_ h3
    unfold shape at h2
    by_cases k1 : k = 1
    · subst k1; simp at h2; exact .inl ⟨rfl, h2.1.1.1, h2.1.1.2, h2.1.2, h2.2⟩
    by_cases k2 : k = 2
    · subst k2; simp at h2; exact .inr (.inl ⟨rfl, h2.1.1, h2.1.2, h2.2⟩)
    by_cases k3 : k = 3
    · subst k3; simp at h2
      exact .inr (.inr (.inl ⟨rfl, h2.1.1, h2.1.2, h2.2, hm _ (bh_ (by omega)), hm _ (bh_ (by omega))⟩))
    by_cases k4 : k = 4
    · subst k4; simp at h2
      exact .inr (.inr (.inr ⟨rfl, h2.1.1, h2.1.2, h2.2, hm _ (bh_ (by omega))⟩))
    · simp [k1, k2, k3, k4] at h2
theorem l0_ {e : E} (h : e.kids.length = 2) : e.kids = [e.kids.getD 0 E0, e.kids.getD 1 E0] := by
 match hk : e.kids, h with
 | [a, b], _ => rfl
theorem aag_ {e : E} (h : e.kids.length = 1) : e.kids = [e.kids.getD 0 E0] := by
 match hk : e.kids, h with
 | [a], _ => rfl
theorem i2_ (e : E) {d : Int} (h : 1 ≤ d) : many e d = 1 + cb_ e.kids (d - 1) := by
 cases e; simp only [many, E.kids]; rw [if_pos (by omega)]
theorem f8_ {e : E} {d : Int} (h : 1 ≤ d) (hl : e.kids.length = 2) : many e d = 1 + many (e.kids.getD 0 E0) (d - 1) + many (e.kids.getD 1 E0) (d - 1) := by
 rw [i2_ e h, l0_ hl]; simp only [cb_, List.getD_cons_zero, List.getD_cons_succ]; omega
theorem hf_ {e : E} {d : Int} (h : 1 ≤ d) (hl : e.kids.length = 1) : many e d = 1 + many (e.kids.getD 0 E0) (d - 1) := by
 rw [i2_ e h, aag_ hl]; simp only [cb_, List.getD_cons_zero]; omega
theorem hz_ {n : Nat} (h : n ≤ 1000000) : (Go.Lib.decDigits n).length ≤ 7 := by
 have key : ∀ (k n : Nat), n < 10 ^ k → 0 < k → (Go.Lib.decDigits n).length ≤ k := by
  intro k
  induction k with
  | zero => intro n _ h; omega
  | succ k ih =>
   intro n hn _
   by_cases h1 : n < 10
   ·rw [Go.Lib.decDigits_one h1]; simp
   ·rw [Go.Lib.decDigits, dif_neg h1]
    have h2 : n / 10 < 10 ^ k := by rw [Nat.pow_succ] at hn; omega
    have h3 : 0 < k := by
     rcases Nat.eq_zero_or_pos k with rfl | h3
     ·simp at hn; omega
     ·exact h3
    have := ih (n / 10) h2 h3
    simp; omega
 exact key 7 n (by omega) (by decide)
theorem me_ {s : Str} (h : hy_ s = true) : 1 ≤ s.length ∧ s.length ≤ 8 := by
 simp only [hy_, dq_, Bool.and_eq_true, decide_eq_true_eq] at h; omega
theorem rt_ {s : Str} (h : gn_ s = true) : s.length = 1 := by
 simp only [gn_, Bool.or_eq_true, beq_iff_eq] at h; rcases h with ((h | h) | h) | h <;> subst h <;> rfl
theorem jh_ {s : Str} (h : ef_ s = true) : s.length ≤ 4 ∧ 1 ≤ s.length := by
 simp only [ef_, Bool.or_eq_true, beq_iff_eq] at h; rcases h with h | h <;> subst h <;> decide
theorem di_ {s : Str} (h : gn_ s = true) : 1 ≤ bb_ s ∧ bb_ s ≤ 3 := by
 simp only [gn_, Bool.or_eq_true, beq_iff_eq] at h; rcases h with ((h | h) | h) | h <;> subst h <;> decide
theorem cl_ : ∀ (d : Nat) (e : E) (must : Int), form e d = true → 1 ≤ (wds e must).length ∧ ((wds e must).length : Int) ≤ 3 * many e d ∧ (∀ s ∈ wds e must, 1 ≤ s.length ∧ s.length ≤ 8) ∧ 1 ≤ cnt e ∧ cnt e ≤ many e d
 | 0, e, must, h => by have := (bj_ h).1; omega
 | d + 1, e, must, h => by
  have e1 : ((d + 1 : Nat) : Int) - 1 = (d : Int) := by omega
  have hd : (1 : Int) ≤ ((d + 1 : Nat) : Int) := by omega
  rcases (bj_ h).2 with ⟨k1, h1, h2, h3, h4⟩ | ⟨k1, h1, h2, h3⟩ | ⟨k1, h1, h2, h3, h4, h5⟩ | ⟨k1, h1, h2, h3, h4⟩
  ·have hm : many e ((d + 1 : Nat) : Int) = 1 := by rw [i2_ e hd, h4]; simp [cb_]
   have hc : cnt e = 1 := by cases e; simp only [E.kind, E.kids] at k1 h4; subst k1 h4; simp [cnt, m6_]
   rw [dc_ k1, hm, hc]
   have := hz_ (n := e.n.toNat) (by omega)
   have h0 := List.length_pos_iff.2 (decDigits_ne' e.n.toNat)
   simp; omega
  ·have hm : many e ((d + 1 : Nat) : Int) = 1 := by rw [i2_ e hd, h3]; simp [cb_]
   have hc : cnt e = 1 := by cases e; simp only [E.kind, E.kids] at k1 h3; subst k1 h3; simp [cnt, m6_]
   have := me_ h2
   rw [c0_ k1, hm, hc]; simp; omega
  ·rw [e1] at h4 h5
   obtain ⟨a1, a2, a3, a4, a5⟩ := cl_ d (e.kids.getD 0 E0) (max 2 (bb_ e.s)) h4
   obtain ⟨b1, b2, b3, b4, b5⟩ := cl_ d (e.kids.getD 1 E0) (bb_ e.s + 1) h5
   have hm := f8_ hd h3
   rw [e1] at hm
   have hl := rt_ h2
   rw [e9_ k1 h3, hm, in_ k1 h3]
   refine ⟨by split <;> simp <;> omega, ?_, ?_, by omega, by omega⟩
   ·split <;> simp only [List.length_append, List.length_cons, List.length_nil] <;> omega
   ·intro s hs
    have key : s ∈ wds (e.kids.getD 0 E0) (max 2 (bb_ e.s)) ++ [e.s] ++ wds (e.kids.getD 1 E0) (bb_ e.s + 1) → 1 ≤ s.length ∧ s.length ≤ 8 := fun hs => by
     simp only [List.mem_append, List.mem_singleton] at hs
     rcases hs with (hs | hs) | hs
     ·exact a3 s hs
     ·rw [hs, hl]; omega
     ·exact b3 s hs
    split at hs
    ·rcases List.mem_append.1 hs with hs | hs
     ·rcases List.mem_append.1 hs with hs | hs
      ·simp at hs; subst hs; simp
      ·exact key hs
     ·simp at hs; subst hs; simp
    ·exact key hs
  ·rw [e1] at h4
   obtain ⟨a1, a2, a3, a4, a5⟩ := cl_ d (e.kids.getD 0 E0) 4 h4
   have hm := hf_ hd h3
   rw [e1] at hm
   have hl := jh_ h2
   rw [g5_ k1 h3, hm, oq_ k1 h3]
   refine ⟨by simp, by simp only [List.length_append, List.length_cons, List.length_nil]; omega, ?_, by omega, by omega⟩
   intro s hs
   simp only [List.mem_append, List.mem_cons, List.not_mem_nil, or_false] at hs
   rcases hs with hs | hs | hs
   ·exact a3 s hs
   ·subst hs; simp
   ·rw [hs]; omega
where
 decDigits_ne' (n : Nat) : Go.Lib.decDigits n ≠ [] := by
  by_cases h : n < 10
  ·rw [Go.Lib.decDigits_one h]; simp
  ·rw [Go.Lib.decDigits, dif_neg h]; simp
theorem cc_ {e : E} (h : eok e = true) (must : Int) : 1 ≤ (wds e must).length ∧ (wds e must).length ≤ 36 ∧ ∀ s ∈ wds e must, 1 ≤ s.length ∧ s.length ≤ 8 := by
 have := cl_ 5 e must (bp_ h)
 have h2 := jd_ h
 have h3 : many e ((5 : Nat) : Int) = many e 5 := rfl
 rw [h3] at this
 exact ⟨this.1, by omega, this.2.2.1⟩
end
section
structure Bl where
 kind : Int
 name : Str
 expr : E
 thn : E
structure Sl where
 kind : Int
 name : Str
 type : Str
 expr : E
 thn : E
def wEq : Str := [61]
def dy_ : Str := [112, 114, 105, 110, 116]
def wIf : Str := [105, 102]
def hx_ : Str := [58]
def tj_ : Str := [108, 101, 116]
def gb_ : Str := [115, 97, 121]
def gj_ : Str := [119, 104, 101, 110]
def gz_ (e : E) : Bool := same e E0
def pe (e : E) : Bool := eok e && pla e
def bw (b : Bl) : List Str :=
 if b.kind = 1 then b.name :: wEq :: wds b.expr 1
 else if b.kind = 2 then dy_ :: wds b.expr 1
 else if b.kind = 3 then wIf :: wds b.expr 1 ++ hx_ :: dy_ :: wds b.thn 1
 else []
def sw' (s : Sl) : List Str :=
 if s.kind = 1 then tj_ :: s.name :: hx_ :: s.type :: wEq :: wds s.expr 1
 else if s.kind = 2 then gb_ :: wds s.expr 1
 else if s.kind = 3 then gj_ :: wds s.expr 1 ++ gb_ :: wds s.thn 1
 else []
def g7_ (b : Bl) : Bool :=
 if b.kind = 0 then b.name == [] && gz_ b.expr && gz_ b.thn
 else if b.kind = 1 then hy_ b.name && pe b.expr && gz_ b.thn
 else if b.kind = 2 then b.name == [] && pe b.expr && gz_ b.thn
 else if b.kind = 3 then b.name == [] && pe b.expr && pe b.thn
 else false
def bok (b : Bl) : Bool := g7_ b && decide ((br_ (bw b)).length ≤ 120)
def ca_ (s : Sl) : Bool :=
 if s.kind = 0 then s.name == [] && s.type == [] && gz_ s.expr && gz_ s.thn
 else if s.kind = 1 then hy_ s.name && ef_ s.type && eok s.expr && gz_ s.thn
 else if s.kind = 2 then s.name == [] && s.type == [] && eok s.expr && gz_ s.thn
 else if s.kind = 3 then s.name == [] && s.type == [] && eok s.expr && eok s.thn
 else false
def sok (s : Sl) : Bool := ca_ s && decide ((br_ (sw' s)).length ≤ 116)
def bof (s : Sl) : Bl := ⟨s.kind, s.name, if s.kind = 0 then E0 else bare s.expr, if s.kind = 3 then bare s.thn else E0⟩
def B0 : Bl := ⟨0, [], E0, E0⟩
def S0 : Sl := ⟨0, [], [], E0, E0⟩
theorem ct_ (e : E) : gz_ e = true ↔ e = E0 := ii_ e E0
theorem l3_ : gz_ E0 = true := (ct_ E0).2 rfl
theorem e1_ {e : E} (h : pe e = true) : eok e = true := by simp only [pe, Bool.and_eq_true] at h; exact h.1
theorem tg_ (s x : Str) (l : List Str) : [(32 : UInt8)].intercalate (s :: x :: l) = s ++ 32 :: [(32 : UInt8)].intercalate (x :: l) := by
 simp [List.intercalate]
theorem do_ (s x : Str) (l : List Str) : br_ (s :: x :: l) = s ++ 32 :: br_ (x :: l) := tg_ s x l
theorem d4_ (s : Str) : br_ [s] = s := by simp [br_, List.intercalate]
theorem d5_ : br_ [] = [] := rfl
theorem et_ : ∀ l : List Str, l ≠ [] → (br_ l).length + 1 = (l.map List.length).sum + l.length
 | [], h => absurd rfl h
 | [s], _ => by rw [d4_]; simp
 | s :: x :: l, _ => by
  have := et_ (x :: l) (by simp)
  rw [do_]
  simp only [List.length_append, List.length_cons, List.map_cons, List.sum_cons] at this ⊢
  omega
theorem s8_ {l : List Str} {k : Nat} (h : ∀ s ∈ l, s.length ≤ k) : (l.map List.length).sum ≤ l.length * k := by
 induction l with
 | nil => simp
 | cons a r ih =>
  have h1 := h a (by simp)
  have h2 := ih fun s hs => h s (by simp [hs])
  simp only [List.map_cons, List.sum_cons, List.length_cons, Nat.add_mul]; omega
theorem mo_ {l : List Str} {k : Nat} (h : ∀ s ∈ l, s.length ≤ k) : (br_ l).length ≤ l.length * (k + 1) := by
 by_cases hl : l = []
 ·subst hl; simp [d5_]
 ·have h1 := et_ l hl
  have h2 := s8_ h
  rw [Nat.mul_add]; omega
theorem mg_ {b : Bl} (h : g7_ b = true) : (bw b).length ≤ 76 ∧ ∀ s ∈ bw b, 1 ≤ s.length ∧ s.length ≤ 8 := by
 unfold g7_ at h
 unfold bw
 by_cases k0 : b.kind = 0
 ·simp [k0]
 by_cases k1 : b.kind = 1
 ·simp [k1] at h
  have h1 := cc_ (e1_ h.1.2) 1
  have h2 := me_ h.1.1
  simp only [k1, if_true]
  refine ⟨by simp; omega, fun s hs => ?_⟩
  rcases List.mem_cons.1 hs with rfl | hs
  ·exact h2
  rcases List.mem_cons.1 hs with rfl | hs
  ·decide
  ·exact h1.2.2 s hs
 by_cases k2 : b.kind = 2
 ·simp [k2] at h
  have h1 := cc_ (e1_ h.1.2) 1
  simp only [k2, if_true]
  refine ⟨by simp; omega, fun s hs => ?_⟩
  simp only [show ¬ (2 : Int) = 1 by omega, if_false] at hs
  rcases List.mem_cons.1 hs with rfl | hs
  ·decide
  ·exact h1.2.2 s hs
 by_cases k3 : b.kind = 3
 ·simp [k3] at h
  have h1 := cc_ (e1_ h.1.2) 1
  have h2 := cc_ (e1_ h.2) 1
  simp only [k3, if_true]
  refine ⟨by simp; omega, fun s hs => ?_⟩
  simp only [show ¬ (3 : Int) = 1 by omega, show ¬ (3 : Int) = 2 by omega, if_false] at hs
  rcases List.mem_append.1 hs with hs | hs
  ·rcases List.mem_cons.1 hs with rfl | hs
   ·decide
   ·exact h1.2.2 s hs
  ·rcases List.mem_cons.1 hs with rfl | hs
   ·decide
   rcases List.mem_cons.1 hs with rfl | hs
   ·decide
   ·exact h2.2.2 s hs
 ·simp [k0, k1, k2, k3] at h
theorem lu_ {b : Sl} (h : ca_ b = true) : (sw' b).length ≤ 76 ∧ ∀ s ∈ sw' b, 1 ≤ s.length ∧ s.length ≤ 8 := by
 unfold ca_ at h
 unfold sw'
 by_cases k0 : b.kind = 0
 ·simp [k0]
 by_cases k1 : b.kind = 1
 ·simp [k1] at h
  have h1 := cc_ h.1.2 1
  have h2 := me_ h.1.1.1
  have h3 := jh_ h.1.1.2
  simp only [k1, if_true]
  refine ⟨by simp; omega, fun s hs => ?_⟩
  rcases List.mem_cons.1 hs with rfl | hs
  ·decide
  rcases List.mem_cons.1 hs with rfl | hs
  ·exact h2
  rcases List.mem_cons.1 hs with rfl | hs
  ·decide
  rcases List.mem_cons.1 hs with rfl | hs
  ·omega
  rcases List.mem_cons.1 hs with rfl | hs
  ·decide
  ·exact h1.2.2 s hs
 by_cases k2 : b.kind = 2
 ·simp [k2] at h
  have h1 := cc_ h.1.2 1
  simp only [k2, if_true]
  refine ⟨by simp; omega, fun s hs => ?_⟩
  simp only [show ¬ (2 : Int) = 1 by omega, if_false] at hs
  rcases List.mem_cons.1 hs with rfl | hs
  ·decide
  ·exact h1.2.2 s hs
 by_cases k3 : b.kind = 3
 ·simp [k3] at h
  have h1 := cc_ h.1.2 1
  have h2 := cc_ h.2 1
  simp only [k3, if_true]
  refine ⟨by simp; omega, fun s hs => ?_⟩
  simp only [show ¬ (3 : Int) = 1 by omega, show ¬ (3 : Int) = 2 by omega, if_false] at hs
  rcases List.mem_append.1 hs with hs | hs
  ·rcases List.mem_cons.1 hs with rfl | hs
   ·decide
   ·exact h1.2.2 s hs
  ·rcases List.mem_cons.1 hs with rfl | hs
   ·decide
   ·exact h2.2.2 s hs
 ·simp [k0, k1, k2, k3] at h
theorem fd_ {e : E} {d : Int} (h : form e d = true) : wds e 0 = wds e 1 := by
 rcases (bj_ h).2 with ⟨k1, _⟩ | ⟨k1, _⟩ | ⟨k1, h1, h2, h3, _⟩ | ⟨k1, h1, h2, h3, _⟩
 ·rw [dc_ k1, dc_ k1]
 ·rw [c0_ k1, c0_ k1]
 ·have := di_ h2
  rw [e9_ k1 h3, e9_ k1 h3, if_neg (by omega), if_neg (by omega)]
 ·rw [g5_ k1 h3, g5_ k1 h3]
end
end Go.Proofs.YtefmbmafdgedmaaGreatDoor
