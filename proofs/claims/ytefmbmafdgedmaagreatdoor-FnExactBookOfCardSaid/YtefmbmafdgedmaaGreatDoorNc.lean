/- The plain functions that the Go functions compute. Conditions: none. -/
import Derived.Test.YtefmbmafdgedmaaGreatDoorNa
import Derived.Lib.ItoaMem
import Derived.Lib.AtoiAll
set_option linter.unusedVariables false
set_option linter.unusedSimpArgs false
namespace Go.Proofs.YtefmbmafdgedmaaGreatDoor
section
def a4_ (s : Str) : Int := if s == [60] then 1 else if s == [43] || s == [45] then 2 else if s == [42] then 3 else 0
def ew_ (s : Str) : Bool := s == [105, 110, 116] || s == [98, 111, 111, 108]
def fp_ (s : Str) : Bool := s == [43] || s == [45] || s == [42] || s == [60]
def g6_ (s : Str) : Bool := s == [108, 101, 116] || s == [115, 97, 121] || s == [119, 104, 101, 110] || s == [97, 115] || s == [112, 114, 105, 110, 116] || s == [105, 102] || ew_ s
def cx_ (c : UInt8) : Bool := decide (97 ≤ (c.toNat : Int)) && decide ((c.toNat : Int) ≤ 122)
def cs_ (c : UInt8) : Bool := decide (48 ≤ (c.toNat : Int)) && decide ((c.toNat : Int) ≤ 57)
def eo_ (s : Str) : Bool := s.all cx_ && decide (1 ≤ s.length) && decide (s.length ≤ 8)
def f8_ (s : Str) : Bool := eo_ s && !g6_ s
def shape (k n : Int) (s : Str) (m : Nat) : Bool :=
 if k == 1 then decide (0 ≤ n) && decide (n ≤ 1000000) && s.isEmpty && m == 0
 else if k == 2 then n == 0 && f8_ s && m == 0
 else if k == 3 then n == 0 && fp_ s && m == 2
 else if k == 4 then n == 0 && ew_ s && m == 1
 else false
mutual
def form : E → Int → Bool
 | .mk k n s kids, d => decide (1 ≤ d) && shape k n s kids.length && di_ kids (d - 1)
def di_ : List E → Int → Bool
 | [], _ => true
 | e :: r, d => form e d && di_ r d
end
mutual
def many : E → Int → Int
 | .mk _ _ _ kids, d => 1 + if 0 < d then c4_ kids (d - 1) else 0
def c4_ : List E → Int → Int
 | [], _ => 0
 | e :: r, d => many e d + c4_ r d
end
mutual
def wlk : E → Int → Int → Bool × Int
 | .mk k n s kids, d, p => if 5 < d ∨ 12 < p + 1 then (false, p + 1) else if shape k n s kids.length then fi_ kids (d + 1) (p + 1) else (false, p + 1)
def fi_ : List E → Int → Int → Bool × Int
 | [], _, p => (true, p)
 | e :: r, d, p => if (wlk e d p).1 then fi_ r d (wlk e d p).2 else (false, (wlk e d p).2)
end
def same : E → E → Bool
 | .mk k n s kids, y => match y with
  | .mk k' n' s' kids' => (k == k') && (n == n') && (s == s') && sameL kids kids'
where sameL : List E → List E → Bool
 | [], [] => true
 | x :: r, y :: t => same x y && sameL r t
 | _, _ => false
theorem np_ (x y : E) : same x y = ((x.kind == y.kind) && (x.n == y.n) && (x.s == y.s) && same.sameL x.kids y.kids) := by
 cases x; cases y; simp only [same, E.kind, E.n, E.s, E.kids]
mutual
def bare : E → E
 | .mk k n s kids => if k = 4 then tn_ kids (.mk k n s []) else .mk k n s (ex_ kids)
def tn_ : List E → E → E
 | [], d => d
 | e :: _, _ => bare e
def ex_ : List E → List E
 | [] => []
 | e :: r => bare e :: ex_ r
end
abbrev Wd := List (Str × Int)
mutual
def cnt : E → Int
 | .mk k _ _ kids => if k = 4 then pp_ kids else 1 + pp_ kids
def pp_ : List E → Int
 | [] => 0
 | e :: r => cnt e + pp_ r
end
def brk (b : Bool) (l : Wd) : Wd := if b then ([40], -1) :: (l ++ [([41], -1)]) else l
mutual
def src : E → Int → Int → Wd
 | .mk k n s kids, must, nx =>
  if k = 1 then [(Go.Lib.decDigits n.toNat, nx)]
  else if k = 2 then [(s, nx)]
  else if k = 3 then brk (decide (a4_ s < must)) (rl_ kids (max 2 (a4_ s)) (nx + 1) ++ (s, nx) :: x6_ kids (a4_ s + 1) (nx + 1))
  else if k = 4 then rl_ kids 4 nx ++ [([97, 115], -1), (s, -1)]
  else []
def rl_ : List E → Int → Int → Wd
 | [], _, _ => []
 | e :: _, must, nx => src e must nx
def x6_ : List E → Int → Int → Wd
 | [], _, _ => []
 | e :: r, must, nx => rl_ r must (nx + cnt e)
end
def wds (e : E) (must : Int) : List Str := (src e must 0).map (·.1)
def bv_ (l : List Str) : Str := [(32 : UInt8)].intercalate l
def dy_ (l : List Str) (s : Str) : Int := if s ∈ l then (l.idxOf s : Int) else -1
end
section
open Go.Lib
def fj_ (a : Nat) (c : UInt8) : Nat := a * 10 + (c.toNat - 48)
def b8_ (l : Str) : Nat := l.foldl fj_ 0
def c2_ (l : Str) : Bool := decide (b8_ l ≤ 1000000) && (decDigits (b8_ l) == l)
def fm_ (c : UInt8) : Prop := 48 ≤ c.toNat ∧ c.toNat ≤ 57
theorem ph_ {d : Nat} (h : d < 10) : (UInt8.ofNat (48 + d)).toNat = 48 + d := by
 rw [UInt8.toNat_ofNat']; omega
theorem do_ {n : Nat} (h : ¬ n < 10) : decDigits n = decDigits (n / 10) ++ [UInt8.ofNat (48 + n % 10)] := by
 rw [decDigits, dif_neg h]
theorem dk_ : ∀ n : Nat, ∀ c ∈ decDigits n, fm_ c := by
 intro n
 induction n using Nat.strongRecOn with
 | ind n ih =>
  intro c hc
  by_cases h : n < 10
  ·rw [decDigits_one h] at hc
   simp only [List.mem_singleton] at hc
   subst hc; unfold fm_; rw [ph_ h]; omega
  ·rw [do_ h] at hc
   rcases List.mem_append.1 hc with hc | hc
   ·exact ih _ (by omega) c hc
   ·simp only [List.mem_singleton] at hc
    subst hc; unfold fm_; rw [ph_ (by omega)]; omega
theorem hg_ (l : Str) (c : UInt8) : b8_ (l ++ [c]) = b8_ l * 10 + (c.toNat - 48) := by simp [b8_, fj_]
theorem d1_ (n : Nat) : b8_ (decDigits n) = n := by
 induction n using Nat.strongRecOn with
 | ind n ih =>
  by_cases h : n < 10
  ·rw [decDigits_one h]
   show 0 * 10 + ((UInt8.ofNat (48 + n)).toNat - 48) = n
   rw [ph_ h]; omega
  ·rw [do_ h, hg_, ih _ (by omega), ph_ (by omega)]; omega
theorem eu_ (n : Nat) : decDigits n ≠ [] := by
 by_cases h : n < 10
 ·rw [decDigits_one h]; simp
 ·rw [do_ h]; simp
theorem ux_ : ∀ (l : Str) (a : Nat), a ≤ l.foldl fj_ a
 | [], a => Nat.le_refl _
 | c :: r, a => Nat.le_trans (by unfold fj_; omega) (ux_ r (fj_ a c))
theorem k8_ : ∀ (l : Str) (a : Nat), (∀ c ∈ l, fm_ c) → l.foldl fj_ a ≤ 1000000 → parseUint10 a l = .ok (l.foldl fj_ a)
 | [], a, _, _ => rfl
 | c :: r, a, h, hl => by
  have hc := h c (by simp)
  have h1 := ux_ r (fj_ a c)
  have h2 : fj_ a c ≤ 1000000 := Nat.le_trans h1 hl
  unfold fm_ at hc
  rw [parseUint10, if_pos hc, if_neg (by unfold fj_ at h2; omega), if_neg (by unfold fj_ at h2; omega)]
  exact k8_ r _ (fun x hx => h x (by simp [hx])) hl
theorem g4_ {n : Nat} (h : n ≤ 1000000) : atoiAll (decDigits n) = .ok (n : Int) := by
 have hd := dk_ n
 have hv := d1_ n
 cases hl : decDigits n with
 | nil => exact absurd hl (eu_ n)
 | cons c r =>
  rw [hl] at hd hv
  have hc := hd c (by simp)
  unfold fm_ at hc
  have hp : parseMag (c :: r) = .ok n := by
   unfold parseMag
   rw [if_neg (by simp), k8_ _ _ hd (by unfold b8_ at hv; omega)]
   exact congrArg _ hv
  simp only [atoiAll]
  rw [if_neg (by omega), hp]
  simp only []
  rw [if_neg (by omega), if_neg (by omega), if_neg (by omega)]
theorem du_ {l : Str} : c2_ l = true ↔ ∃ n : Nat, n ≤ 1000000 ∧ l = decDigits n := by
 unfold c2_
 simp only [Bool.and_eq_true, decide_eq_true_eq, beq_iff_eq]
 constructor
 ·rintro ⟨h, k⟩; exact ⟨_, h, k.symm⟩
 ·rintro ⟨n, h, rfl⟩; rw [d1_]; exact ⟨h, rfl⟩
theorem afq_ {l : Str} {v : Int} (h : atoiAll l = .ok v) : (decide (0 ≤ v) && decide (v ≤ 1000000) && (itoa v == l)) = c2_ l := by
 rw [Bool.eq_iff_iff, du_]
 simp only [Bool.and_eq_true, decide_eq_true_eq, beq_iff_eq]
 constructor
 ·rintro ⟨⟨h0, h1⟩, h2⟩
  refine ⟨v.toNat, by omega, ?_⟩
  rw [← h2, ← itoa_nonneg, Int.toNat_of_nonneg h0]
 ·rintro ⟨n, hn, rfl⟩
  rw [g4_ hn] at h
  injection h with h
  subst h
  exact ⟨⟨by omega, by omega⟩, itoa_nonneg n⟩
theorem zr_ {l : Str} {v : Int} (h : atoiAll l = .ok v) (k : c2_ l = true) : v = b8_ l := by
 obtain ⟨n, hn, rfl⟩ := du_.1 k
 rw [g4_ hn] at h
 injection h with h
 rw [d1_, h]
theorem z8_ {l : Str} (h : ∀ v, atoiAll l ≠ .ok v) : c2_ l = false := by
 rw [Bool.eq_false_iff]
 intro k
 obtain ⟨n, hn, rfl⟩ := du_.1 k
 exact h _ (g4_ hn)
def hu_ (l : Str) : Int × Bool :=
 let neg := l.head? == some 45
 let r := if neg then l.tail else l
 if r.length = 0 ∨ 17 < r.length ∨ (r.head? = some 48 ∧ (1 < r.length ∨ neg = true)) then (0, false)
 else if r.all cs_ then (if neg then -(b8_ r : Int) else b8_ r, true) else (0, false)
theorem jb_ (c : UInt8) : cs_ c = true ↔ fm_ c := by
 unfold cs_ fm_; simp only [Bool.and_eq_true, decide_eq_true_eq]; omega
theorem lead {l : Str} : l ≠ [] → (∀ c ∈ l, fm_ c) → l.head? ≠ some 48 → 1 ≤ b8_ l ∧ decDigits (b8_ l) = l := by
 suffices H : ∀ (k : Nat) (l : Str), l.length = k → l ≠ [] → (∀ c ∈ l, fm_ c) → l.head? ≠ some 48 → 1 ≤ b8_ l ∧ decDigits (b8_ l) = l from H _ l rfl
 intro k
 induction k with
 | zero => intro l h hne; exact absurd (List.eq_nil_of_length_eq_zero h) hne
 | succ k ih =>
  intro l hk hne hd hh
  obtain ⟨i, c, rfl⟩ : ∃ i c, l = i ++ [c] := ⟨l.dropLast, l.getLast hne, (List.dropLast_concat_getLast hne).symm⟩
  have hc := hd c (by simp)
  have hcc := hc
  unfold fm_ at hc
  have hcn : UInt8.ofNat (48 + (c.toNat - 48)) = c := by
   rw [show 48 + (c.toNat - 48) = c.toNat from by omega]; exact UInt8.ofNat_toNat
  rw [hg_]
  cases i with
  | nil =>
   have h0 : c ≠ 48 := fun e => hh (by simp [e])
   have h1 : c.toNat ≠ 48 := fun e => h0 (by rw [← UInt8.ofNat_toNat (x := c), e]; rfl)
   simp only [b8_, List.foldl_nil, Nat.zero_mul, Nat.zero_add, List.nil_append]
   exact ⟨by omega, by rw [decDigits_one (by omega), hcn]⟩
  | cons x r =>
   obtain ⟨h1, h2⟩ := ih (x :: r) (by simpa using hk) (by simp) (fun y hy => hd y (List.mem_append_left _ hy)) (by simpa using hh)
   refine ⟨by omega, ?_⟩
   rw [do_ (by omega), show (b8_ (x :: r) * 10 + (c.toNat - 48)) / 10 = b8_ (x :: r) from by omega, h2,
    show (b8_ (x :: r) * 10 + (c.toNat - 48)) % 10 = c.toNat - 48 from by omega, hcn]
end
section
theorem o4_ {kids : List E} {k : Nat} (h : k < kids.length) (d : Int) : di_ (kids.drop k) d = (form kids[k] d && di_ (kids.drop (k+1)) d) := by
 rw [List.drop_eq_getElem_cons h]; simp only [di_]
theorem yu_ {kids : List E} {k : Nat} (h : kids.length ≤ k) (d : Int) : di_ (kids.drop k) d = true := by
 rw [List.drop_of_length_le h]; simp only [di_]
theorem y8_ {k n : Int} {s : Str} {m : Nat} (h : shape k n s m = true) (hm : m ≠ 0) : k = 3 ∧ n = 0 ∧ m = 2 ∧ fp_ s = true ∨ k = 4 ∧ n = 0 ∧ m = 1 ∧ ew_ s = true := by
 unfold shape at h
 by_cases k1 : k = 1
 ·subst k1; simp at h; omega
 by_cases k2 : k = 2
 ·subst k2; simp at h; omega
 by_cases k3 : k = 3
 ·subst k3; simp at h; exact .inl ⟨rfl, h.1.1, h.2, h.1.2⟩
 by_cases k4 : k = 4
 ·subst k4; simp at h; exact .inr ⟨rfl, h.1.1, h.2, h.1.2⟩
 ·simp [k1, k2, k3, k4] at h
theorem nr_ {kids : List E} {k : Nat} (h : k < kids.length) (d : Int) : c4_ (kids.drop k) d = many kids[k] d + c4_ (kids.drop (k+1)) d := by
 rw [List.drop_eq_getElem_cons h]; simp only [c4_]
theorem x0_ {kids : List E} {k : Nat} (h : kids.length ≤ k) (d : Int) : c4_ (kids.drop k) d = 0 := by
 rw [List.drop_of_length_le h]; simp only [c4_]
mutual
theorem no_ : ∀ (e : E) (d : Nat), form e d = true → 1 ≤ many e d ∧ many e d ≤ 2 ^ d - 1
 | .mk k n s kids, 0, h => by simp [form] at h
 | .mk k n s kids, d + 1, h => by
  simp only [form, Bool.and_eq_true, decide_eq_true_eq] at h
  obtain ⟨⟨_, h2⟩, h3⟩ := h
  have h4 : kids.length ≤ 2 := by
   by_cases hk : kids.length = 0
   ·omega
   ·rcases y8_ h2 hk with ⟨_, _, h, _⟩ | ⟨_, _, h, _⟩ <;> omega
  have e1 : ((d + 1 : Nat) : Int) - 1 = (d : Int) := by omega
  rw [e1] at h3
  have := kh_ kids d h3
  simp only [many]
  rw [if_pos (by omega), e1]
  have h5 : (kids.length : Int) * (2 ^ d - 1) ≤ 2 * (2 ^ d - 1) := Int.mul_le_mul_of_nonneg_right (by omega) (by have : (0 : Int) < 2 ^ d := Int.pow_pos (by decide); omega)
  have h6 : (2 : Int) ^ (d + 1) = 2 * 2 ^ d := by rw [Int.pow_succ]; omega
  omega
theorem kh_ : ∀ (l : List E) (d : Nat), di_ l d = true → 0 ≤ c4_ l d ∧ c4_ l d ≤ l.length * (2 ^ d - 1)
 | [], d, _ => by simp [c4_]
 | e :: r, d, h => by
  simp only [di_, Bool.and_eq_true] at h
  have h1 := no_ e d h.1
  have h2 := kh_ r d h.2
  simp only [c4_, List.length_cons]
  have : ((r.length + 1 : Nat) : Int) * (2 ^ d - 1) = r.length * (2 ^ d - 1) + (2 ^ d - 1) := by rw [Int.natCast_add, Int.add_mul]; simp
  omega
end
theorem wb_ {l : List E} {d : Int} : ∀ (j : Nat), di_ l d = true → di_ (l.drop j) d = true := by
 induction l with
 | nil => intro j h; simpa using h
 | cons e r ih =>
  intro j h
  cases j with
  | zero => simpa using h
  | succ j => simp only [di_, Bool.and_eq_true] at h; simpa using ih j h.2
theorem md_ {l : List E} {d : Int} (h : di_ l d = true) : ∀ e ∈ l, form e d = true := by
 induction l with
 | nil => intro e he; cases he
 | cons x r ih =>
  simp only [di_, Bool.and_eq_true] at h
  intro e he
  rcases List.mem_cons.1 he with rfl | he
  ·exact h.1
  ·exact ih h.2 e he
theorem q3_ (s : Str) : decide (0 < a4_ s) = fp_ s := by
 unfold a4_ fp_
 by_cases h1 : s = [60]
 ·subst h1; rfl
 by_cases h2 : s = [43]
 ·subst h2; rfl
 by_cases h3 : s = [45]
 ·subst h3; rfl
 by_cases h4 : s = [42]
 ·subst h4; rfl
 ·simp [h1, h2, h3, h4]
mutual
theorem acn_ : ∀ (e : E) (d p : Int), (wlk e d p).1 = true → p < (wlk e d p).2 ∧ (wlk e d p).2 ≤ 12
 | .mk k n s kids, d, p, h => by
  simp only [wlk] at h ⊢
  by_cases h1 : 5 < d ∨ 12 < p + 1
  ·rw [if_pos h1] at h; cases h
  ·rw [if_neg h1] at h ⊢
   by_cases h2 : shape k n s kids.length = true
   ·rw [if_pos h2] at h ⊢
    have := xl_ kids (d + 1) (p + 1) (by omega) h
    omega
   ·rw [if_neg h2] at h; cases h
theorem xl_ : ∀ (l : List E) (d p : Int), p ≤ 12 → (fi_ l d p).1 = true → p ≤ (fi_ l d p).2 ∧ (fi_ l d p).2 ≤ 12
 | [], d, p, hp, _ => by simp only [fi_]; omega
 | e :: r, d, p, hp, h => by
  simp only [fi_] at h ⊢
  by_cases h1 : (wlk e d p).1 = true
  ·rw [if_pos h1] at h ⊢
   have h2 := acn_ e d p h1
   have h3 := xl_ r d _ h2.2 h
   omega
  ·rw [if_neg h1] at h; cases h
end
theorem qr_ {kids : List E} {k : Nat} (h : k < kids.length) (d p : Int) : fi_ (kids.drop k) d p = if (wlk kids[k] d p).1 then fi_ (kids.drop (k+1)) d (wlk kids[k] d p).2 else (false, (wlk kids[k] d p).2) := by
 rw [List.drop_eq_getElem_cons h]; simp only [fi_]
theorem acy_ {kids : List E} {k : Nat} (h : kids.length ≤ k) (d p : Int) : fi_ (kids.drop k) d p = (true, p) := by
 rw [List.drop_of_length_le h]; simp only [fi_]
def eok (e : E) : Bool := form e 5 && decide (many e 5 ≤ 12)
mutual
theorem td_ : ∀ (e : E) (dd : Nat) (p : Int), dd ≤ 5 → p ≤ 12 →
  (wlk e (6 - dd) p).1 = (form e dd && decide (p + many e dd ≤ 12)) ∧ ((form e dd && decide (p + many e dd ≤ 12)) = true → (wlk e (6 - dd) p).2 = p + many e dd)
 | .mk k n s kids, 0, p, hd, hp => by
  have h : form (.mk k n s kids) ((0 : Nat) : Int) = false := by simp [form]
  rw [h]
  simp only [wlk]
  rw [if_pos (by omega)]
  simp
 | .mk k n s kids, dd + 1, p, hd, hp => by
  have e1 : (6 : Int) - ((dd + 1 : Nat) : Int) + 1 = 6 - (dd : Int) := by omega
  have e2 : (((dd + 1 : Nat) : Int)) - 1 = (dd : Int) := by omega
  have hml := no_ (.mk k n s kids) (dd + 1)
  by_cases h1 : 12 < p + 1
  ·have hw : wlk (.mk k n s kids) (6 - ((dd + 1 : Nat) : Int)) p = (false, p + 1) := by simp only [wlk]; rw [if_pos (.inr h1)]
   rw [hw]
   have : (form (.mk k n s kids) ((dd + 1 : Nat) : Int) && decide (p + many (.mk k n s kids) ((dd + 1 : Nat) : Int) ≤ 12)) = false := by
    rw [Bool.eq_false_iff]; intro h
    simp only [Bool.and_eq_true, decide_eq_true_eq] at h
    have := hml h.1; omega
   rw [this]; simp
  ·have hf : form (.mk k n s kids) ((dd + 1 : Nat) : Int) = (shape k n s kids.length && di_ kids (dd : Int)) := by
    simp only [form]; rw [e2, show decide ((1 : Int) ≤ ((dd + 1 : Nat) : Int)) = true by simp; omega]; rfl
   have hm : many (.mk k n s kids) ((dd + 1 : Nat) : Int) = 1 + c4_ kids (dd : Int) := by
    simp only [many]; rw [if_pos (by omega), e2]
   have hw : wlk (.mk k n s kids) (6 - ((dd + 1 : Nat) : Int)) p = if shape k n s kids.length then fi_ kids (6 - (dd : Int)) (p + 1) else (false, p + 1) := by
    simp only [wlk]; rw [if_neg (by omega), e1]
   rw [hf, hm, hw]
   cases hs : shape k n s kids.length with
   | false => simp
   | true =>
    have := pk_ kids dd (p + 1) (by omega) (by omega)
    rw [if_pos rfl, Bool.true_and, show p + (1 + c4_ kids (dd : Int)) = p + 1 + c4_ kids (dd : Int) by omega]
    exact this
theorem pk_ : ∀ (l : List E) (dd : Nat) (p : Int), dd ≤ 5 → p ≤ 12 →
  (fi_ l (6 - dd) p).1 = (di_ l dd && decide (p + c4_ l dd ≤ 12)) ∧ ((di_ l dd && decide (p + c4_ l dd ≤ 12)) = true → (fi_ l (6 - dd) p).2 = p + c4_ l dd)
 | [], dd, p, hd, hp => by simp [fi_, di_, c4_, hp]
 | e :: r, dd, p, hd, hp => by
  obtain ⟨h1, h2⟩ := td_ e dd p hd hp
  rw [show di_ (e :: r) (dd : Int) = (form e dd && di_ r dd) by simp only [di_], show c4_ (e :: r) (dd : Int) = many e dd + c4_ r dd by simp only [c4_],
   show fi_ (e :: r) (6 - (dd : Int)) p = if (wlk e (6 - (dd : Int)) p).1 then fi_ r (6 - (dd : Int)) (wlk e (6 - (dd : Int)) p).2 else (false, (wlk e (6 - (dd : Int)) p).2) by simp only [fi_]]
  by_cases hw : (form e dd && decide (p + many e dd ≤ 12)) = true
  ·have hw1 := h1.trans hw
   have hw2 := h2 hw
   simp only [Bool.and_eq_true, decide_eq_true_eq] at hw
   rw [if_pos hw1, hw2, hw.1, Bool.true_and, show p + (many e dd + c4_ r dd) = p + many e dd + c4_ r dd by omega]
   exact pk_ r dd _ hd hw.2
  ·have hw1 : (wlk e (6 - (dd : Int)) p).1 = false := by rw [h1]; simpa using hw
   have : (form e (dd : Int) && di_ r (dd : Int) && decide (p + (many e dd + c4_ r dd) ≤ 12)) = false := by
    rw [Bool.eq_false_iff]; intro h
    simp only [Bool.and_eq_true, decide_eq_true_eq] at h hw
    have := kh_ r dd h.1.2
    exact hw ⟨h.1.1, by omega⟩
   rw [hw1, this]; simp
end
theorem ae2_ (e : E) : (wlk e 1 0).1 = eok e := by
 have := (td_ e 5 0 (by omega) (by omega)).1
 rw [show (6 : Int) - ((5 : Nat) : Int) = 1 by omega] at this
 rw [this]; unfold eok; simp
end
section
def E0 : E := .mk 0 0 [] []
theorem E.ind' {P : E → Prop} (h : ∀ e, (∀ x ∈ e.kids, P x) → P e) (e : E) : P e := E.ind (fun k n s kids ih => h _ ih) e
theorem bo_ {α : Type} {l : List α} {k : Nat} {d : α} (h : k < l.length) : l.getD k d ∈ l := by
 simp [List.getD_eq_getElem?_getD, List.getElem?_eq_getElem h]
mutual
def sm : E → Bool
 | .mk _ _ s kids => decide (s.length < 4611686018427387904) && decide (kids.length < 1099511627776) && sms kids
def sms : List E → Bool
 | [] => true
 | e :: r => sm e && sms r
end
theorem c5_ : ∀ {l : List E}, sms l = true → ∀ e ∈ l, sm e = true
 | [], _, e, he => by cases he
 | x :: l, h, e, he => by
  simp only [sms, Bool.and_eq_true] at h
  rcases List.mem_cons.1 he with rfl | he
  ·exact h.1
  ·exact c5_ h.2 e he
theorem fn_ {e : E} (h : sm e = true) : e.s.length < 4611686018427387904 ∧ e.kids.length < 4611686018427387904 ∧ sms e.kids = true := by
 cases e; simp only [sm, Bool.and_eq_true, decide_eq_true_eq] at h; exact ⟨h.1.1, Nat.lt_trans h.1.2 (by decide), h.2⟩
theorem afj_ {e : E} (h : sm e = true) : e.kids.length < 1099511627776 := by
 cases e; simp only [sm, Bool.and_eq_true, decide_eq_true_eq] at h; exact h.1.2
theorem hf_ {l : List E} {k : Nat} (h : k < l.length) : l.getD k E0 = l[k] := by simp [List.getD_eq_getElem?_getD, List.getElem?_eq_getElem h]
theorem kp_ (e : E) (d : Int) : form e d = (decide (1 ≤ d) && shape e.kind e.n e.s e.kids.length && di_ e.kids (d - 1)) := by cases e; simp only [form, E.kind, E.n, E.s, E.kids]
mutual
def wf : E → Bool
 | .mk k _ _ kids => (k != 4 || !kids.isEmpty) && wfs kids
def wfs : List E → Bool
 | [] => true
 | e :: r => wf e && wfs r
end
theorem r5_ : ∀ {l : List E}, wfs l = true → ∀ e ∈ l, wf e = true
 | [], _, e, he => by cases he
 | x :: l, h, e, he => by
  simp only [wfs, Bool.and_eq_true] at h
  rcases List.mem_cons.1 he with rfl | he
  ·exact h.1
  ·exact r5_ h.2 e he
theorem ado_ {e : E} (h : wf e = true) : (e.kind = 4 → 0 < e.kids.length) ∧ wfs e.kids = true := by
 cases e with
 | mk k n s kids =>
  simp only [wf, Bool.and_eq_true] at h
  refine ⟨fun hk => ?_, h.2⟩
  simp only [E.kind] at hk
  subst hk
  have := h.1
  simp only [E.kids]
  cases kids with
  | nil => simp at this
  | cons a b => simp
theorem q1_ {e : E} (h : e.kind = 4) (hk : 0 < e.kids.length) : bare e = bare (e.kids.getD 0 E0) := by
 cases e with
 | mk k n s kids =>
  simp only [E.kind] at h
  simp only [E.kids] at hk
  subst h
  cases kids with
  | nil => simp at hk
  | cons a b => simp [bare, tn_, E.kids]
theorem mh_ {e : E} (h : e.kind ≠ 4) : bare e = .mk e.kind e.n e.s (ex_ e.kids) := by
 cases e with
 | mk k n s kids => simp only [E.kind] at h; simp [bare, h, E.kind, E.n, E.s, E.kids]
theorem gm_ : ∀ l : List E, (ex_ l).length = l.length
 | [] => by simp [ex_]
 | e :: r => by simp [ex_, gm_ r]
theorem lt_ : ∀ l : List E, ex_ l = l.map bare
 | [] => by simp [ex_]
 | e :: r => by simp [ex_, lt_ r]
theorem wh_ {l : List E} {k : Nat} (h : k < l.length) : ex_ (l.take (k + 1)) = ex_ (l.take k) ++ [bare (l.getD k E0)] := by
 rw [lt_, lt_, List.take_add_one, List.getElem?_eq_getElem h, List.getD_eq_getElem?_getD, List.getElem?_eq_getElem h, List.map_append]
 rfl
mutual
def pla : E → Bool
 | .mk k _ _ kids => k != 4 && s5_ kids
def s5_ : List E → Bool
 | [] => true
 | e :: r => pla e && s5_ r
end
theorem z3_ (e : E) : pla e = (e.kind != 4 && s5_ e.kids) := by cases e; simp only [pla, E.kind, E.kids]
end
section
theorem E.eta (e : E) : E.mk e.kind e.n e.s e.kids = e := by cases e; rfl
mutual
theorem k4_ : ∀ x y : E, same x y = true ↔ x = y
 | .mk k n s kids, .mk k' n' s' kids' => by
  have := qz_ kids kids'
  simp only [same, Bool.and_eq_true, beq_iff_eq, this, E.mk.injEq, and_assoc]
theorem qz_ : ∀ x y : List E, same.sameL x y = true ↔ x = y
 | [], [] => by simp [same.sameL]
 | [], _ :: _ => by simp [same.sameL]
 | _ :: _, [] => by simp [same.sameL]
 | x :: xs, y :: ys => by
  have h1 := k4_ x y
  have h2 := qz_ xs ys
  simp only [same.sameL, Bool.and_eq_true, h1, h2, List.cons.injEq]
end
instance : DecidableEq E := fun x y => if h : same x y = true then isTrue ((k4_ x y).1 h) else isFalse fun e => h ((k4_ x y).2 e)
mutual
theorem k1_ : ∀ e : E, wf e = true → pla (bare e) = true
 | .mk k n s kids, h => by
  simp only [wf, Bool.and_eq_true] at h
  simp only [bare]
  by_cases hk : k = 4
  ·rw [if_pos hk]
   cases kids with
   | nil => simp [hk] at h
   | cons a r =>
    simp only [tn_]
    simp only [wfs, Bool.and_eq_true] at h
    exact k1_ a h.2.1
  ·rw [if_neg hk]
   simp only [pla, Bool.and_eq_true, bne_iff_ne, ne_eq]
   exact ⟨hk, nx_ kids h.2⟩
theorem nx_ : ∀ l : List E, wfs l = true → s5_ (ex_ l) = true
 | [], _ => by simp only [ex_, s5_]
 | e :: r, h => by
  simp only [wfs, Bool.and_eq_true] at h
  simp only [ex_, s5_, k1_ e h.1, nx_ r h.2, Bool.and_self]
end
theorem wg_ {k n : Int} {s : Str} {m : Nat} (h : shape k n s m = true) : k = 4 → 0 < m := by
 rintro rfl; simp [shape] at h; omega
mutual
theorem wq_ : ∀ (e : E) (d : Int), form e d = true → wf e = true
 | .mk k n s kids, d, h => by
  simp only [form, Bool.and_eq_true] at h
  have h1 := wg_ h.1.2
  simp only [wf, Bool.and_eq_true, Bool.or_eq_true, bne_iff_ne, ne_eq, Bool.not_eq_true', List.isEmpty_eq_false_iff]
  refine ⟨?_, p7_ kids _ h.2⟩
  by_cases hk : k = 4
  ·right; intro e; have := h1 hk; simp [e] at this
  ·exact .inl hk
theorem p7_ : ∀ (l : List E) (d : Int), di_ l d = true → wfs l = true
 | [], _, _ => by simp only [wfs]
 | e :: r, d, h => by
  simp only [di_, Bool.and_eq_true] at h
  simp only [wfs, wq_ e d h.1, p7_ r d h.2, Bool.and_self]
end
theorem bk_ {e : E} (h : eok e = true) : form e 5 = true := by simp only [eok, Bool.and_eq_true] at h; exact h.1
theorem h3_ {e : E} (h : eok e = true) : many e 5 ≤ 12 := by simp only [eok, Bool.and_eq_true, decide_eq_true_eq] at h; exact h.2
theorem lw_ {e : E} (h : eok e = true) : wf e = true := wq_ e 5 (bk_ h)
theorem ne_ (b : Bool) (l : Wd) : (brk b l).map (·.1) = if b then [[40]] ++ l.map (·.1) ++ [[41]] else l.map (·.1) := by
 unfold brk; cases b <;> simp
mutual
theorem acl_ : ∀ (e : E) (must a b : Int), (src e must a).map (·.1) = (src e must b).map (·.1)
 | .mk k n s kids, must, a, b => by
  simp only [src]
  by_cases k1 : k = 1
  ·rw [if_pos k1, if_pos k1]; rfl
  by_cases k2 : k = 2
  ·rw [if_neg k1, if_neg k1, if_pos k2, if_pos k2]; rfl
  by_cases k3 : k = 3
  ·rw [if_neg k1, if_neg k1, if_neg k2, if_neg k2, if_pos k3, if_pos k3, ne_, ne_]
   simp only [List.map_append, List.map_cons, r7_ kids (max 2 (a4_ s)) (a + 1) (b + 1), afw_ kids (a4_ s + 1) (a + 1) (b + 1)]
  by_cases k4 : k = 4
  ·rw [if_neg k1, if_neg k1, if_neg k2, if_neg k2, if_neg k3, if_neg k3, if_pos k4, if_pos k4]
   simp only [List.map_append, r7_ kids 4 a b]
  ·rw [if_neg k1, if_neg k1, if_neg k2, if_neg k2, if_neg k3, if_neg k3, if_neg k4, if_neg k4]
theorem r7_ : ∀ (l : List E) (must a b : Int), (rl_ l must a).map (·.1) = (rl_ l must b).map (·.1)
 | [], _, _, _ => by simp only [rl_]
 | e :: r, must, a, b => by simp only [rl_]; exact acl_ e must a b
theorem afw_ : ∀ (l : List E) (must a b : Int), (x6_ l must a).map (·.1) = (x6_ l must b).map (·.1)
 | [], _, _, _ => by simp only [x6_]
 | e :: r, must, a, b => by simp only [x6_]; exact r7_ r must _ _
end
theorem ej_ (e : E) (must a : Int) : (src e must a).map (·.1) = wds e must := acl_ e must a 0
theorem dv_ {e : E} (h : e.kind = 1) (must : Int) : wds e must = [Go.Lib.decDigits e.n.toNat] := by
 cases e; simp only [E.kind] at h; subst h; simp [wds, src, E.n]
theorem c9_ {e : E} (h : e.kind = 2) (must : Int) : wds e must = [e.s] := by
 cases e; simp only [E.kind] at h; subst h; simp [wds, src, E.s]
theorem ha_ {e : E} (h : e.kind = 3) (hl : e.kids.length = 2) (must nx : Int) : src e must nx = brk (decide (a4_ e.s < must)) (src (e.kids.getD 0 E0) (max 2 (a4_ e.s)) (nx + 1) ++ (e.s, nx) :: src (e.kids.getD 1 E0) (a4_ e.s + 1) (nx + 1 + cnt (e.kids.getD 0 E0))) := by
 cases e with
 | mk k n s kids =>
  simp only [E.kind] at h; subst h
  simp only [E.kids] at hl
  match kids, hl with
  | [a, b], _ => simp [src, rl_, x6_, E.s, E.kids]; rfl
theorem d8_ {e : E} (h : e.kind = 3) (hl : e.kids.length = 2) (must : Int) : wds e must = if a4_ e.s < must then [[40]] ++ (wds (e.kids.getD 0 E0) (max 2 (a4_ e.s)) ++ [e.s] ++ wds (e.kids.getD 1 E0) (a4_ e.s + 1)) ++ [[41]] else wds (e.kids.getD 0 E0) (max 2 (a4_ e.s)) ++ [e.s] ++ wds (e.kids.getD 1 E0) (a4_ e.s + 1) := by
 rw [wds, ha_ h hl, ne_]
 simp only [decide_eq_true_eq, List.map_append, List.map_cons, ej_, List.append_assoc, List.cons_append, List.nil_append]
theorem lp_ {e : E} (h : e.kind = 4) (hl : e.kids.length = 1) (must nx : Int) : src e must nx = src (e.kids.getD 0 E0) 4 nx ++ [([97, 115], -1), (e.s, -1)] := by
 cases e with
 | mk k n s kids =>
  simp only [E.kind] at h; subst h
  simp only [E.kids] at hl
  match kids, hl with
  | [a], _ => simp [src, rl_, E.s, E.kids]
theorem gt_ {e : E} (h : e.kind = 4) (hl : e.kids.length = 1) (must : Int) : wds e must = wds (e.kids.getD 0 E0) 4 ++ [[97, 115], e.s] := by
 rw [wds, lp_ h hl]; simp only [List.map_append, List.map_cons, List.map_nil, ej_]
theorem kj_ {e : E} (h : e.kind = 3) (hl : e.kids.length = 2) : cnt e = 1 + cnt (e.kids.getD 0 E0) + cnt (e.kids.getD 1 E0) := by
 cases e with
 | mk k n s kids =>
  simp only [E.kind] at h; subst h
  simp only [E.kids] at hl
  match kids, hl with
  | [a, b], _ => simp [cnt, pp_, E.kids]; omega
theorem sf_ {e : E} (h : e.kind = 4) (hl : e.kids.length = 1) : cnt e = cnt (e.kids.getD 0 E0) := by
 cases e with
 | mk k n s kids =>
  simp only [E.kind] at h; subst h
  simp only [E.kids] at hl
  match kids, hl with
  | [a], _ => simp [cnt, pp_, E.kids]
theorem bb_ {e : E} {d : Int} (h : form e d = true) : 1 ≤ d ∧
    ((e.kind = 1 ∧ 0 ≤ e.n ∧ e.n ≤ 1000000 ∧ e.s = [] ∧ e.kids = []) ∨ (e.kind = 2 ∧ e.n = 0 ∧ f8_ e.s = true ∧ e.kids = []) ∨
     (e.kind = 3 ∧ e.n = 0 ∧ fp_ e.s = true ∧ e.kids.length = 2 ∧ form (e.kids.getD 0 E0) (d - 1) = true ∧ form (e.kids.getD 1 E0) (d - 1) = true) ∨
     (e.kind = 4 ∧ e.n = 0 ∧ ew_ e.s = true ∧ e.kids.length = 1 ∧ form (e.kids.getD 0 E0) (d - 1) = true)) := by
  cases e with
  | mk k n s kids =>
    simp only [form, Bool.and_eq_true, decide_eq_true_eq] at h
    obtain ⟨⟨h1, h2⟩, h3⟩ := h
    refine ⟨h1, ?_⟩
    simp only [E.kind, E.n, E.s, E.kids]
    have hm := md_ h3
    unfold shape at h2
    by_cases k1 : k = 1
    · subst k1; simp at h2; exact .inl ⟨rfl, h2.1.1.1, h2.1.1.2, h2.1.2, h2.2⟩
    by_cases k2 : k = 2
    · subst k2; simp at h2; exact .inr (.inl ⟨rfl, h2.1.1, h2.1.2, h2.2⟩)
    by_cases k3 : k = 3
    · subst k3; simp at h2
      exact .inr (.inr (.inl ⟨rfl, h2.1.1, h2.1.2, h2.2, hm _ (bo_ (by omega)), hm _ (bo_ (by omega))⟩))
    by_cases k4 : k = 4
    · subst k4; simp at h2
      exact .inr (.inr (.inr ⟨rfl, h2.1.1, h2.1.2, h2.2, hm _ (bo_ (by omega))⟩))
    · simp [k1, k2, k3, k4] at h2
theorem ho_ {e : E} (h : e.kids.length = 2) : e.kids = [e.kids.getD 0 E0, e.kids.getD 1 E0] := by
 match hk : e.kids, h with
 | [a, b], _ => rfl
theorem n2_ {e : E} (h : e.kids.length = 1) : e.kids = [e.kids.getD 0 E0] := by
 match hk : e.kids, h with
 | [a], _ => rfl
theorem ku_ (e : E) {d : Int} (h : 1 ≤ d) : many e d = 1 + c4_ e.kids (d - 1) := by
 cases e; simp only [many, E.kids]; rw [if_pos (by omega)]
theorem hy_ {e : E} {d : Int} (h : 1 ≤ d) (hl : e.kids.length = 2) : many e d = 1 + many (e.kids.getD 0 E0) (d - 1) + many (e.kids.getD 1 E0) (d - 1) := by
 rw [ku_ e h, ho_ hl]; simp only [c4_, List.getD_cons_zero, List.getD_cons_succ]; omega
theorem ir_ {e : E} {d : Int} (h : 1 ≤ d) (hl : e.kids.length = 1) : many e d = 1 + many (e.kids.getD 0 E0) (d - 1) := by
 rw [ku_ e h, n2_ hl]; simp only [c4_, List.getD_cons_zero]; omega
theorem js_ {n : Nat} (h : n ≤ 1000000) : (Go.Lib.decDigits n).length ≤ 7 := by
 have key : ∀ (k n : Nat), n < 10 ^ k → 0 < k → (Go.Lib.decDigits n).length ≤ k := by
  intro k
  induction k with
  | zero => intro n _ h; omega
  | succ k ih =>
   intro n hn _
   by_cases h1 : n < 10
   ·rw [Go.Lib.decDigits_one h1]; simp
   ·rw [Go.Lib.decDigits, dif_neg h1]
    have h2 : n / 10 < 10 ^ k := by rw [Nat.pow_succ] at hn; omega
    have h3 : 0 < k := by
     rcases Nat.eq_zero_or_pos k with rfl | h3
     ·simp at hn; omega
     ·exact h3
    have := ih (n / 10) h2 h3
    simp; omega
 exact key 7 n (by omega) (by decide)
theorem n0_ {s : Str} (h : f8_ s = true) : 1 ≤ s.length ∧ s.length ≤ 8 := by
 simp only [f8_, eo_, Bool.and_eq_true, decide_eq_true_eq] at h; omega
theorem aco_ {s : Str} (h : fp_ s = true) : s.length = 1 := by
 simp only [fp_, Bool.or_eq_true, beq_iff_eq] at h; rcases h with ((h | h) | h) | h <;> subst h <;> rfl
theorem qe_ {s : Str} (h : ew_ s = true) : s.length ≤ 4 ∧ 1 ≤ s.length := by
 simp only [ew_, Bool.or_eq_true, beq_iff_eq] at h; rcases h with h | h <;> subst h <;> decide
theorem cp_ {s : Str} (h : fp_ s = true) : 1 ≤ a4_ s ∧ a4_ s ≤ 3 := by
 simp only [fp_, Bool.or_eq_true, beq_iff_eq] at h; rcases h with ((h | h) | h) | h <;> subst h <;> decide
theorem db_ : ∀ (d : Nat) (e : E) (must : Int), form e d = true → 1 ≤ (wds e must).length ∧ ((wds e must).length : Int) ≤ 3 * many e d ∧ (∀ s ∈ wds e must, 1 ≤ s.length ∧ s.length ≤ 8) ∧ 1 ≤ cnt e ∧ cnt e ≤ many e d
 | 0, e, must, h => by have := (bb_ h).1; omega
 | d + 1, e, must, h => by
  have e1 : ((d + 1 : Nat) : Int) - 1 = (d : Int) := by omega
  have hd : (1 : Int) ≤ ((d + 1 : Nat) : Int) := by omega
  rcases (bb_ h).2 with ⟨k1, h1, h2, h3, h4⟩ | ⟨k1, h1, h2, h3⟩ | ⟨k1, h1, h2, h3, h4, h5⟩ | ⟨k1, h1, h2, h3, h4⟩
  ·have hm : many e ((d + 1 : Nat) : Int) = 1 := by rw [ku_ e hd, h4]; simp [c4_]
   have hc : cnt e = 1 := by cases e; simp only [E.kind, E.kids] at k1 h4; subst k1 h4; simp [cnt, pp_]
   rw [dv_ k1, hm, hc]
   have := js_ (n := e.n.toNat) (by omega)
   have h0 := List.length_pos_iff.2 (decDigits_ne' e.n.toNat)
   simp; omega
  ·have hm : many e ((d + 1 : Nat) : Int) = 1 := by rw [ku_ e hd, h3]; simp [c4_]
   have hc : cnt e = 1 := by cases e; simp only [E.kind, E.kids] at k1 h3; subst k1 h3; simp [cnt, pp_]
   have := n0_ h2
   rw [c9_ k1, hm, hc]; simp; omega
  ·rw [e1] at h4 h5
   obtain ⟨a1, a2, a3, a4, a5⟩ := db_ d (e.kids.getD 0 E0) (max 2 (a4_ e.s)) h4
   obtain ⟨b1, b2, b3, b4, b5⟩ := db_ d (e.kids.getD 1 E0) (a4_ e.s + 1) h5
   have hm := hy_ hd h3
   rw [e1] at hm
   have hl := aco_ h2
   rw [d8_ k1 h3, hm, kj_ k1 h3]
   refine ⟨by split <;> simp <;> omega, ?_, ?_, by omega, by omega⟩
   ·split <;> simp only [List.length_append, List.length_cons, List.length_nil] <;> omega
   ·intro s hs
    have key : s ∈ wds (e.kids.getD 0 E0) (max 2 (a4_ e.s)) ++ [e.s] ++ wds (e.kids.getD 1 E0) (a4_ e.s + 1) → 1 ≤ s.length ∧ s.length ≤ 8 := fun hs => by
     simp only [List.mem_append, List.mem_singleton] at hs
     rcases hs with (hs | hs) | hs
     ·exact a3 s hs
     ·rw [hs, hl]; omega
     ·exact b3 s hs
    split at hs
    ·rcases List.mem_append.1 hs with hs | hs
     ·rcases List.mem_append.1 hs with hs | hs
      ·simp at hs; subst hs; simp
      ·exact key hs
     ·simp at hs; subst hs; simp
    ·exact key hs
  ·rw [e1] at h4
   obtain ⟨a1, a2, a3, a4, a5⟩ := db_ d (e.kids.getD 0 E0) 4 h4
   have hm := ir_ hd h3
   rw [e1] at hm
   have hl := qe_ h2
   rw [gt_ k1 h3, hm, sf_ k1 h3]
   refine ⟨by simp, by simp only [List.length_append, List.length_cons, List.length_nil]; omega, ?_, by omega, by omega⟩
   intro s hs
   simp only [List.mem_append, List.mem_cons, List.not_mem_nil, or_false] at hs
   rcases hs with hs | hs | hs
   ·exact a3 s hs
   ·subst hs; simp
   ·rw [hs]; omega
where
 decDigits_ne' (n : Nat) : Go.Lib.decDigits n ≠ [] := by
  by_cases h : n < 10
  ·rw [Go.Lib.decDigits_one h]; simp
  ·rw [Go.Lib.decDigits, dif_neg h]; simp
theorem cn_ {e : E} (h : eok e = true) (must : Int) : 1 ≤ (wds e must).length ∧ (wds e must).length ≤ 36 ∧ ∀ s ∈ wds e must, 1 ≤ s.length ∧ s.length ≤ 8 := by
 have := db_ 5 e must (bk_ h)
 have h2 := h3_ h
 have h3 : many e ((5 : Nat) : Int) = many e 5 := rfl
 rw [h3] at this
 exact ⟨this.1, by omega, this.2.2.1⟩
end
section
structure Bl where
 kind : Int
 name : Str
 expr : E
 thn : E
structure Sl where
 kind : Int
 name : Str
 type : Str
 expr : E
 thn : E
def wEq : Str := [61]
def ey_ : Str := [112, 114, 105, 110, 116]
def wIf : Str := [105, 102]
def g7_ : Str := [58]
def hn_ : Str := [108, 101, 116]
def bj_ : Str := [115, 97, 121]
def dr_ : Str := [119, 104, 101, 110]
def im_ (e : E) : Bool := same e E0
def pe (e : E) : Bool := eok e && pla e
def bw (b : Bl) : List Str :=
 if b.kind = 1 then b.name :: wEq :: wds b.expr 1
 else if b.kind = 2 then ey_ :: wds b.expr 1
 else if b.kind = 3 then wIf :: wds b.expr 1 ++ g7_ :: ey_ :: wds b.thn 1
 else []
def sw' (s : Sl) : List Str :=
 if s.kind = 1 then hn_ :: s.name :: g7_ :: s.type :: wEq :: wds s.expr 1
 else if s.kind = 2 then bj_ :: wds s.expr 1
 else if s.kind = 3 then dr_ :: wds s.expr 1 ++ bj_ :: wds s.thn 1
 else []
def jn_ (b : Bl) : Bool :=
 if b.kind = 0 then b.name == [] && im_ b.expr && im_ b.thn
 else if b.kind = 1 then f8_ b.name && pe b.expr && im_ b.thn
 else if b.kind = 2 then b.name == [] && pe b.expr && im_ b.thn
 else if b.kind = 3 then b.name == [] && pe b.expr && pe b.thn
 else false
def bok (b : Bl) : Bool := jn_ b && decide ((bv_ (bw b)).length ≤ 120)
def cw_ (s : Sl) : Bool :=
 if s.kind = 0 then s.name == [] && s.type == [] && im_ s.expr && im_ s.thn
 else if s.kind = 1 then f8_ s.name && ew_ s.type && eok s.expr && im_ s.thn
 else if s.kind = 2 then s.name == [] && s.type == [] && eok s.expr && im_ s.thn
 else if s.kind = 3 then s.name == [] && s.type == [] && eok s.expr && eok s.thn
 else false
def sok (s : Sl) : Bool := cw_ s && decide ((bv_ (sw' s)).length ≤ 116)
def bof (s : Sl) : Bl := ⟨s.kind, s.name, if s.kind = 0 then E0 else bare s.expr, if s.kind = 3 then bare s.thn else E0⟩
def B0 : Bl := ⟨0, [], E0, E0⟩
def S0 : Sl := ⟨0, [], [], E0, E0⟩
theorem Bl.eta (b : Bl) : Bl.mk b.kind b.name b.expr b.thn = b := rfl
theorem dm_ (e : E) : im_ e = true ↔ e = E0 := k4_ e E0
theorem o0_ : im_ E0 = true := (dm_ E0).2 rfl
theorem gb_ {e : E} (h : pe e = true) : eok e = true := by simp only [pe, Bool.and_eq_true] at h; exact h.1
theorem vq_ (s x : Str) (l : List Str) : [(32 : UInt8)].intercalate (s :: x :: l) = s ++ 32 :: [(32 : UInt8)].intercalate (x :: l) := by
 simp [List.intercalate]
theorem er_ (s x : Str) (l : List Str) : bv_ (s :: x :: l) = s ++ 32 :: bv_ (x :: l) := vq_ s x l
theorem fe_ (s : Str) : bv_ [s] = s := by simp [bv_, List.intercalate]
theorem ff_ : bv_ [] = [] := rfl
theorem f6_ : ∀ l : List Str, l ≠ [] → (bv_ l).length + 1 = (l.map List.length).sum + l.length
 | [], h => absurd rfl h
 | [s], _ => by rw [fe_]; simp
 | s :: x :: l, _ => by
  have := f6_ (x :: l) (by simp)
  rw [er_]
  simp only [List.length_append, List.length_cons, List.map_cons, List.sum_cons] at this ⊢
  omega
theorem aad_ {l : List Str} {k : Nat} (h : ∀ s ∈ l, s.length ≤ k) : (l.map List.length).sum ≤ l.length * k := by
 induction l with
 | nil => simp
 | cons a r ih =>
  have h1 := h a (by simp)
  have h2 := ih fun s hs => h s (by simp [hs])
  simp only [List.map_cons, List.sum_cons, List.length_cons, Nat.add_mul]; omega
theorem pe_ {l : List Str} {k : Nat} (h : ∀ s ∈ l, s.length ≤ k) : (bv_ l).length ≤ l.length * (k + 1) := by
 by_cases hl : l = []
 ·subst hl; simp [ff_]
 ·have h1 := f6_ l hl
  have h2 := aad_ h
  rw [Nat.mul_add]; omega
theorem oh_ {b : Bl} (h : jn_ b = true) : (bw b).length ≤ 76 ∧ ∀ s ∈ bw b, 1 ≤ s.length ∧ s.length ≤ 8 := by
 unfold jn_ at h
 unfold bw
 by_cases k0 : b.kind = 0
 ·simp [k0]
 by_cases k1 : b.kind = 1
 ·simp [k1] at h
  have h1 := cn_ (gb_ h.1.2) 1
  have h2 := n0_ h.1.1
  simp only [k1, if_true]
  refine ⟨by simp; omega, fun s hs => ?_⟩
  rcases List.mem_cons.1 hs with rfl | hs
  ·exact h2
  rcases List.mem_cons.1 hs with rfl | hs
  ·decide
  ·exact h1.2.2 s hs
 by_cases k2 : b.kind = 2
 ·simp [k2] at h
  have h1 := cn_ (gb_ h.1.2) 1
  simp only [k2, if_true]
  refine ⟨by simp; omega, fun s hs => ?_⟩
  simp only [show ¬ (2 : Int) = 1 by omega, if_false] at hs
  rcases List.mem_cons.1 hs with rfl | hs
  ·decide
  ·exact h1.2.2 s hs
 by_cases k3 : b.kind = 3
 ·simp [k3] at h
  have h1 := cn_ (gb_ h.1.2) 1
  have h2 := cn_ (gb_ h.2) 1
  simp only [k3, if_true]
  refine ⟨by simp; omega, fun s hs => ?_⟩
  simp only [show ¬ (3 : Int) = 1 by omega, show ¬ (3 : Int) = 2 by omega, if_false] at hs
  rcases List.mem_append.1 hs with hs | hs
  ·rcases List.mem_cons.1 hs with rfl | hs
   ·decide
   ·exact h1.2.2 s hs
  ·rcases List.mem_cons.1 hs with rfl | hs
   ·decide
   rcases List.mem_cons.1 hs with rfl | hs
   ·decide
   ·exact h2.2.2 s hs
 ·simp [k0, k1, k2, k3] at h
theorem mk_ {b : Sl} (h : cw_ b = true) : (sw' b).length ≤ 76 ∧ ∀ s ∈ sw' b, 1 ≤ s.length ∧ s.length ≤ 8 := by
 unfold cw_ at h
 unfold sw'
 by_cases k0 : b.kind = 0
 ·simp [k0]
 by_cases k1 : b.kind = 1
 ·simp [k1] at h
  have h1 := cn_ h.1.2 1
  have h2 := n0_ h.1.1.1
  have h3 := qe_ h.1.1.2
  simp only [k1, if_true]
  refine ⟨by simp; omega, fun s hs => ?_⟩
  rcases List.mem_cons.1 hs with rfl | hs
  ·decide
  rcases List.mem_cons.1 hs with rfl | hs
  ·exact h2
  rcases List.mem_cons.1 hs with rfl | hs
  ·decide
  rcases List.mem_cons.1 hs with rfl | hs
  ·omega
  rcases List.mem_cons.1 hs with rfl | hs
  ·decide
  ·exact h1.2.2 s hs
 by_cases k2 : b.kind = 2
 ·simp [k2] at h
  have h1 := cn_ h.1.2 1
  simp only [k2, if_true]
  refine ⟨by simp; omega, fun s hs => ?_⟩
  simp only [show ¬ (2 : Int) = 1 by omega, if_false] at hs
  rcases List.mem_cons.1 hs with rfl | hs
  ·decide
  ·exact h1.2.2 s hs
 by_cases k3 : b.kind = 3
 ·simp [k3] at h
  have h1 := cn_ h.1.2 1
  have h2 := cn_ h.2 1
  simp only [k3, if_true]
  refine ⟨by simp; omega, fun s hs => ?_⟩
  simp only [show ¬ (3 : Int) = 1 by omega, show ¬ (3 : Int) = 2 by omega, if_false] at hs
  rcases List.mem_append.1 hs with hs | hs
  ·rcases List.mem_cons.1 hs with rfl | hs
   ·decide
   ·exact h1.2.2 s hs
  ·rcases List.mem_cons.1 hs with rfl | hs
   ·decide
   ·exact h2.2.2 s hs
 ·simp [k0, k1, k2, k3] at h
theorem ev_ {e : E} {d : Int} (h : form e d = true) : wds e 0 = wds e 1 := by
 rcases (bb_ h).2 with ⟨k1, _⟩ | ⟨k1, _⟩ | ⟨k1, h1, h2, h3, _⟩ | ⟨k1, h1, h2, h3, _⟩
 ·rw [dv_ k1, dv_ k1]
 ·rw [c9_ k1, c9_ k1]
 ·have := cp_ h2
  rw [d8_ k1 h3, d8_ k1 h3, if_neg (by omega), if_neg (by omega)]
 ·rw [gt_ k1 h3, gt_ k1 h3]
end
end Go.Proofs.YtefmbmafdgedmaaGreatDoor
