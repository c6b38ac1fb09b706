/- The plain functions that the Go functions compute. Conditions: none. -/
import Derived.Test.YtefmbmafdgedmaaGreatDoorKa
import Derived.Lib.ItoaMem
import Derived.Lib.AtoiAll
set_option linter.unusedVariables false
set_option linter.unusedSimpArgs false
namespace Go.Proofs.YtefmbmafdgedmaaGreatDoor
section
def br_ (s : Str) : Int := if s == [60] then 1 else if s == [43] || s == [45] then 2 else if s == [42] then 3 else 0
def fd_ (s : Str) : Bool := s == [105, 110, 116] || s == [98, 111, 111, 108]
def fp_ (s : Str) : Bool := s == [43] || s == [45] || s == [42] || s == [60]
def gl_ (s : Str) : Bool := s == [108, 101, 116] || s == [115, 97, 121] || s == [119, 104, 101, 110] || s == [97, 115] || s == [112, 114, 105, 110, 116] || s == [105, 102] || fd_ s
def cz_ (c : UInt8) : Bool := decide (97 ≤ (c.toNat : Int)) && decide ((c.toNat : Int) ≤ 122)
def ct_ (c : UInt8) : Bool := decide (48 ≤ (c.toNat : Int)) && decide ((c.toNat : Int) ≤ 57)
def e6_ (s : Str) : Bool := s.all cz_ && decide (1 ≤ s.length) && decide (s.length ≤ 8)
def f3_ (s : Str) : Bool := e6_ s && !gl_ s
def shape (k n : Int) (s : Str) (m : Nat) : Bool :=
 if k == 1 then decide (0 ≤ n) && decide (n ≤ 1000000) && s.isEmpty && m == 0
 else if k == 2 then n == 0 && f3_ s && m == 0
 else if k == 3 then n == 0 && fp_ s && m == 2
 else if k == 4 then n == 0 && fd_ s && m == 1
 else false
mutual
def form : E → Int → Bool
 | .mk k n s kids, d => decide (1 ≤ d) && shape k n s kids.length && d2_ kids (d - 1)
def d2_ : List E → Int → Bool
 | [], _ => true
 | e :: r, d => form e d && d2_ r d
end
mutual
def many : E → Int → Int
 | .mk _ _ _ kids, d => 1 + if 0 < d then dn_ kids (d - 1) else 0
def dn_ : List E → Int → Int
 | [], _ => 0
 | e :: r, d => many e d + dn_ r d
end
mutual
def wlk : E → Int → Int → Bool × Int
 | .mk k n s kids, d, p => if 5 < d ∨ 12 < p + 1 then (false, p + 1) else if shape k n s kids.length then ff_ kids (d + 1) (p + 1) else (false, p + 1)
def ff_ : List E → Int → Int → Bool × Int
 | [], _, p => (true, p)
 | e :: r, d, p => if (wlk e d p).1 then ff_ r d (wlk e d p).2 else (false, (wlk e d p).2)
end
def same : E → E → Bool
 | .mk k n s kids, y => match y with
  | .mk k' n' s' kids' => (k == k') && (n == n') && (s == s') && sameL kids kids'
where sameL : List E → List E → Bool
 | [], [] => true
 | x :: r, y :: t => same x y && sameL r t
 | _, _ => false
theorem kn_ (x y : E) : same x y = ((x.kind == y.kind) && (x.n == y.n) && (x.s == y.s) && same.sameL x.kids y.kids) := by
 cases x; cases y; simp only [same, E.kind, E.n, E.s, E.kids]
mutual
def bare : E → E
 | .mk k n s kids => if k = 4 then rf_ kids (.mk k n s []) else .mk k n s (eu_ kids)
def rf_ : List E → E → E
 | [], d => d
 | e :: _, _ => bare e
def eu_ : List E → List E
 | [] => []
 | e :: r => bare e :: eu_ r
end
abbrev Wd := List (Str × Int)
mutual
def cnt : E → Int
 | .mk k _ _ kids => if k = 4 then qh_ kids else 1 + qh_ kids
def qh_ : List E → Int
 | [] => 0
 | e :: r => cnt e + qh_ r
end
def brk (b : Bool) (l : Wd) : Wd := if b then ([40], -1) :: (l ++ [([41], -1)]) else l
mutual
def src : E → Int → Int → Wd
 | .mk k n s kids, must, nx =>
  if k = 1 then [(Go.Lib.decDigits n.toNat, nx)]
  else if k = 2 then [(s, nx)]
  else if k = 3 then brk (decide (br_ s < must)) (p8_ kids (max 2 (br_ s)) (nx + 1) ++ (s, nx) :: xu_ kids (br_ s + 1) (nx + 1))
  else if k = 4 then p8_ kids 4 nx ++ [([97, 115], -1), (s, -1)]
  else []
def p8_ : List E → Int → Int → Wd
 | [], _, _ => []
 | e :: _, must, nx => src e must nx
def xu_ : List E → Int → Int → Wd
 | [], _, _ => []
 | e :: r, must, nx => p8_ r must (nx + cnt e)
end
def wds (e : E) (must : Int) : List Str := (src e must 0).map (·.1)
def cg_ (l : List Str) : Str := [(32 : UInt8)].intercalate l
def co_ (l : List Str) (s : Str) : Int := if s ∈ l then (l.idxOf s : Int) else -1
end
section
open Go.Lib
def fo_ (a : Nat) (c : UInt8) : Nat := a * 10 + (c.toNat - 48)
def b9_ (l : Str) : Nat := l.foldl fo_ 0
def cw_ (l : Str) : Bool := decide (b9_ l ≤ 1000000) && (decDigits (b9_ l) == l)
def fh_ (c : UInt8) : Prop := 48 ≤ c.toNat ∧ c.toNat ≤ 57
theorem n3_ {d : Nat} (h : d < 10) : (UInt8.ofNat (48 + d)).toNat = 48 + d := by
 rw [UInt8.toNat_ofNat']; omega
theorem dt_ {n : Nat} (h : ¬ n < 10) : decDigits n = decDigits (n / 10) ++ [UInt8.ofNat (48 + n % 10)] := by
 rw [decDigits, dif_neg h]
theorem d1_ : ∀ n : Nat, ∀ c ∈ decDigits n, fh_ c := by
 intro n
 induction n using Nat.strongRecOn with
 | ind n ih =>
  intro c hc
  by_cases h : n < 10
  ·rw [decDigits_one h] at hc
   simp only [List.mem_singleton] at hc
   subst hc; unfold fh_; rw [n3_ h]; omega
  ·rw [dt_ h] at hc
   rcases List.mem_append.1 hc with hc | hc
   ·exact ih _ (by omega) c hc
   ·simp only [List.mem_singleton] at hc
    subst hc; unfold fh_; rw [n3_ (by omega)]; omega
theorem ha_ (l : Str) (c : UInt8) : b9_ (l ++ [c]) = b9_ l * 10 + (c.toNat - 48) := by simp [b9_, fo_]
theorem d7_ (n : Nat) : b9_ (decDigits n) = n := by
 induction n using Nat.strongRecOn with
 | ind n ih =>
  by_cases h : n < 10
  ·rw [decDigits_one h]
   show 0 * 10 + ((UInt8.ofNat (48 + n)).toNat - 48) = n
   rw [n3_ h]; omega
  ·rw [dt_ h, ha_, ih _ (by omega), n3_ (by omega)]; omega
theorem ez_ (n : Nat) : decDigits n ≠ [] := by
 by_cases h : n < 10
 ·rw [decDigits_one h]; simp
 ·rw [dt_ h]; simp
theorem r1_ : ∀ (l : Str) (a : Nat), a ≤ l.foldl fo_ a
 | [], a => Nat.le_refl _
 | c :: r, a => Nat.le_trans (by unfold fo_; omega) (r1_ r (fo_ a c))
theorem j8_ : ∀ (l : Str) (a : Nat), (∀ c ∈ l, fh_ c) → l.foldl fo_ a ≤ 1000000 → parseUint10 a l = .ok (l.foldl fo_ a)
 | [], a, _, _ => rfl
 | c :: r, a, h, hl => by
  have hc := h c (by simp)
  have h1 := r1_ r (fo_ a c)
  have h2 : fo_ a c ≤ 1000000 := Nat.le_trans h1 hl
  unfold fh_ at hc
  rw [parseUint10, if_pos hc, if_neg (by unfold fo_ at h2; omega), if_neg (by unfold fo_ at h2; omega)]
  exact j8_ r _ (fun x hx => h x (by simp [hx])) hl
theorem g0_ {n : Nat} (h : n ≤ 1000000) : atoiAll (decDigits n) = .ok (n : Int) := by
 have hd := d1_ n
 have hv := d7_ n
 cases hl : decDigits n with
 | nil => exact absurd hl (ez_ n)
 | cons c r =>
  rw [hl] at hd hv
  have hc := hd c (by simp)
  unfold fh_ at hc
  have hp : parseMag (c :: r) = .ok n := by
   unfold parseMag
   rw [if_neg (by simp), j8_ _ _ hd (by unfold b9_ at hv; omega)]
   exact congrArg _ hv
  simp only [atoiAll]
  rw [if_neg (by omega), hp]
  simp only []
  rw [if_neg (by omega), if_neg (by omega), if_neg (by omega)]
theorem d5_ {l : Str} : cw_ l = true ↔ ∃ n : Nat, n ≤ 1000000 ∧ l = decDigits n := by
 unfold cw_
 simp only [T5_, T3_, beq_iff_eq]
 constructor
 ·rintro ⟨h, k⟩; exact ⟨_, h, k.symm⟩
 ·rintro ⟨n, h, rfl⟩; rw [d7_]; exact ⟨h, rfl⟩
theorem acn_ {l : Str} {v : Int} (h : atoiAll l = .ok v) : (decide (0 ≤ v) && decide (v ≤ 1000000) && (itoa v == l)) = cw_ l := by
 rw [Bool.eq_iff_iff, d5_]
 simp only [T5_, T3_, beq_iff_eq]
 constructor
 ·rintro ⟨⟨h0, h1⟩, h2⟩
  refine ⟨v.toNat, by omega, ?_⟩
  rw [← h2, ← itoa_nonneg, Int.toNat_of_nonneg h0]
 ·rintro ⟨n, hn, rfl⟩
  rw [g0_ hn] at h
  injection h with h
  subst h
  exact ⟨⟨by omega, by omega⟩, itoa_nonneg n⟩
theorem yz_ {l : Str} {v : Int} (h : atoiAll l = .ok v) (k : cw_ l = true) : v = b9_ l := by
 obtain ⟨n, hn, rfl⟩ := d5_.1 k
 rw [g0_ hn] at h
 injection h with h
 rw [d7_, h]
theorem aax_ {l : Str} (h : ∀ v, atoiAll l ≠ .ok v) : cw_ l = false := by
 rw [Bool.eq_false_iff]
 intro k
 obtain ⟨n, hn, rfl⟩ := d5_.1 k
 exact h _ (g0_ hn)
def hs_ (l : Str) : Int × Bool :=
 let neg := l.head? == some 45
 let r := if neg then l.tail else l
 if r.length = 0 ∨ 17 < r.length ∨ (r.head? = some 48 ∧ (1 < r.length ∨ neg = true)) then (0, false)
 else if r.all ct_ then (if neg then -(b9_ r : Int) else b9_ r, true) else (0, false)
theorem li_ (c : UInt8) : ct_ c = true ↔ fh_ c := by
 unfold ct_ fh_; simp only [T5_, T3_]; omega
theorem lead {l : Str} : l ≠ [] → (∀ c ∈ l, fh_ c) → l.head? ≠ some 48 → 1 ≤ b9_ l ∧ decDigits (b9_ l) = l := by
 suffices H : ∀ (k : Nat) (l : Str), l.length = k → l ≠ [] → (∀ c ∈ l, fh_ c) → l.head? ≠ some 48 → 1 ≤ b9_ l ∧ decDigits (b9_ l) = l from H _ l rfl
 intro k
 induction k with
 | zero => intro l h hne; exact absurd (List.eq_nil_of_length_eq_zero h) hne
 | succ k ih =>
  intro l hk hne hd hh
  obtain ⟨i, c, rfl⟩ : ∃ i c, l = i ++ [c] := ⟨l.dropLast, l.getLast hne, (List.dropLast_concat_getLast hne).symm⟩
  have hc := hd c (by simp)
  have hcc := hc
  unfold fh_ at hc
  have hcn : UInt8.ofNat (48 + (c.toNat - 48)) = c := by
   rw [show 48 + (c.toNat - 48) = c.toNat from by omega]; exact UInt8.ofNat_toNat
  rw [ha_]
  cases i with
  | nil =>
   have h0 : c ≠ 48 := fun e => hh (by simp [e])
   have h1 : c.toNat ≠ 48 := fun e => h0 (by rw [← UInt8.ofNat_toNat (x := c), e]; rfl)
   simp only [b9_, List.foldl_nil, Nat.zero_mul, Nat.zero_add, List.nil_append]
   exact ⟨by omega, by rw [decDigits_one (by omega), hcn]⟩
  | cons x r =>
   obtain ⟨h1, h2⟩ := ih (x :: r) (by simpa using hk) (by simp) (fun y hy => hd y (List.mem_append_left _ hy)) (by simpa using hh)
   refine ⟨by omega, ?_⟩
   rw [dt_ (by omega), show (b9_ (x :: r) * 10 + (c.toNat - 48)) / 10 = b9_ (x :: r) from by omega, h2,
    show (b9_ (x :: r) * 10 + (c.toNat - 48)) % 10 = c.toNat - 48 from by omega, hcn]
end
section
theorem ok_ {kids : List E} {k : Nat} (h : k < kids.length) (d : Int) : d2_ (kids.drop k) d = (form kids[k] d && d2_ (kids.drop (k+1)) d) := by
 rw [List.drop_eq_getElem_cons h]; simp only [d2_]
theorem xk_ {kids : List E} {k : Nat} (h : kids.length ≤ k) (d : Int) : d2_ (kids.drop k) d = true := by
 rw [List.drop_of_length_le h]; simp only [d2_]
theorem xf_ {k n : Int} {s : Str} {m : Nat} (h : shape k n s m = true) (hm : m ≠ 0) : k = 3 ∧ n = 0 ∧ m = 2 ∧ fp_ s = true ∨ k = 4 ∧ n = 0 ∧ m = 1 ∧ fd_ s = true := by
 unfold shape at h
 by_cases k1 : k = 1
 ·subst k1; simp at h; omega
 by_cases k2 : k = 2
 ·subst k2; simp at h; omega
 by_cases k3 : k = 3
 ·subst k3; simp at h; exact .inl ⟨rfl, h.1.1, h.2, h.1.2⟩
 by_cases k4 : k = 4
 ·subst k4; simp at h; exact .inr ⟨rfl, h.1.1, h.2, h.1.2⟩
 ·simp [k1, k2, k3, k4] at h
theorem ni_ {kids : List E} {k : Nat} (h : k < kids.length) (d : Int) : dn_ (kids.drop k) d = many kids[k] d + dn_ (kids.drop (k+1)) d := by
 rw [List.drop_eq_getElem_cons h]; simp only [dn_]
theorem wt_ {kids : List E} {k : Nat} (h : kids.length ≤ k) (d : Int) : dn_ (kids.drop k) d = 0 := by
 rw [List.drop_of_length_le h]; simp only [dn_]
mutual
theorem m1_ : ∀ (e : E) (d : Nat), form e d = true → 1 ≤ many e d ∧ many e d ≤ 2 ^ d - 1
 | .mk k n s kids, 0, h => by simp [form] at h
 | .mk k n s kids, d + 1, h => by
  simp only [form, T5_, T3_] at h
  obtain ⟨⟨_, h2⟩, h3⟩ := h
  have h4 : kids.length ≤ 2 := by
   by_cases hk : kids.length = 0
   ·omega
   ·rcases xf_ h2 hk with ⟨_, _, h, _⟩ | ⟨_, _, h, _⟩ <;> omega
  have e1 : ((d + 1 : Nat) : Int) - 1 = (d : Int) := by omega
  rw [e1] at h3
  have := j9_ kids d h3
  simp only [many]
  rw [if_pos (by omega), e1]
  have h5 : (kids.length : Int) * (2 ^ d - 1) ≤ 2 * (2 ^ d - 1) := Int.mul_le_mul_of_nonneg_right (by omega) (by have : (0 : Int) < 2 ^ d := Int.pow_pos (by decide); omega)
  have h6 : (2 : Int) ^ (d + 1) = 2 * 2 ^ d := by rw [Int.pow_succ]; omega
  omega
theorem j9_ : ∀ (l : List E) (d : Nat), d2_ l d = true → 0 ≤ dn_ l d ∧ dn_ l d ≤ l.length * (2 ^ d - 1)
 | [], d, _ => by simp [dn_]
 | e :: r, d, h => by
  simp only [d2_, T5_] at h
  have h1 := m1_ e d h.1
  have h2 := j9_ r d h.2
  simp only [dn_, T7_]
  have : ((r.length + 1 : Nat) : Int) * (2 ^ d - 1) = r.length * (2 ^ d - 1) + (2 ^ d - 1) := by rw [Int.natCast_add, Int.add_mul]; simp
  omega
end
theorem uo_ {l : List E} {d : Int} : ∀ (j : Nat), d2_ l d = true → d2_ (l.drop j) d = true := by
 induction l with
 | nil => intro j h; simpa using h
 | cons e r ih =>
  intro j h
  cases j with
  | zero => simpa using h
  | succ j => simp only [d2_, T5_] at h; simpa using ih j h.2
theorem k3_ {l : List E} {d : Int} (h : d2_ l d = true) : ∀ e ∈ l, form e d = true := by
 induction l with
 | nil => intro e he; cases he
 | cons x r ih =>
  simp only [d2_, T5_] at h
  intro e he
  rcases List.mem_cons.1 he with rfl | he
  ·exact h.1
  ·exact ih h.2 e he
theorem pd_ (s : Str) : decide (0 < br_ s) = fp_ s := by
 unfold br_ fp_
 by_cases h1 : s = [60]
 ·subst h1; rfl
 by_cases h2 : s = [43]
 ·subst h2; rfl
 by_cases h3 : s = [45]
 ·subst h3; rfl
 by_cases h4 : s = [42]
 ·subst h4; rfl
 ·simp [h1, h2, h3, h4]
mutual
theorem aa2_ : ∀ (e : E) (d p : Int), (wlk e d p).1 = true → p < (wlk e d p).2 ∧ (wlk e d p).2 ≤ 12
 | .mk k n s kids, d, p, h => by
  simp only [wlk] at h ⊢
  by_cases h1 : 5 < d ∨ 12 < p + 1
  ·rw [if_pos h1] at h; cases h
  ·rw [if_neg h1] at h ⊢
   by_cases h2 : shape k n s kids.length = true
   ·rw [if_pos h2] at h ⊢
    have := u4_ kids (d + 1) (p + 1) (by omega) h
    omega
   ·rw [if_neg h2] at h; cases h
theorem u4_ : ∀ (l : List E) (d p : Int), p ≤ 12 → (ff_ l d p).1 = true → p ≤ (ff_ l d p).2 ∧ (ff_ l d p).2 ≤ 12
 | [], d, p, hp, _ => by simp only [ff_]; omega
 | e :: r, d, p, hp, h => by
  simp only [ff_] at h ⊢
  by_cases h1 : (wlk e d p).1 = true
  ·rw [if_pos h1] at h ⊢
   have h2 := aa2_ e d p h1
   have h3 := u4_ r d _ h2.2 h
   omega
  ·rw [if_neg h1] at h; cases h
end
theorem p1_ {kids : List E} {k : Nat} (h : k < kids.length) (d p : Int) : ff_ (kids.drop k) d p = if (wlk kids[k] d p).1 then ff_ (kids.drop (k+1)) d (wlk kids[k] d p).2 else (false, (wlk kids[k] d p).2) := by
 rw [List.drop_eq_getElem_cons h]; simp only [ff_]
theorem yr_ {kids : List E} {k : Nat} (h : kids.length ≤ k) (d p : Int) : ff_ (kids.drop k) d p = (true, p) := by
 rw [List.drop_of_length_le h]; simp only [ff_]
def eok (e : E) : Bool := form e 5 && decide (many e 5 ≤ 12)
mutual
theorem ru_ : ∀ (e : E) (dd : Nat) (p : Int), dd ≤ 5 → p ≤ 12 →
  (wlk e (6 - dd) p).1 = (form e dd && decide (p + many e dd ≤ 12)) ∧ ((form e dd && decide (p + many e dd ≤ 12)) = true → (wlk e (6 - dd) p).2 = p + many e dd)
 | .mk k n s kids, 0, p, hd, hp => by
  have h : form (.mk k n s kids) ((0 : Nat) : Int) = false := by simp [form]
  rw [h]
  simp only [wlk]
  rw [if_pos (by omega)]
  simp
 | .mk k n s kids, dd + 1, p, hd, hp => by
  have e1 : (6 : Int) - ((dd + 1 : Nat) : Int) + 1 = 6 - (dd : Int) := by omega
  have e2 : (((dd + 1 : Nat) : Int)) - 1 = (dd : Int) := by omega
  have hml := m1_ (.mk k n s kids) (dd + 1)
  by_cases h1 : 12 < p + 1
  ·have hw : wlk (.mk k n s kids) (6 - ((dd + 1 : Nat) : Int)) p = (false, p + 1) := by simp only [wlk]; rw [if_pos (.inr h1)]
   rw [hw]
   have : (form (.mk k n s kids) ((dd + 1 : Nat) : Int) && decide (p + many (.mk k n s kids) ((dd + 1 : Nat) : Int) ≤ 12)) = false := by
    rw [Bool.eq_false_iff]; intro h
    simp only [T5_, T3_] at h
    have := hml h.1; omega
   rw [this]; simp
  ·have hf : form (.mk k n s kids) ((dd + 1 : Nat) : Int) = (shape k n s kids.length && d2_ kids (dd : Int)) := by
    simp only [form]; rw [e2, show decide ((1 : Int) ≤ ((dd + 1 : Nat) : Int)) = true by simp; omega]; rfl
   have hm : many (.mk k n s kids) ((dd + 1 : Nat) : Int) = 1 + dn_ kids (dd : Int) := by
    simp only [many]; rw [if_pos (by omega), e2]
   have hw : wlk (.mk k n s kids) (6 - ((dd + 1 : Nat) : Int)) p = if shape k n s kids.length then ff_ kids (6 - (dd : Int)) (p + 1) else (false, p + 1) := by
    simp only [wlk]; rw [if_neg (by omega), e1]
   rw [hf, hm, hw]
   cases hs : shape k n s kids.length with
   | false => simp
   | true =>
    have := ot_ kids dd (p + 1) (by omega) (by omega)
    rw [if_pos rfl, Bool.true_and, show p + (1 + dn_ kids (dd : Int)) = p + 1 + dn_ kids (dd : Int) by omega]
    exact this
theorem ot_ : ∀ (l : List E) (dd : Nat) (p : Int), dd ≤ 5 → p ≤ 12 →
  (ff_ l (6 - dd) p).1 = (d2_ l dd && decide (p + dn_ l dd ≤ 12)) ∧ ((d2_ l dd && decide (p + dn_ l dd ≤ 12)) = true → (ff_ l (6 - dd) p).2 = p + dn_ l dd)
 | [], dd, p, hd, hp => by simp [ff_, d2_, dn_, hp]
 | e :: r, dd, p, hd, hp => by
  obtain ⟨h1, h2⟩ := ru_ e dd p hd hp
  rw [show d2_ (e :: r) (dd : Int) = (form e dd && d2_ r dd) by simp only [d2_], show dn_ (e :: r) (dd : Int) = many e dd + dn_ r dd by simp only [dn_],
   show ff_ (e :: r) (6 - (dd : Int)) p = if (wlk e (6 - (dd : Int)) p).1 then ff_ r (6 - (dd : Int)) (wlk e (6 - (dd : Int)) p).2 else (false, (wlk e (6 - (dd : Int)) p).2) by simp only [ff_]]
  by_cases hw : (form e dd && decide (p + many e dd ≤ 12)) = true
  ·have hw1 := h1.trans hw
   have hw2 := h2 hw
   simp only [T5_, T3_] at hw
   rw [if_pos hw1, hw2, hw.1, Bool.true_and, show p + (many e dd + dn_ r dd) = p + many e dd + dn_ r dd by omega]
   exact ot_ r dd _ hd hw.2
  ·have hw1 : (wlk e (6 - (dd : Int)) p).1 = false := by rw [h1]; simpa using hw
   have : (form e (dd : Int) && d2_ r (dd : Int) && decide (p + (many e dd + dn_ r dd) ≤ 12)) = false := by
    rw [Bool.eq_false_iff]; intro h
    simp only [T5_, T3_] at h hw
    have := j9_ r dd h.1.2
    exact hw ⟨h.1.1, by omega⟩
   rw [hw1, this]; simp
end
theorem ac0_ (e : E) : (wlk e 1 0).1 = eok e := by
 have := (ru_ e 5 0 (by omega) (by omega)).1
 rw [show (6 : Int) - ((5 : Nat) : Int) = 1 by omega] at this
 rw [this]; unfold eok; simp
end
section
def E0 : E := .mk 0 0 [] []
theorem E.ind' {P : E → Prop} (h : ∀ e, (∀ x ∈ e.kids, P x) → P e) (e : E) : P e := E.ind (fun k n s kids ih => h _ ih) e
theorem b5_ {α : Type} {l : List α} {k : Nat} {d : α} (h : k < l.length) : l.getD k d ∈ l := by
 simp [T8_, T6_ h]
mutual
def sm : E → Bool
 | .mk _ _ s kids => decide (s.length < 4611686018427387904) && decide (kids.length < 1099511627776) && sms kids
def sms : List E → Bool
 | [] => true
 | e :: r => sm e && sms r
end
theorem de_ : ∀ {l : List E}, sms l = true → ∀ e ∈ l, sm e = true
 | [], _, e, he => by cases he
 | x :: l, h, e, he => by
  simp only [sms, T5_] at h
  rcases List.mem_cons.1 he with rfl | he
  ·exact h.1
  ·exact de_ h.2 e he
theorem ey_ {e : E} (h : sm e = true) : e.s.length < 4611686018427387904 ∧ e.kids.length < 4611686018427387904 ∧ sms e.kids = true := by
 cases e; simp only [sm, T5_, T3_] at h; exact ⟨h.1.1, Nat.lt_trans h.1.2 (by decide), h.2⟩
theorem acv_ {e : E} (h : sm e = true) : e.kids.length < 1099511627776 := by
 cases e; simp only [sm, T5_, T3_] at h; exact h.1.2
theorem gm_ {l : List E} {k : Nat} (h : k < l.length) : l.getD k E0 = l[k] := by simp [T8_, T6_ h]
theorem kv_ (e : E) (d : Int) : form e d = (decide (1 ≤ d) && shape e.kind e.n e.s e.kids.length && d2_ e.kids (d - 1)) := by cases e; simp only [form, E.kind, E.n, E.s, E.kids]
mutual
def wf : E → Bool
 | .mk k _ _ kids => (k != 4 || !kids.isEmpty) && wfs kids
def wfs : List E → Bool
 | [] => true
 | e :: r => wf e && wfs r
end
theorem qc_ : ∀ {l : List E}, wfs l = true → ∀ e ∈ l, wf e = true
 | [], _, e, he => by cases he
 | x :: l, h, e, he => by
  simp only [wfs, T5_] at h
  rcases List.mem_cons.1 he with rfl | he
  ·exact h.1
  ·exact qc_ h.2 e he
theorem abv_ {e : E} (h : wf e = true) : (e.kind = 4 → 0 < e.kids.length) ∧ wfs e.kids = true := by
 cases e with
 | mk k n s kids =>
  simp only [wf, T5_] at h
  refine ⟨fun hk => ?_, h.2⟩
  simp only [E.kind] at hk
  subst hk
  have := h.1
  simp only [E.kids]
  cases kids with
  | nil => simp at this
  | cons a b => simp
theorem wg_ {e : E} (h : e.kind = 4) (hk : 0 < e.kids.length) : bare e = bare (e.kids.getD 0 E0) := by
 cases e with
 | mk k n s kids =>
  simp only [E.kind] at h
  simp only [E.kids] at hk
  subst h
  cases kids with
  | nil => simp at hk
  | cons a b => simp [bare, rf_, E.kids]
theorem wi_ {e : E} (h : e.kind ≠ 4) : bare e = .mk e.kind e.n e.s (eu_ e.kids) := by
 cases e with
 | mk k n s kids => simp only [E.kind] at h; simp [bare, h, E.kind, E.n, E.s, E.kids]
theorem gs_ : ∀ l : List E, (eu_ l).length = l.length
 | [] => by simp [eu_]
 | e :: r => by simp [eu_, gs_ r]
theorem lq_ : ∀ l : List E, eu_ l = l.map bare
 | [] => by simp [eu_]
 | e :: r => by simp [eu_, lq_ r]
theorem t6_ {l : List E} {k : Nat} (h : k < l.length) : eu_ (l.take (k + 1)) = eu_ (l.take k) ++ [bare (l.getD k E0)] := by
 rw [lq_, lq_, List.take_add_one, T6_ h, T8_, T6_ h, List.map_append]
 rfl
mutual
def pla : E → Bool
 | .mk k _ _ kids => k != 4 && jq_ kids
def jq_ : List E → Bool
 | [] => true
 | e :: r => pla e && jq_ r
end
theorem ui_ (e : E) : pla e = (e.kind != 4 && jq_ e.kids) := by cases e; simp only [pla, E.kind, E.kids]
end
section
theorem E.eta (e : E) : E.mk e.kind e.n e.s e.kids = e := by cases e; rfl
mutual
theorem hi_ : ∀ x y : E, same x y = true ↔ x = y
 | .mk k n s kids, .mk k' n' s' kids' => by
  have := o3_ kids kids'
  simp only [same, T5_, beq_iff_eq, this, E.mk.injEq, and_assoc]
theorem o3_ : ∀ x y : List E, same.sameL x y = true ↔ x = y
 | [], [] => by simp [same.sameL]
 | [], _ :: _ => by simp [same.sameL]
 | _ :: _, [] => by simp [same.sameL]
 | x :: xs, y :: ys => by
  have h1 := hi_ x y
  have h2 := o3_ xs ys
  simp only [same.sameL, T5_, h1, h2, List.cons.injEq]
end
instance : DecidableEq E := fun x y => if h : same x y = true then isTrue ((hi_ x y).1 h) else isFalse fun e => h ((hi_ x y).2 e)
mutual
theorem tb_ : ∀ e : E, pla e = true → bare e = e
 | .mk k n s kids, h => by
  simp only [pla, T5_, bne_iff_ne, ne_eq] at h
  simp only [bare, if_neg h.1, n0_ kids h.2]
theorem n0_ : ∀ l : List E, jq_ l = true → eu_ l = l
 | [], _ => by simp only [eu_]
 | e :: r, h => by
  simp only [jq_, T5_] at h
  simp only [eu_, tb_ e h.1, n0_ r h.2]
end
mutual
theorem nf_ : ∀ e : E, wf e = true → pla (bare e) = true
 | .mk k n s kids, h => by
  simp only [wf, T5_] at h
  simp only [bare]
  by_cases hk : k = 4
  ·rw [if_pos hk]
   cases kids with
   | nil => simp [hk] at h
   | cons a r =>
    simp only [rf_]
    simp only [wfs, T5_] at h
    exact nf_ a h.2.1
  ·rw [if_neg hk]
   simp only [pla, T5_, bne_iff_ne, ne_eq]
   exact ⟨hk, nv_ kids h.2⟩
theorem nv_ : ∀ l : List E, wfs l = true → jq_ (eu_ l) = true
 | [], _ => by simp only [eu_, jq_]
 | e :: r, h => by
  simp only [wfs, T5_] at h
  simp only [eu_, jq_, nf_ e h.1, nv_ r h.2, Bool.and_self]
end
theorem wo_ {e : E} (h : wf e = true) : same (bare e) e = pla e := by
 rw [Bool.eq_iff_iff, hi_]
 constructor
 ·intro he; have := nf_ e h; rwa [he] at this
 ·exact tb_ e
theorem ua_ {k n : Int} {s : Str} {m : Nat} (h : shape k n s m = true) : k = 4 → 0 < m := by
 rintro rfl; simp [shape] at h; omega
mutual
theorem vg_ : ∀ (e : E) (d : Int), form e d = true → wf e = true
 | .mk k n s kids, d, h => by
  simp only [form, T5_] at h
  have h1 := ua_ h.1.2
  simp only [wf, T5_, Bool.or_eq_true, bne_iff_ne, ne_eq, Bool.not_eq_true', List.isEmpty_eq_false_iff]
  refine ⟨?_, ph_ kids _ h.2⟩
  by_cases hk : k = 4
  ·right; intro e; have := h1 hk; simp [e] at this
  ·exact .inl hk
theorem ph_ : ∀ (l : List E) (d : Int), d2_ l d = true → wfs l = true
 | [], _, _ => by simp only [wfs]
 | e :: r, d, h => by
  simp only [d2_, T5_] at h
  simp only [wfs, vg_ e d h.1, ph_ r d h.2, Bool.and_self]
end
theorem cp_ {e : E} (h : eok e = true) : form e 5 = true := by simp only [eok, T5_] at h; exact h.1
theorem hm_ {e : E} (h : eok e = true) : many e 5 ≤ 12 := by simp only [eok, T5_, T3_] at h; exact h.2
theorem aay_ {e : E} (h : eok e = true) : wf e = true := vg_ e 5 (cp_ h)
theorem mx_ (b : Bool) (l : Wd) : (brk b l).map (·.1) = if b then [[40]] ++ l.map (·.1) ++ [[41]] else l.map (·.1) := by
 unfold brk; cases b <;> simp
mutual
theorem z9_ : ∀ (e : E) (must a b : Int), (src e must a).map (·.1) = (src e must b).map (·.1)
 | .mk k n s kids, must, a, b => by
  simp only [src]
  by_cases k1 : k = 1
  ·rw [if_pos k1, if_pos k1]; rfl
  by_cases k2 : k = 2
  ·rw [if_neg k1, if_neg k1, if_pos k2, if_pos k2]; rfl
  by_cases k3 : k = 3
  ·rw [if_neg k1, if_neg k1, if_neg k2, if_neg k2, if_pos k3, if_pos k3, mx_, mx_]
   simp only [List.map_append, List.map_cons, p4_ kids (max 2 (br_ s)) (a + 1) (b + 1), ac2_ kids (br_ s + 1) (a + 1) (b + 1)]
  by_cases k4 : k = 4
  ·rw [if_neg k1, if_neg k1, if_neg k2, if_neg k2, if_neg k3, if_neg k3, if_pos k4, if_pos k4]
   simp only [List.map_append, p4_ kids 4 a b]
  ·rw [if_neg k1, if_neg k1, if_neg k2, if_neg k2, if_neg k3, if_neg k3, if_neg k4, if_neg k4]
theorem p4_ : ∀ (l : List E) (must a b : Int), (p8_ l must a).map (·.1) = (p8_ l must b).map (·.1)
 | [], _, _, _ => by simp only [p8_]
 | e :: r, must, a, b => by simp only [p8_]; exact z9_ e must a b
theorem ac2_ : ∀ (l : List E) (must a b : Int), (xu_ l must a).map (·.1) = (xu_ l must b).map (·.1)
 | [], _, _, _ => by simp only [xu_]
 | e :: r, must, a, b => by simp only [xu_]; exact p4_ r must _ _
end
theorem fg_ (e : E) (must a : Int) : (src e must a).map (·.1) = wds e must := z9_ e must a 0
theorem ec_ {e : E} (h : e.kind = 1) (must : Int) : wds e must = [Go.Lib.decDigits e.n.toNat] := by
 cases e; simp only [E.kind] at h; subst h; simp [wds, src, E.n]
theorem du_ {e : E} (h : e.kind = 2) (must : Int) : wds e must = [e.s] := by
 cases e; simp only [E.kind] at h; subst h; simp [wds, src, E.s]
theorem mw_ {e : E} (h : e.kind = 3) (hl : e.kids.length = 2) (must nx : Int) : src e must nx = brk (decide (br_ e.s < must)) (src (e.kids.getD 0 E0) (max 2 (br_ e.s)) (nx + 1) ++ (e.s, nx) :: src (e.kids.getD 1 E0) (br_ e.s + 1) (nx + 1 + cnt (e.kids.getD 0 E0))) := by
 cases e with
 | mk k n s kids =>
  simp only [E.kind] at h; subst h
  simp only [E.kids] at hl
  match kids, hl with
  | [a, b], _ => simp [src, p8_, xu_, E.s, E.kids]; rfl
theorem fi_ {e : E} (h : e.kind = 3) (hl : e.kids.length = 2) (must : Int) : wds e must = if br_ e.s < must then [[40]] ++ (wds (e.kids.getD 0 E0) (max 2 (br_ e.s)) ++ [e.s] ++ wds (e.kids.getD 1 E0) (br_ e.s + 1)) ++ [[41]] else wds (e.kids.getD 0 E0) (max 2 (br_ e.s)) ++ [e.s] ++ wds (e.kids.getD 1 E0) (br_ e.s + 1) := by
 rw [wds, mw_ h hl, mx_]
 simp only [T3_, List.map_append, List.map_cons, fg_, List.append_assoc, List.cons_append, List.nil_append]
theorem qa_ {e : E} (h : e.kind = 4) (hl : e.kids.length = 1) (must nx : Int) : src e must nx = src (e.kids.getD 0 E0) 4 nx ++ [([97, 115], -1), (e.s, -1)] := by
 cases e with
 | mk k n s kids =>
  simp only [E.kind] at h; subst h
  simp only [E.kids] at hl
  match kids, hl with
  | [a], _ => simp [src, p8_, E.s, E.kids]
theorem ie_ {e : E} (h : e.kind = 4) (hl : e.kids.length = 1) (must : Int) : wds e must = wds (e.kids.getD 0 E0) 4 ++ [[97, 115], e.s] := by
 rw [wds, qa_ h hl]; simp only [List.map_append, List.map_cons, List.map_nil, fg_]
theorem v8_ {e : E} (h : e.kind = 3) (hl : e.kids.length = 2) : cnt e = 1 + cnt (e.kids.getD 0 E0) + cnt (e.kids.getD 1 E0) := by
 cases e with
 | mk k n s kids =>
  simp only [E.kind] at h; subst h
  simp only [E.kids] at hl
  match kids, hl with
  | [a, b], _ => simp [cnt, qh_, E.kids]; omega
theorem aa1_ {e : E} (h : e.kind = 4) (hl : e.kids.length = 1) : cnt e = cnt (e.kids.getD 0 E0) := by
 cases e with
 | mk k n s kids =>
  simp only [E.kind] at h; subst h
  simp only [E.kids] at hl
  match kids, hl with
  | [a], _ => simp [cnt, qh_, E.kids]
theorem b1_ {e : E} {d : Int} (h : form e d = true) : 1 ≤ d ∧
    ((e.kind = 1 ∧ 0 ≤ e.n ∧ e.n ≤ 1000000 ∧ e.s = [] ∧ e.kids = []) ∨ (e.kind = 2 ∧ e.n = 0 ∧ f3_ e.s = true ∧ e.kids = []) ∨
     (e.kind = 3 ∧ e.n = 0 ∧ fp_ e.s = true ∧ e.kids.length = 2 ∧ form (e.kids.getD 0 E0) (d - 1) = true ∧ form (e.kids.getD 1 E0) (d - 1) = true) ∨
     (e.kind = 4 ∧ e.n = 0 ∧ fd_ e.s = true ∧ e.kids.length = 1 ∧ form (e.kids.getD 0 E0) (d - 1) = true)) := by
  cases e with
  | mk k n s kids =>
    simp only [form, T5_, T3_] at h
    obtain ⟨⟨h1, h2⟩, h3⟩ := h
    refine ⟨h1, ?_⟩
    simp only [E.kind, E.n, E.s, E.kids]
    have hm := k3_ h3
    unfold shape at h2
    by_cases k1 : k = 1
    · subst k1; simp at h2; exact .inl ⟨rfl, h2.1.1.1, h2.1.1.2, h2.1.2, h2.2⟩
    by_cases k2 : k = 2
    · subst k2; simp at h2; exact .inr (.inl ⟨rfl, h2.1.1, h2.1.2, h2.2⟩)
    by_cases k3 : k = 3
    · subst k3; simp at h2
      exact .inr (.inr (.inl ⟨rfl, h2.1.1, h2.1.2, h2.2, hm _ (b5_ (by omega)), hm _ (b5_ (by omega))⟩))
    by_cases k4 : k = 4
    · subst k4; simp at h2
      exact .inr (.inr (.inr ⟨rfl, h2.1.1, h2.1.2, h2.2, hm _ (b5_ (by omega))⟩))
    · simp [k1, k2, k3, k4] at h2
theorem kb_ {e : E} (h : e.kids.length = 2) : e.kids = [e.kids.getD 0 E0, e.kids.getD 1 E0] := by
 match hk : e.kids, h with
 | [a, b], _ => rfl
theorem m9_ {e : E} (h : e.kids.length = 1) : e.kids = [e.kids.getD 0 E0] := by
 match hk : e.kids, h with
 | [a], _ => rfl
theorem kd_ (e : E) {d : Int} (h : 1 ≤ d) : many e d = 1 + dn_ e.kids (d - 1) := by
 cases e; simp only [many, E.kids]; rw [if_pos (by omega)]
theorem n5_ {e : E} {d : Int} (h : 1 ≤ d) (hl : e.kids.length = 2) : many e d = 1 + many (e.kids.getD 0 E0) (d - 1) + many (e.kids.getD 1 E0) (d - 1) := by
 rw [kd_ e h, kb_ hl]; simp only [dn_, List.getD_cons_zero, List.getD_cons_succ]; omega
theorem or_ {e : E} {d : Int} (h : 1 ≤ d) (hl : e.kids.length = 1) : many e d = 1 + many (e.kids.getD 0 E0) (d - 1) := by
 rw [kd_ e h, m9_ hl]; simp only [dn_, List.getD_cons_zero]; omega
theorem jd_ {n : Nat} (h : n ≤ 1000000) : (Go.Lib.decDigits n).length ≤ 7 := by
 have key : ∀ (k n : Nat), n < 10 ^ k → 0 < k → (Go.Lib.decDigits n).length ≤ k := by
  intro k
  induction k with
  | zero => intro n _ h; omega
  | succ k ih =>
   intro n hn _
   by_cases h1 : n < 10
   ·rw [Go.Lib.decDigits_one h1]; simp
   ·rw [Go.Lib.decDigits, dif_neg h1]
    have h2 : n / 10 < 10 ^ k := by rw [Nat.pow_succ] at hn; omega
    have h3 : 0 < k := by
     rcases Nat.eq_zero_or_pos k with rfl | h3
     ·simp at hn; omega
     ·exact h3
    have := ih (n / 10) h2 h3
    simp; omega
 exact key 7 n (by omega) (by decide)
theorem rg_ {s : Str} (h : f3_ s = true) : 1 ≤ s.length ∧ s.length ≤ 8 := by
 simp only [f3_, e6_, T5_, T3_] at h; omega
theorem yv_ {s : Str} (h : fp_ s = true) : s.length = 1 := by
 simp only [fp_, Bool.or_eq_true, beq_iff_eq] at h; rcases h with ((h | h) | h) | h <;> subst h <;> rfl
theorem xq_ {s : Str} (h : fd_ s = true) : s.length ≤ 4 ∧ 1 ≤ s.length := by
 simp only [fd_, Bool.or_eq_true, beq_iff_eq] at h; rcases h with h | h <;> subst h <;> decide
theorem c1_ {s : Str} (h : fp_ s = true) : 1 ≤ br_ s ∧ br_ s ≤ 3 := by
 simp only [fp_, Bool.or_eq_true, beq_iff_eq] at h; rcases h with ((h | h) | h) | h <;> subst h <;> decide
theorem er_ : ∀ (d : Nat) (e : E) (must : Int), form e d = true → 1 ≤ (wds e must).length ∧ ((wds e must).length : Int) ≤ 3 * many e d ∧ (∀ s ∈ wds e must, 1 ≤ s.length ∧ s.length ≤ 8) ∧ 1 ≤ cnt e ∧ cnt e ≤ many e d
 | 0, e, must, h => by have := (b1_ h).1; omega
 | d + 1, e, must, h => by
  have e1 : ((d + 1 : Nat) : Int) - 1 = (d : Int) := by omega
  have hd : (1 : Int) ≤ ((d + 1 : Nat) : Int) := by omega
  rcases (b1_ h).2 with ⟨k1, h1, h2, h3, h4⟩ | ⟨k1, h1, h2, h3⟩ | ⟨k1, h1, h2, h3, h4, h5⟩ | ⟨k1, h1, h2, h3, h4⟩
  ·have hm : many e ((d + 1 : Nat) : Int) = 1 := by rw [kd_ e hd, h4]; simp [dn_]
   have hc : cnt e = 1 := by cases e; simp only [E.kind, E.kids] at k1 h4; subst k1 h4; simp [cnt, qh_]
   rw [ec_ k1, hm, hc]
   have := jd_ (n := e.n.toNat) (by omega)
   have h0 := List.length_pos_iff.2 (decDigits_ne' e.n.toNat)
   simp; omega
  ·have hm : many e ((d + 1 : Nat) : Int) = 1 := by rw [kd_ e hd, h3]; simp [dn_]
   have hc : cnt e = 1 := by cases e; simp only [E.kind, E.kids] at k1 h3; subst k1 h3; simp [cnt, qh_]
   have := rg_ h2
   rw [du_ k1, hm, hc]; simp; omega
  ·rw [e1] at h4 h5
   obtain ⟨a1, a2, a3, a4, a5⟩ := er_ d (e.kids.getD 0 E0) (max 2 (br_ e.s)) h4
   obtain ⟨b1, b2, b3, b4, b5⟩ := er_ d (e.kids.getD 1 E0) (br_ e.s + 1) h5
   have hm := n5_ hd h3
   rw [e1] at hm
   have hl := yv_ h2
   rw [fi_ k1 h3, hm, v8_ k1 h3]
   refine ⟨by split <;> simp <;> omega, ?_, ?_, by omega, by omega⟩
   ·split <;> simp only [T2_, T7_, List.length_nil] <;> omega
   ·intro s hs
    have key : s ∈ wds (e.kids.getD 0 E0) (max 2 (br_ e.s)) ++ [e.s] ++ wds (e.kids.getD 1 E0) (br_ e.s + 1) → 1 ≤ s.length ∧ s.length ≤ 8 := fun hs => by
     simp only [List.mem_append, List.mem_singleton] at hs
     rcases hs with (hs | hs) | hs
     ·exact a3 s hs
     ·rw [hs, hl]; omega
     ·exact b3 s hs
    split at hs
    ·rcases List.mem_append.1 hs with hs | hs
     ·rcases List.mem_append.1 hs with hs | hs
      ·simp at hs; subst hs; simp
      ·exact key hs
     ·simp at hs; subst hs; simp
    ·exact key hs
  ·rw [e1] at h4
   obtain ⟨a1, a2, a3, a4, a5⟩ := er_ d (e.kids.getD 0 E0) 4 h4
   have hm := or_ hd h3
   rw [e1] at hm
   have hl := xq_ h2
   rw [ie_ k1 h3, hm, aa1_ k1 h3]
   refine ⟨by simp, by simp only [T2_, T7_, List.length_nil]; omega, ?_, by omega, by omega⟩
   intro s hs
   simp only [List.mem_append, List.mem_cons, List.not_mem_nil, or_false] at hs
   rcases hs with hs | hs | hs
   ·exact a3 s hs
   ·subst hs; simp
   ·rw [hs]; omega
where
 decDigits_ne' (n : Nat) : Go.Lib.decDigits n ≠ [] := by
  by_cases h : n < 10
  ·rw [Go.Lib.decDigits_one h]; simp
  ·rw [Go.Lib.decDigits, dif_neg h]; simp
theorem db_ {e : E} (h : eok e = true) (must : Int) : 1 ≤ (wds e must).length ∧ (wds e must).length ≤ 36 ∧ ∀ s ∈ wds e must, 1 ≤ s.length ∧ s.length ≤ 8 := by
 have := er_ 5 e must (cp_ h)
 have h2 := hm_ h
 have h3 : many e ((5 : Nat) : Int) = many e 5 := rfl
 rw [h3] at this
 exact ⟨this.1, by omega, this.2.2.1⟩
end
section
structure Bl where
 kind : Int
 name : Str
 expr : E
 thn : E
structure Sl where
 kind : Int
 name : Str
 type : Str
 expr : E
 thn : E
def wEq : Str := [61]
def cj_ : Str := [112, 114, 105, 110, 116]
def wIf : Str := [105, 102]
def bi_ : Str := [58]
def wLet : Str := [108, 101, 116]
def wl_ : Str := [115, 97, 121]
def ps_ : Str := [119, 104, 101, 110]
def m8_ (e : E) : Bool := same e E0
def pe (e : E) : Bool := eok e && pla e
def bw (b : Bl) : List Str :=
 if b.kind = 1 then b.name :: wEq :: wds b.expr 1
 else if b.kind = 2 then cj_ :: wds b.expr 1
 else if b.kind = 3 then wIf :: wds b.expr 1 ++ bi_ :: cj_ :: wds b.thn 1
 else []
def eb_ (b : Bl) : Bool :=
 if b.kind = 0 then b.name == [] && m8_ b.expr && m8_ b.thn
 else if b.kind = 1 then f3_ b.name && pe b.expr && m8_ b.thn
 else if b.kind = 2 then b.name == [] && pe b.expr && m8_ b.thn
 else if b.kind = 3 then b.name == [] && pe b.expr && pe b.thn
 else false
def bok (b : Bl) : Bool := eb_ b && decide ((cg_ (bw b)).length ≤ 120)
def l2_ (a b : Bl) : Bool := a.kind == b.kind && a.name == b.name && same a.expr b.expr && same a.thn b.thn
def B0 : Bl := ⟨0, [], E0, E0⟩
def S0 : Sl := ⟨0, [], [], E0, E0⟩
theorem Bl.eta (b : Bl) : Bl.mk b.kind b.name b.expr b.thn = b := rfl
theorem o9_ (a b : Bl) : l2_ a b = true ↔ a = b := by
 cases a; cases b; simp only [l2_, T5_, beq_iff_eq, hi_, Bl.mk.injEq, and_assoc]
theorem k1_ (e : E) : m8_ e = true ↔ e = E0 := hi_ e E0
theorem c2_ {e : E} (h : pe e = true) : eok e = true := by simp only [pe, T5_] at h; exact h.1
theorem z8_ (e : E) : (eok e && same (bare e) e) = pe e := by
 unfold pe
 cases h : eok e with
 | false => rfl
 | true => rw [wo_ (aay_ h)]
theorem t1_ (s x : Str) (l : List Str) : [(32 : UInt8)].intercalate (s :: x :: l) = s ++ 32 :: [(32 : UInt8)].intercalate (x :: l) := by
 simp [List.intercalate]
theorem fn_ (s x : Str) (l : List Str) : cg_ (s :: x :: l) = s ++ 32 :: cg_ (x :: l) := t1_ s x l
theorem ga_ (s : Str) : cg_ [s] = s := by simp [cg_, List.intercalate]
theorem f9_ : cg_ [] = [] := rfl
theorem hd_ : ∀ l : List Str, l ≠ [] → (cg_ l).length + 1 = (l.map List.length).sum + l.length
 | [], h => absurd rfl h
 | [s], _ => by rw [ga_]; simp
 | s :: x :: l, _ => by
  have := hd_ (x :: l) (by simp)
  rw [fn_]
  simp only [T2_, T7_, List.map_cons, List.sum_cons] at this ⊢
  omega
theorem aeq_ {l : List Str} {k : Nat} (h : ∀ s ∈ l, s.length ≤ k) : (l.map List.length).sum ≤ l.length * k := by
 induction l with
 | nil => simp
 | cons a r ih =>
  have h1 := h a (by simp)
  have h2 := ih fun s hs => h s (by simp [hs])
  simp only [List.map_cons, List.sum_cons, T7_, Nat.add_mul]; omega
theorem t0_ {l : List Str} {k : Nat} (h : ∀ s ∈ l, s.length ≤ k) : (cg_ l).length ≤ l.length * (k + 1) := by
 by_cases hl : l = []
 ·subst hl; simp [f9_]
 ·have h1 := hd_ l hl
  have h2 := aeq_ h
  rw [Nat.mul_add]; omega
theorem tg_ {b : Bl} (h : eb_ b = true) : (bw b).length ≤ 76 ∧ ∀ s ∈ bw b, 1 ≤ s.length ∧ s.length ≤ 8 := by
 unfold eb_ at h
 unfold bw
 by_cases k0 : b.kind = 0
 ·simp [k0]
 by_cases k1 : b.kind = 1
 ·simp [k1] at h
  have h1 := db_ (c2_ h.1.2) 1
  have h2 := rg_ h.1.1
  simp only [k1, if_true]
  refine ⟨by simp; omega, fun s hs => ?_⟩
  rcases List.mem_cons.1 hs with rfl | hs
  ·exact h2
  rcases List.mem_cons.1 hs with rfl | hs
  ·decide
  ·exact h1.2.2 s hs
 by_cases k2 : b.kind = 2
 ·simp [k2] at h
  have h1 := db_ (c2_ h.1.2) 1
  simp only [k2, if_true]
  refine ⟨by simp; omega, fun s hs => ?_⟩
  simp only [show ¬ (2 : Int) = 1 by omega, if_false] at hs
  rcases List.mem_cons.1 hs with rfl | hs
  ·decide
  ·exact h1.2.2 s hs
 by_cases k3 : b.kind = 3
 ·simp [k3] at h
  have h1 := db_ (c2_ h.1.2) 1
  have h2 := db_ (c2_ h.2) 1
  simp only [k3, if_true]
  refine ⟨by simp; omega, fun s hs => ?_⟩
  simp only [show ¬ (3 : Int) = 1 by omega, show ¬ (3 : Int) = 2 by omega, if_false] at hs
  rcases List.mem_append.1 hs with hs | hs
  ·rcases List.mem_cons.1 hs with rfl | hs
   ·decide
   ·exact h1.2.2 s hs
  ·rcases List.mem_cons.1 hs with rfl | hs
   ·decide
   rcases List.mem_cons.1 hs with rfl | hs
   ·decide
   ·exact h2.2.2 s hs
 ·simp [k0, k1, k2, k3] at h
theorem gp_ {e : E} {d : Int} (h : form e d = true) : wds e 0 = wds e 1 := by
 rcases (b1_ h).2 with ⟨k1, _⟩ | ⟨k1, _⟩ | ⟨k1, h1, h2, h3, _⟩ | ⟨k1, h1, h2, h3, _⟩
 ·rw [ec_ k1, ec_ k1]
 ·rw [du_ k1, du_ k1]
 ·have := c1_ h2
  rw [fi_ k1 h3, fi_ k1 h3, if_neg (by omega), if_neg (by omega)]
 ·rw [ie_ k1 h3, ie_ k1 h3]
end
end Go.Proofs.YtefmbmafdgedmaaGreatDoor
