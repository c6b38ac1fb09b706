/- Parts of the proof, one after another: The plain functions that the Go functions compute. | Numbers in decimals: what is one, what it comes to; how strconv and the reference read it. | Plain laws of the plain functions. | Plain laws: expressions without types, their words. | Plain laws: sameness, without types; the words and their bounds. | Plain laws: lines with types and without. Conditions: none. -/
import Derived.Test.YteihfmnmpdbkiaaGreatDoorKa
import Derived.Lib.ItoaMem
import Derived.Lib.AtoiAll
set_option linter.unusedVariables false
set_option linter.unusedSimpArgs false
namespace Go.Proofs.YteihfmnmpdbkiaaGreatDoor
section
def tight (s : Str) : Int := if s == [60] then 1 else if s == [43] || s == [45] then 2 else if s == [42] then 3 else 0
def isTyp (s : Str) : Bool := s == [105, 110, 116] || s == [98, 111, 111, 108]
def isOp (s : Str) : Bool := s == [43] || s == [45] || s == [42] || s == [60]
def held (s : Str) : Bool := s == [108, 101, 116] || s == [115, 97, 121] || s == [119, 104, 101, 110] || s == [97, 115] || s == [112, 114, 105, 110, 116] || s == [105, 102] || isTyp s
def lower (c : UInt8) : Bool := decide (97 ≤ (c.toNat : Int)) && decide ((c.toNat : Int) ≤ 122)
def digit (c : UInt8) : Bool := decide (48 ≤ (c.toNat : Int)) && decide ((c.toNat : Int) ≤ 57)
def isWord (s : Str) : Bool := s.all lower && decide (1 ≤ s.length) && decide (s.length ≤ 8)
def isNm (s : Str) : Bool := isWord s && !held s
def shape (k n : Int) (s : Str) (m : Nat) : Bool :=
  if k == 1 then decide (0 ≤ n) && decide (n ≤ 1000000) && s.isEmpty && m == 0
  else if k == 2 then n == 0 && isNm s && m == 0
  else if k == 3 then n == 0 && isOp s && m == 2
  else if k == 4 then n == 0 && isTyp s && m == 1
  else false
mutual
def form : E → Int → Bool
  | .mk k n s kids, d => decide (1 ≤ d) && shape k n s kids.length && forms kids (d - 1)
def forms : List E → Int → Bool
  | [], _ => true
  | e :: r, d => form e d && forms r d
end
mutual
def many : E → Int → Int
  | .mk _ _ _ kids, d => 1 + if 0 < d then manys kids (d - 1) else 0
def manys : List E → Int → Int
  | [], _ => 0
  | e :: r, d => many e d + manys r d
end
mutual
def wlk : E → Int → Int → Bool × Int
  | .mk k n s kids, d, p => if 5 < d ∨ 12 < p + 1 then (false, p + 1) else if shape k n s kids.length then wlks kids (d + 1) (p + 1) else (false, p + 1)
def wlks : List E → Int → Int → Bool × Int
  | [], _, p => (true, p)
  | e :: r, d, p => if (wlk e d p).1 then wlks r d (wlk e d p).2 else (false, (wlk e d p).2)
end
def same : E → E → Bool
  | .mk k n s kids, y => match y with
    | .mk k' n' s' kids' => (k == k') && (n == n') && (s == s') && sameL kids kids'
where sameL : List E → List E → Bool
  | [], [] => true
  | x :: r, y :: t => same x y && sameL r t
  | _, _ => false
theorem same_eq (x y : E) : same x y = ((x.kind == y.kind) && (x.n == y.n) && (x.s == y.s) && same.sameL x.kids y.kids) := by
  cases x; cases y; simp only [same, E.kind, E.n, E.s, E.kids]
mutual
def bare : E → E
  | .mk k n s kids => if k = 4 then bare1 kids (.mk k n s []) else .mk k n s (bares kids)
def bare1 : List E → E → E
  | [], d => d
  | e :: _, _ => bare e
def bares : List E → List E
  | [] => []
  | e :: r => bare e :: bares r
end
abbrev Wd := List (Str × Int)
mutual
def cnt : E → Int
  | .mk k _ _ kids => if k = 4 then cnts kids else 1 + cnts kids
def cnts : List E → Int
  | [] => 0
  | e :: r => cnt e + cnts r
end
def brk (b : Bool) (l : Wd) : Wd := if b then ([40], -1) :: (l ++ [([41], -1)]) else l
mutual
def src : E → Int → Int → Wd
  | .mk k n s kids, must, nx =>
    if k = 1 then [(Go.Lib.decDigits n.toNat, nx)]
    else if k = 2 then [(s, nx)]
    else if k = 3 then brk (decide (tight s < must)) (srcA kids (max 2 (tight s)) (nx + 1) ++ (s, nx) :: srcB kids (tight s + 1) (nx + 1))
    else if k = 4 then srcA kids 4 nx ++ [([97, 115], -1), (s, -1)]
    else []
def srcA : List E → Int → Int → Wd
  | [], _, _ => []
  | e :: _, must, nx => src e must nx
def srcB : List E → Int → Int → Wd
  | [], _, _ => []
  | e :: r, must, nx => srcA r must (nx + cnt e)
end
def wds (e : E) (must : Int) : List Str := (src e must 0).map (·.1)
def tokText (l : List Str) : Str := [(32 : UInt8)].intercalate l
def sidx (l : List Str) (s : Str) : Int := if s ∈ l then (l.idxOf s : Int) else -1
end

section
open Go.Lib

def decStep (a : Nat) (c : UInt8) : Nat := a * 10 + (c.toNat - 48)
def numVal (l : Str) : Nat := l.foldl decStep 0
def numOk (l : Str) : Bool := decide (numVal l ≤ 1000000) && (decDigits (numVal l) == l)
def isDig (c : UInt8) : Prop := 48 ≤ c.toNat ∧ c.toNat ≤ 57
theorem dig_lt {d : Nat} (h : d < 10) : (UInt8.ofNat (48 + d)).toNat = 48 + d := by
  rw [UInt8.toNat_ofNat']; omega
theorem decDigits_step {n : Nat} (h : ¬ n < 10) : decDigits n = decDigits (n / 10) ++ [UInt8.ofNat (48 + n % 10)] := by
  rw [decDigits, dif_neg h]
theorem decDigits_dig : ∀ n : Nat, ∀ c ∈ decDigits n, isDig c := by
  intro n
  induction n using Nat.strongRecOn with
  | ind n ih =>
    intro c hc
    by_cases h : n < 10
    · rw [decDigits_one h] at hc
      simp only [List.mem_singleton] at hc
      subst hc; unfold isDig; rw [dig_lt h]; omega
    · rw [decDigits_step h] at hc
      rcases List.mem_append.1 hc with hc | hc
      · exact ih _ (by omega) c hc
      · simp only [List.mem_singleton] at hc
        subst hc; unfold isDig; rw [dig_lt (by omega)]; omega
theorem numVal_snoc (l : Str) (c : UInt8) : numVal (l ++ [c]) = numVal l * 10 + (c.toNat - 48) := by simp [numVal, decStep]
theorem numVal_decDigits (n : Nat) : numVal (decDigits n) = n := by
  induction n using Nat.strongRecOn with
  | ind n ih =>
    by_cases h : n < 10
    · rw [decDigits_one h]
      show 0 * 10 + ((UInt8.ofNat (48 + n)).toNat - 48) = n
      rw [dig_lt h]; omega
    · rw [decDigits_step h, numVal_snoc, ih _ (by omega), dig_lt (by omega)]; omega
theorem decDigits_ne (n : Nat) : decDigits n ≠ [] := by
  by_cases h : n < 10
  · rw [decDigits_one h]; simp
  · rw [decDigits_step h]; simp
theorem foldl_ge : ∀ (l : Str) (a : Nat), a ≤ l.foldl decStep a
  | [], a => Nat.le_refl _
  | c :: r, a => Nat.le_trans (by unfold decStep; omega) (foldl_ge r (decStep a c))
theorem parse_digits : ∀ (l : Str) (a : Nat), (∀ c ∈ l, isDig c) → l.foldl decStep a ≤ 1000000 → parseUint10 a l = .ok (l.foldl decStep a)
  | [], a, _, _ => rfl
  | c :: r, a, h, hl => by
    have hc := h c (by simp)
    have h1 := foldl_ge r (decStep a c)
    have h2 : decStep a c ≤ 1000000 := Nat.le_trans h1 hl
    unfold isDig at hc
    rw [parseUint10, if_pos hc, if_neg (by unfold decStep at h2; omega), if_neg (by unfold decStep at h2; omega)]
    exact parse_digits r _ (fun x hx => h x (by simp [hx])) hl
theorem atoi_decDigits {n : Nat} (h : n ≤ 1000000) : atoiAll (decDigits n) = .ok (n : Int) := by
  have hd := decDigits_dig n
  have hv := numVal_decDigits n
  cases hl : decDigits n with
  | nil => exact absurd hl (decDigits_ne n)
  | cons c r =>
    rw [hl] at hd hv
    have hc := hd c (by simp)
    unfold isDig at hc
    have hp : parseMag (c :: r) = .ok n := by
      unfold parseMag
      rw [if_neg (by simp), parse_digits _ _ hd (by unfold numVal at hv; omega)]
      exact congrArg _ hv
    simp only [atoiAll]
    rw [if_neg (by omega), hp]
    simp only []
    rw [if_neg (by omega), if_neg (by omega), if_neg (by omega)]
theorem numOk_iff {l : Str} : numOk l = true ↔ ∃ n : Nat, n ≤ 1000000 ∧ l = decDigits n := by
  unfold numOk
  simp only [Bool.and_eq_true, decide_eq_true_eq, beq_iff_eq]
  constructor
  · rintro ⟨h, k⟩; exact ⟨_, h, k.symm⟩
  · rintro ⟨n, h, rfl⟩; rw [numVal_decDigits]; exact ⟨h, rfl⟩
theorem atoi_ok {l : Str} {v : Int} (h : atoiAll l = .ok v) : (decide (0 ≤ v) && decide (v ≤ 1000000) && (itoa v == l)) = numOk l := by
  rw [Bool.eq_iff_iff, numOk_iff]
  simp only [Bool.and_eq_true, decide_eq_true_eq, beq_iff_eq]
  constructor
  · rintro ⟨⟨h0, h1⟩, h2⟩
    refine ⟨v.toNat, by omega, ?_⟩
    rw [← h2, ← itoa_nonneg, Int.toNat_of_nonneg h0]
  · rintro ⟨n, hn, rfl⟩
    rw [atoi_decDigits hn] at h
    injection h with h
    subst h
    exact ⟨⟨by omega, by omega⟩, itoa_nonneg n⟩
theorem atoi_val {l : Str} {v : Int} (h : atoiAll l = .ok v) (k : numOk l = true) : v = numVal l := by
  obtain ⟨n, hn, rfl⟩ := numOk_iff.1 k
  rw [atoi_decDigits hn] at h
  injection h with h
  rw [numVal_decDigits, h]
theorem atoi_not {l : Str} (h : ∀ v, atoiAll l ≠ .ok v) : numOk l = false := by
  rw [Bool.eq_false_iff]
  intro k
  obtain ⟨n, hn, rfl⟩ := numOk_iff.1 k
  exact h _ (atoi_decDigits hn)

def num12 (l : Str) : Int × Bool :=
  let neg := l.head? == some 45
  let r := if neg then l.tail else l
  if r.length = 0 ∨ 17 < r.length ∨ (r.head? = some 48 ∧ (1 < r.length ∨ neg = true)) then (0, false)
  else if r.all digit then (if neg then -(numVal r : Int) else numVal r, true) else (0, false)
theorem digit_iff (c : UInt8) : digit c = true ↔ isDig c := by
  unfold digit isDig; simp only [Bool.and_eq_true, decide_eq_true_eq]; omega
theorem lead {l : Str} : l ≠ [] → (∀ c ∈ l, isDig c) → l.head? ≠ some 48 → 1 ≤ numVal l ∧ decDigits (numVal l) = l := by
  suffices H : ∀ (k : Nat) (l : Str), l.length = k → l ≠ [] → (∀ c ∈ l, isDig c) → l.head? ≠ some 48 → 1 ≤ numVal l ∧ decDigits (numVal l) = l from H _ l rfl
  intro k
  induction k with
  | zero => intro l h hne; exact absurd (List.eq_nil_of_length_eq_zero h) hne
  | succ k ih =>
    intro l hk hne hd hh
    obtain ⟨i, c, rfl⟩ : ∃ i c, l = i ++ [c] := ⟨l.dropLast, l.getLast hne, (List.dropLast_concat_getLast hne).symm⟩
    have hc := hd c (by simp)
    have hcc := hc
    unfold isDig at hc
    have hcn : UInt8.ofNat (48 + (c.toNat - 48)) = c := by
      rw [show 48 + (c.toNat - 48) = c.toNat from by omega]; exact UInt8.ofNat_toNat
    rw [numVal_snoc]
    cases i with
    | nil =>
      have h0 : c ≠ 48 := fun e => hh (by simp [e])
      have h1 : c.toNat ≠ 48 := fun e => h0 (by rw [← UInt8.ofNat_toNat (x := c), e]; rfl)
      simp only [numVal, List.foldl_nil, Nat.zero_mul, Nat.zero_add, List.nil_append]
      exact ⟨by omega, by rw [decDigits_one (by omega), hcn]⟩
    | cons x r =>
      obtain ⟨h1, h2⟩ := ih (x :: r) (by simpa using hk) (by simp) (fun y hy => hd y (List.mem_append_left _ hy)) (by simpa using hh)
      refine ⟨by omega, ?_⟩
      rw [decDigits_step (by omega), show (numVal (x :: r) * 10 + (c.toNat - 48)) / 10 = numVal (x :: r) from by omega, h2,
        show (numVal (x :: r) * 10 + (c.toNat - 48)) % 10 = c.toNat - 48 from by omega, hcn]
end

section
theorem forms_step {kids : List E} {k : Nat} (h : k < kids.length) (d : Int) : forms (kids.drop k) d = (form kids[k] d && forms (kids.drop (k+1)) d) := by
  rw [List.drop_eq_getElem_cons h]; simp only [forms]
theorem forms_end {kids : List E} {k : Nat} (h : kids.length ≤ k) (d : Int) : forms (kids.drop k) d = true := by
  rw [List.drop_of_length_le h]; simp only [forms]
theorem shape_two {k n : Int} {s : Str} {m : Nat} (h : shape k n s m = true) (hm : m ≠ 0) : k = 3 ∧ n = 0 ∧ m = 2 ∧ isOp s = true ∨ k = 4 ∧ n = 0 ∧ m = 1 ∧ isTyp s = true := by
  unfold shape at h
  by_cases k1 : k = 1
  · subst k1; simp at h; omega
  by_cases k2 : k = 2
  · subst k2; simp at h; omega
  by_cases k3 : k = 3
  · subst k3; simp at h; exact .inl ⟨rfl, h.1.1, h.2, h.1.2⟩
  by_cases k4 : k = 4
  · subst k4; simp at h; exact .inr ⟨rfl, h.1.1, h.2, h.1.2⟩
  · simp [k1, k2, k3, k4] at h
theorem manys_step {kids : List E} {k : Nat} (h : k < kids.length) (d : Int) : manys (kids.drop k) d = many kids[k] d + manys (kids.drop (k+1)) d := by
  rw [List.drop_eq_getElem_cons h]; simp only [manys]
theorem manys_end {kids : List E} {k : Nat} (h : kids.length ≤ k) (d : Int) : manys (kids.drop k) d = 0 := by
  rw [List.drop_of_length_le h]; simp only [manys]
mutual
theorem many_le : ∀ (e : E) (d : Nat), form e d = true → 1 ≤ many e d ∧ many e d ≤ 2 ^ d - 1
  | .mk k n s kids, 0, h => by simp [form] at h
  | .mk k n s kids, d + 1, h => by
    simp only [form, Bool.and_eq_true, decide_eq_true_eq] at h
    obtain ⟨⟨_, h2⟩, h3⟩ := h
    have h4 : kids.length ≤ 2 := by
      by_cases hk : kids.length = 0
      · omega
      · rcases shape_two h2 hk with ⟨_, _, h, _⟩ | ⟨_, _, h, _⟩ <;> omega
    have e1 : ((d + 1 : Nat) : Int) - 1 = (d : Int) := by omega
    rw [e1] at h3
    have := manys_le kids d h3
    simp only [many]
    rw [if_pos (by omega), e1]
    have h5 : (kids.length : Int) * (2 ^ d - 1) ≤ 2 * (2 ^ d - 1) := Int.mul_le_mul_of_nonneg_right (by omega) (by have : (0 : Int) < 2 ^ d := Int.pow_pos (by decide); omega)
    have h6 : (2 : Int) ^ (d + 1) = 2 * 2 ^ d := by rw [Int.pow_succ]; omega
    omega
theorem manys_le : ∀ (l : List E) (d : Nat), forms l d = true → 0 ≤ manys l d ∧ manys l d ≤ l.length * (2 ^ d - 1)
  | [], d, _ => by simp [manys]
  | e :: r, d, h => by
    simp only [forms, Bool.and_eq_true] at h
    have h1 := many_le e d h.1
    have h2 := manys_le r d h.2
    simp only [manys, List.length_cons]
    have : ((r.length + 1 : Nat) : Int) * (2 ^ d - 1) = r.length * (2 ^ d - 1) + (2 ^ d - 1) := by rw [Int.natCast_add, Int.add_mul]; simp
    omega
end
theorem forms_drop {l : List E} {d : Int} : ∀ (j : Nat), forms l d = true → forms (l.drop j) d = true := by
  induction l with
  | nil => intro j h; simpa using h
  | cons e r ih =>
    intro j h
    cases j with
    | zero => simpa using h
    | succ j => simp only [forms, Bool.and_eq_true] at h; simpa using ih j h.2
theorem forms_mem {l : List E} {d : Int} (h : forms l d = true) : ∀ e ∈ l, form e d = true := by
  induction l with
  | nil => intro e he; cases he
  | cons x r ih =>
    simp only [forms, Bool.and_eq_true] at h
    intro e he
    rcases List.mem_cons.1 he with rfl | he
    · exact h.1
    · exact ih h.2 e he
theorem tight_pos (s : Str) : decide (0 < tight s) = isOp s := by
  unfold tight isOp
  by_cases h1 : s = [60]
  · subst h1; rfl
  by_cases h2 : s = [43]
  · subst h2; rfl
  by_cases h3 : s = [45]
  · subst h3; rfl
  by_cases h4 : s = [42]
  · subst h4; rfl
  · simp [h1, h2, h3, h4]
mutual
theorem wlk_le : ∀ (e : E) (d p : Int), (wlk e d p).1 = true → p < (wlk e d p).2 ∧ (wlk e d p).2 ≤ 12
  | .mk k n s kids, d, p, h => by
    simp only [wlk] at h ⊢
    by_cases h1 : 5 < d ∨ 12 < p + 1
    · rw [if_pos h1] at h; cases h
    · rw [if_neg h1] at h ⊢
      by_cases h2 : shape k n s kids.length = true
      · rw [if_pos h2] at h ⊢
        have := wlks_le kids (d + 1) (p + 1) (by omega) h
        omega
      · rw [if_neg h2] at h; cases h
theorem wlks_le : ∀ (l : List E) (d p : Int), p ≤ 12 → (wlks l d p).1 = true → p ≤ (wlks l d p).2 ∧ (wlks l d p).2 ≤ 12
  | [], d, p, hp, _ => by simp only [wlks]; omega
  | e :: r, d, p, hp, h => by
    simp only [wlks] at h ⊢
    by_cases h1 : (wlk e d p).1 = true
    · rw [if_pos h1] at h ⊢
      have h2 := wlk_le e d p h1
      have h3 := wlks_le r d _ h2.2 h
      omega
    · rw [if_neg h1] at h; cases h
end
theorem wlks_step {kids : List E} {k : Nat} (h : k < kids.length) (d p : Int) : wlks (kids.drop k) d p = if (wlk kids[k] d p).1 then wlks (kids.drop (k+1)) d (wlk kids[k] d p).2 else (false, (wlk kids[k] d p).2) := by
  rw [List.drop_eq_getElem_cons h]; simp only [wlks]
theorem wlks_end {kids : List E} {k : Nat} (h : kids.length ≤ k) (d p : Int) : wlks (kids.drop k) d p = (true, p) := by
  rw [List.drop_of_length_le h]; simp only [wlks]
def eok (e : E) : Bool := form e 5 && decide (many e 5 ≤ 12)
mutual
theorem wlk_form : ∀ (e : E) (dd : Nat) (p : Int), dd ≤ 5 → p ≤ 12 →
    (wlk e (6 - dd) p).1 = (form e dd && decide (p + many e dd ≤ 12)) ∧ ((form e dd && decide (p + many e dd ≤ 12)) = true → (wlk e (6 - dd) p).2 = p + many e dd)
  | .mk k n s kids, 0, p, hd, hp => by
    have h : form (.mk k n s kids) ((0 : Nat) : Int) = false := by simp [form]
    rw [h]
    simp only [wlk]
    rw [if_pos (by omega)]
    simp
  | .mk k n s kids, dd + 1, p, hd, hp => by
    have e1 : (6 : Int) - ((dd + 1 : Nat) : Int) + 1 = 6 - (dd : Int) := by omega
    have e2 : (((dd + 1 : Nat) : Int)) - 1 = (dd : Int) := by omega
    have hml := many_le (.mk k n s kids) (dd + 1)
    by_cases h1 : 12 < p + 1
    · have hw : wlk (.mk k n s kids) (6 - ((dd + 1 : Nat) : Int)) p = (false, p + 1) := by simp only [wlk]; rw [if_pos (.inr h1)]
      rw [hw]
      have : (form (.mk k n s kids) ((dd + 1 : Nat) : Int) && decide (p + many (.mk k n s kids) ((dd + 1 : Nat) : Int) ≤ 12)) = false := by
        rw [Bool.eq_false_iff]; intro h
        simp only [Bool.and_eq_true, decide_eq_true_eq] at h
        have := hml h.1; omega
      rw [this]; simp
    · have hf : form (.mk k n s kids) ((dd + 1 : Nat) : Int) = (shape k n s kids.length && forms kids (dd : Int)) := by
        simp only [form]; rw [e2, show decide ((1 : Int) ≤ ((dd + 1 : Nat) : Int)) = true by simp; omega]; rfl
      have hm : many (.mk k n s kids) ((dd + 1 : Nat) : Int) = 1 + manys kids (dd : Int) := by
        simp only [many]; rw [if_pos (by omega), e2]
      have hw : wlk (.mk k n s kids) (6 - ((dd + 1 : Nat) : Int)) p = if shape k n s kids.length then wlks kids (6 - (dd : Int)) (p + 1) else (false, p + 1) := by
        simp only [wlk]; rw [if_neg (by omega), e1]
      rw [hf, hm, hw]
      cases hs : shape k n s kids.length with
      | false => simp
      | true =>
        have := wlks_forms kids dd (p + 1) (by omega) (by omega)
        rw [if_pos rfl, Bool.true_and, show p + (1 + manys kids (dd : Int)) = p + 1 + manys kids (dd : Int) by omega]
        exact this
theorem wlks_forms : ∀ (l : List E) (dd : Nat) (p : Int), dd ≤ 5 → p ≤ 12 →
    (wlks l (6 - dd) p).1 = (forms l dd && decide (p + manys l dd ≤ 12)) ∧ ((forms l dd && decide (p + manys l dd ≤ 12)) = true → (wlks l (6 - dd) p).2 = p + manys l dd)
  | [], dd, p, hd, hp => by simp [wlks, forms, manys, hp]
  | e :: r, dd, p, hd, hp => by
    obtain ⟨h1, h2⟩ := wlk_form e dd p hd hp
    rw [show forms (e :: r) (dd : Int) = (form e dd && forms r dd) by simp only [forms], show manys (e :: r) (dd : Int) = many e dd + manys r dd by simp only [manys],
      show wlks (e :: r) (6 - (dd : Int)) p = if (wlk e (6 - (dd : Int)) p).1 then wlks r (6 - (dd : Int)) (wlk e (6 - (dd : Int)) p).2 else (false, (wlk e (6 - (dd : Int)) p).2) by simp only [wlks]]
    by_cases hw : (form e dd && decide (p + many e dd ≤ 12)) = true
    · have hw1 := h1.trans hw
      have hw2 := h2 hw
      simp only [Bool.and_eq_true, decide_eq_true_eq] at hw
      rw [if_pos hw1, hw2, hw.1, Bool.true_and, show p + (many e dd + manys r dd) = p + many e dd + manys r dd by omega]
      exact wlks_forms r dd _ hd hw.2
    · have hw1 : (wlk e (6 - (dd : Int)) p).1 = false := by rw [h1]; simpa using hw
      have : (form e (dd : Int) && forms r (dd : Int) && decide (p + (many e dd + manys r dd) ≤ 12)) = false := by
        rw [Bool.eq_false_iff]; intro h
        simp only [Bool.and_eq_true, decide_eq_true_eq] at h hw
        have := manys_le r dd h.1.2
        exact hw ⟨h.1.1, by omega⟩
      rw [hw1, this]; simp
end
theorem wlk_eok (e : E) : (wlk e 1 0).1 = eok e := by
  have := (wlk_form e 5 0 (by omega) (by omega)).1
  rw [show (6 : Int) - ((5 : Nat) : Int) = 1 by omega] at this
  rw [this]; unfold eok; simp
end

section
def E0 : E := .mk 0 0 [] []
theorem E.ind' {P : E → Prop} (h : ∀ e, (∀ x ∈ e.kids, P x) → P e) (e : E) : P e := E.ind (fun k n s kids ih => h _ ih) e
theorem getD_mem {α : Type} {l : List α} {k : Nat} {d : α} (h : k < l.length) : l.getD k d ∈ l := by
  simp [List.getD_eq_getElem?_getD, List.getElem?_eq_getElem h]
mutual
def sm : E → Bool
  | .mk _ _ s kids => decide (s.length < 4611686018427387904) && decide (kids.length < 1099511627776) && sms kids
def sms : List E → Bool
  | [] => true
  | e :: r => sm e && sms r
end
theorem sms_mem : ∀ {l : List E}, sms l = true → ∀ e ∈ l, sm e = true
  | [], _, e, he => by cases he
  | x :: l, h, e, he => by
    simp only [sms, Bool.and_eq_true] at h
    rcases List.mem_cons.1 he with rfl | he
    · exact h.1
    · exact sms_mem h.2 e he
theorem sm_open {e : E} (h : sm e = true) : e.s.length < 4611686018427387904 ∧ e.kids.length < 4611686018427387904 ∧ sms e.kids = true := by
  cases e; simp only [sm, Bool.and_eq_true, decide_eq_true_eq] at h; exact ⟨h.1.1, Nat.lt_trans h.1.2 (by decide), h.2⟩
theorem sm_kids {e : E} (h : sm e = true) : e.kids.length < 1099511627776 := by
  cases e; simp only [sm, Bool.and_eq_true, decide_eq_true_eq] at h; exact h.1.2
theorem getD_at {l : List E} {k : Nat} (h : k < l.length) : l.getD k E0 = l[k] := by simp [List.getD_eq_getElem?_getD, List.getElem?_eq_getElem h]
theorem form_eq (e : E) (d : Int) : form e d = (decide (1 ≤ d) && shape e.kind e.n e.s e.kids.length && forms e.kids (d - 1)) := by cases e; simp only [form, E.kind, E.n, E.s, E.kids]
mutual
def wf : E → Bool
  | .mk k _ _ kids => (k != 4 || !kids.isEmpty) && wfs kids
def wfs : List E → Bool
  | [] => true
  | e :: r => wf e && wfs r
end
theorem wfs_mem : ∀ {l : List E}, wfs l = true → ∀ e ∈ l, wf e = true
  | [], _, e, he => by cases he
  | x :: l, h, e, he => by
    simp only [wfs, Bool.and_eq_true] at h
    rcases List.mem_cons.1 he with rfl | he
    · exact h.1
    · exact wfs_mem h.2 e he
theorem wf_open {e : E} (h : wf e = true) : (e.kind = 4 → 0 < e.kids.length) ∧ wfs e.kids = true := by
  cases e with
  | mk k n s kids =>
    simp only [wf, Bool.and_eq_true] at h
    refine ⟨fun hk => ?_, h.2⟩
    simp only [E.kind] at hk
    subst hk
    have := h.1
    simp only [E.kids]
    cases kids with
    | nil => simp at this
    | cons a b => simp
theorem bare_four {e : E} (h : e.kind = 4) (hk : 0 < e.kids.length) : bare e = bare (e.kids.getD 0 E0) := by
  cases e with
  | mk k n s kids =>
    simp only [E.kind] at h
    simp only [E.kids] at hk
    subst h
    cases kids with
    | nil => simp at hk
    | cons a b => simp [bare, bare1, E.kids]
theorem bare_else {e : E} (h : e.kind ≠ 4) : bare e = .mk e.kind e.n e.s (bares e.kids) := by
  cases e with
  | mk k n s kids => simp only [E.kind] at h; simp [bare, h, E.kind, E.n, E.s, E.kids]
theorem bares_len : ∀ l : List E, (bares l).length = l.length
  | [] => by simp [bares]
  | e :: r => by simp [bares, bares_len r]
theorem bares_map : ∀ l : List E, bares l = l.map bare
  | [] => by simp [bares]
  | e :: r => by simp [bares, bares_map r]
theorem bares_snoc {l : List E} {k : Nat} (h : k < l.length) : bares (l.take (k + 1)) = bares (l.take k) ++ [bare (l.getD k E0)] := by
  rw [bares_map, bares_map, List.take_add_one, List.getElem?_eq_getElem h, List.getD_eq_getElem?_getD, List.getElem?_eq_getElem h, List.map_append]
  rfl
mutual
def pla : E → Bool
  | .mk k _ _ kids => k != 4 && plas kids
def plas : List E → Bool
  | [] => true
  | e :: r => pla e && plas r
end
theorem pla_eq (e : E) : pla e = (e.kind != 4 && plas e.kids) := by cases e; simp only [pla, E.kind, E.kids]
end

section
theorem E.eta (e : E) : E.mk e.kind e.n e.s e.kids = e := by cases e; rfl
mutual
theorem same_iff : ∀ x y : E, same x y = true ↔ x = y
  | .mk k n s kids, .mk k' n' s' kids' => by
    have := sameL_iff kids kids'
    simp only [same, Bool.and_eq_true, beq_iff_eq, this, E.mk.injEq, and_assoc]
theorem sameL_iff : ∀ x y : List E, same.sameL x y = true ↔ x = y
  | [], [] => by simp [same.sameL]
  | [], _ :: _ => by simp [same.sameL]
  | _ :: _, [] => by simp [same.sameL]
  | x :: xs, y :: ys => by
    have h1 := same_iff x y
    have h2 := sameL_iff xs ys
    simp only [same.sameL, Bool.and_eq_true, h1, h2, List.cons.injEq]
end
instance : DecidableEq E := fun x y => if h : same x y = true then isTrue ((same_iff x y).1 h) else isFalse fun e => h ((same_iff x y).2 e)
mutual
theorem bare_pla : ∀ e : E, pla e = true → bare e = e
  | .mk k n s kids, h => by
    simp only [pla, Bool.and_eq_true, bne_iff_ne, ne_eq] at h
    simp only [bare, if_neg h.1, bares_plas kids h.2]
theorem bares_plas : ∀ l : List E, plas l = true → bares l = l
  | [], _ => by simp only [bares]
  | e :: r, h => by
    simp only [plas, Bool.and_eq_true] at h
    simp only [bares, bare_pla e h.1, bares_plas r h.2]
end
mutual
theorem pla_bare : ∀ e : E, wf e = true → pla (bare e) = true
  | .mk k n s kids, h => by
    simp only [wf, Bool.and_eq_true] at h
    simp only [bare]
    by_cases hk : k = 4
    · rw [if_pos hk]
      cases kids with
      | nil => simp [hk] at h
      | cons a r =>
        simp only [bare1]
        simp only [wfs, Bool.and_eq_true] at h
        exact pla_bare a h.2.1
    · rw [if_neg hk]
      simp only [pla, Bool.and_eq_true, bne_iff_ne, ne_eq]
      exact ⟨hk, plas_bares kids h.2⟩
theorem plas_bares : ∀ l : List E, wfs l = true → plas (bares l) = true
  | [], _ => by simp only [bares, plas]
  | e :: r, h => by
    simp only [wfs, Bool.and_eq_true] at h
    simp only [bares, plas, pla_bare e h.1, plas_bares r h.2, Bool.and_self]
end
theorem same_bare {e : E} (h : wf e = true) : same (bare e) e = pla e := by
  rw [Bool.eq_iff_iff, same_iff]
  constructor
  · intro he; have := pla_bare e h; rwa [he] at this
  · exact bare_pla e
theorem shape_four {k n : Int} {s : Str} {m : Nat} (h : shape k n s m = true) : k = 4 → 0 < m := by
  rintro rfl; simp [shape] at h; omega
mutual
theorem form_wf : ∀ (e : E) (d : Int), form e d = true → wf e = true
  | .mk k n s kids, d, h => by
    simp only [form, Bool.and_eq_true] at h
    have h1 := shape_four h.1.2
    simp only [wf, Bool.and_eq_true, Bool.or_eq_true, bne_iff_ne, ne_eq, Bool.not_eq_true', List.isEmpty_eq_false_iff]
    refine ⟨?_, forms_wfs kids _ h.2⟩
    by_cases hk : k = 4
    · right; intro e; have := h1 hk; simp [e] at this
    · exact .inl hk
theorem forms_wfs : ∀ (l : List E) (d : Int), forms l d = true → wfs l = true
  | [], _, _ => by simp only [wfs]
  | e :: r, d, h => by
    simp only [forms, Bool.and_eq_true] at h
    simp only [wfs, form_wf e d h.1, forms_wfs r d h.2, Bool.and_self]
end
theorem eok_form {e : E} (h : eok e = true) : form e 5 = true := by simp only [eok, Bool.and_eq_true] at h; exact h.1
theorem eok_many {e : E} (h : eok e = true) : many e 5 ≤ 12 := by simp only [eok, Bool.and_eq_true, decide_eq_true_eq] at h; exact h.2
theorem eok_wf {e : E} (h : eok e = true) : wf e = true := form_wf e 5 (eok_form h)
theorem brk_map (b : Bool) (l : Wd) : (brk b l).map (·.1) = if b then [[40]] ++ l.map (·.1) ++ [[41]] else l.map (·.1) := by
  unfold brk; cases b <;> simp
mutual
theorem src_nx : ∀ (e : E) (must a b : Int), (src e must a).map (·.1) = (src e must b).map (·.1)
  | .mk k n s kids, must, a, b => by
    simp only [src]
    by_cases k1 : k = 1
    · rw [if_pos k1, if_pos k1]; rfl
    by_cases k2 : k = 2
    · rw [if_neg k1, if_neg k1, if_pos k2, if_pos k2]; rfl
    by_cases k3 : k = 3
    · rw [if_neg k1, if_neg k1, if_neg k2, if_neg k2, if_pos k3, if_pos k3, brk_map, brk_map]
      simp only [List.map_append, List.map_cons, srcA_nx kids (max 2 (tight s)) (a + 1) (b + 1), srcB_nx kids (tight s + 1) (a + 1) (b + 1)]
    by_cases k4 : k = 4
    · rw [if_neg k1, if_neg k1, if_neg k2, if_neg k2, if_neg k3, if_neg k3, if_pos k4, if_pos k4]
      simp only [List.map_append, srcA_nx kids 4 a b]
    · rw [if_neg k1, if_neg k1, if_neg k2, if_neg k2, if_neg k3, if_neg k3, if_neg k4, if_neg k4]
theorem srcA_nx : ∀ (l : List E) (must a b : Int), (srcA l must a).map (·.1) = (srcA l must b).map (·.1)
  | [], _, _, _ => by simp only [srcA]
  | e :: r, must, a, b => by simp only [srcA]; exact src_nx e must a b
theorem srcB_nx : ∀ (l : List E) (must a b : Int), (srcB l must a).map (·.1) = (srcB l must b).map (·.1)
  | [], _, _, _ => by simp only [srcB]
  | e :: r, must, a, b => by simp only [srcB]; exact srcA_nx r must _ _
end
theorem src_wds (e : E) (must a : Int) : (src e must a).map (·.1) = wds e must := src_nx e must a 0
theorem wds_num {e : E} (h : e.kind = 1) (must : Int) : wds e must = [Go.Lib.decDigits e.n.toNat] := by
  cases e; simp only [E.kind] at h; subst h; simp [wds, src, E.n]
theorem wds_name {e : E} (h : e.kind = 2) (must : Int) : wds e must = [e.s] := by
  cases e; simp only [E.kind] at h; subst h; simp [wds, src, E.s]
theorem src_two {e : E} (h : e.kind = 3) (hl : e.kids.length = 2) (must nx : Int) : src e must nx = brk (decide (tight e.s < must)) (src (e.kids.getD 0 E0) (max 2 (tight e.s)) (nx + 1) ++ (e.s, nx) :: src (e.kids.getD 1 E0) (tight e.s + 1) (nx + 1 + cnt (e.kids.getD 0 E0))) := by
  cases e with
  | mk k n s kids =>
    simp only [E.kind] at h; subst h
    simp only [E.kids] at hl
    match kids, hl with
    | [a, b], _ => simp [src, srcA, srcB, E.s, E.kids]; rfl
theorem wds_two {e : E} (h : e.kind = 3) (hl : e.kids.length = 2) (must : Int) : wds e must = if tight e.s < must then [[40]] ++ (wds (e.kids.getD 0 E0) (max 2 (tight e.s)) ++ [e.s] ++ wds (e.kids.getD 1 E0) (tight e.s + 1)) ++ [[41]] else wds (e.kids.getD 0 E0) (max 2 (tight e.s)) ++ [e.s] ++ wds (e.kids.getD 1 E0) (tight e.s + 1) := by
  rw [wds, src_two h hl, brk_map]
  simp only [decide_eq_true_eq, List.map_append, List.map_cons, src_wds, List.append_assoc, List.cons_append, List.nil_append]
theorem src_as {e : E} (h : e.kind = 4) (hl : e.kids.length = 1) (must nx : Int) : src e must nx = src (e.kids.getD 0 E0) 4 nx ++ [([97, 115], -1), (e.s, -1)] := by
  cases e with
  | mk k n s kids =>
    simp only [E.kind] at h; subst h
    simp only [E.kids] at hl
    match kids, hl with
    | [a], _ => simp [src, srcA, E.s, E.kids]
theorem wds_as {e : E} (h : e.kind = 4) (hl : e.kids.length = 1) (must : Int) : wds e must = wds (e.kids.getD 0 E0) 4 ++ [[97, 115], e.s] := by
  rw [wds, src_as h hl]; simp only [List.map_append, List.map_cons, List.map_nil, src_wds]
theorem cnt_two {e : E} (h : e.kind = 3) (hl : e.kids.length = 2) : cnt e = 1 + cnt (e.kids.getD 0 E0) + cnt (e.kids.getD 1 E0) := by
  cases e with
  | mk k n s kids =>
    simp only [E.kind] at h; subst h
    simp only [E.kids] at hl
    match kids, hl with
    | [a, b], _ => simp [cnt, cnts, E.kids]; omega
theorem cnt_as {e : E} (h : e.kind = 4) (hl : e.kids.length = 1) : cnt e = cnt (e.kids.getD 0 E0) := by
  cases e with
  | mk k n s kids =>
    simp only [E.kind] at h; subst h
    simp only [E.kids] at hl
    match kids, hl with
    | [a], _ => simp [cnt, cnts, E.kids]
theorem form_open {e : E} {d : Int} (h : form e d = true) : 1 ≤ d ∧
    ((e.kind = 1 ∧ 0 ≤ e.n ∧ e.n ≤ 1000000 ∧ e.s = [] ∧ e.kids = []) ∨ (e.kind = 2 ∧ e.n = 0 ∧ isNm e.s = true ∧ e.kids = []) ∨
     (e.kind = 3 ∧ e.n = 0 ∧ isOp e.s = true ∧ e.kids.length = 2 ∧ form (e.kids.getD 0 E0) (d - 1) = true ∧ form (e.kids.getD 1 E0) (d - 1) = true) ∨
     (e.kind = 4 ∧ e.n = 0 ∧ isTyp e.s = true ∧ e.kids.length = 1 ∧ form (e.kids.getD 0 E0) (d - 1) = true)) := by
  cases e with
  | mk k n s kids =>
    simp only [form, Bool.and_eq_true, decide_eq_true_eq] at h
    obtain ⟨⟨h1, h2⟩, h3⟩ := h
    refine ⟨h1, ?_⟩
    simp only [E.kind, E.n, E.s, E.kids]
    have hm := forms_mem h3
    unfold shape at h2
    by_cases k1 : k = 1
    · subst k1; simp at h2; exact .inl ⟨rfl, h2.1.1.1, h2.1.1.2, h2.1.2, h2.2⟩
    by_cases k2 : k = 2
    · subst k2; simp at h2; exact .inr (.inl ⟨rfl, h2.1.1, h2.1.2, h2.2⟩)
    by_cases k3 : k = 3
    · subst k3; simp at h2
      exact .inr (.inr (.inl ⟨rfl, h2.1.1, h2.1.2, h2.2, hm _ (getD_mem (by omega)), hm _ (getD_mem (by omega))⟩))
    by_cases k4 : k = 4
    · subst k4; simp at h2
      exact .inr (.inr (.inr ⟨rfl, h2.1.1, h2.1.2, h2.2, hm _ (getD_mem (by omega))⟩))
    · simp [k1, k2, k3, k4] at h2
theorem kids_two {e : E} (h : e.kids.length = 2) : e.kids = [e.kids.getD 0 E0, e.kids.getD 1 E0] := by
  match hk : e.kids, h with
  | [a, b], _ => rfl
theorem kids_one {e : E} (h : e.kids.length = 1) : e.kids = [e.kids.getD 0 E0] := by
  match hk : e.kids, h with
  | [a], _ => rfl
theorem many_pos (e : E) {d : Int} (h : 1 ≤ d) : many e d = 1 + manys e.kids (d - 1) := by
  cases e; simp only [many, E.kids]; rw [if_pos (by omega)]
theorem many_two {e : E} {d : Int} (h : 1 ≤ d) (hl : e.kids.length = 2) : many e d = 1 + many (e.kids.getD 0 E0) (d - 1) + many (e.kids.getD 1 E0) (d - 1) := by
  rw [many_pos e h, kids_two hl]; simp only [manys, List.getD_cons_zero, List.getD_cons_succ]; omega
theorem many_one {e : E} {d : Int} (h : 1 ≤ d) (hl : e.kids.length = 1) : many e d = 1 + many (e.kids.getD 0 E0) (d - 1) := by
  rw [many_pos e h, kids_one hl]; simp only [manys, List.getD_cons_zero]; omega
theorem decDigits_len {n : Nat} (h : n ≤ 1000000) : (Go.Lib.decDigits n).length ≤ 7 := by
  have key : ∀ (k n : Nat), n < 10 ^ k → 0 < k → (Go.Lib.decDigits n).length ≤ k := by
    intro k
    induction k with
    | zero => intro n _ h; omega
    | succ k ih =>
      intro n hn _
      by_cases h1 : n < 10
      · rw [Go.Lib.decDigits_one h1]; simp
      · rw [Go.Lib.decDigits, dif_neg h1]
        have h2 : n / 10 < 10 ^ k := by rw [Nat.pow_succ] at hn; omega
        have h3 : 0 < k := by
          rcases Nat.eq_zero_or_pos k with rfl | h3
          · simp at hn; omega
          · exact h3
        have := ih (n / 10) h2 h3
        simp; omega
  exact key 7 n (by omega) (by decide)
theorem isNm_len {s : Str} (h : isNm s = true) : 1 ≤ s.length ∧ s.length ≤ 8 := by
  simp only [isNm, isWord, Bool.and_eq_true, decide_eq_true_eq] at h; omega
theorem isOp_len {s : Str} (h : isOp s = true) : s.length = 1 := by
  simp only [isOp, Bool.or_eq_true, beq_iff_eq] at h; rcases h with ((h | h) | h) | h <;> subst h <;> rfl
theorem isTyp_len {s : Str} (h : isTyp s = true) : s.length ≤ 4 ∧ 1 ≤ s.length := by
  simp only [isTyp, Bool.or_eq_true, beq_iff_eq] at h; rcases h with h | h <;> subst h <;> decide
theorem isOp_tight {s : Str} (h : isOp s = true) : 1 ≤ tight s ∧ tight s ≤ 3 := by
  simp only [isOp, Bool.or_eq_true, beq_iff_eq] at h; rcases h with ((h | h) | h) | h <;> subst h <;> decide
theorem wds_le : ∀ (d : Nat) (e : E) (must : Int), form e d = true → 1 ≤ (wds e must).length ∧ ((wds e must).length : Int) ≤ 3 * many e d ∧ (∀ s ∈ wds e must, 1 ≤ s.length ∧ s.length ≤ 8) ∧ 1 ≤ cnt e ∧ cnt e ≤ many e d
  | 0, e, must, h => by have := (form_open h).1; omega
  | d + 1, e, must, h => by
    have e1 : ((d + 1 : Nat) : Int) - 1 = (d : Int) := by omega
    have hd : (1 : Int) ≤ ((d + 1 : Nat) : Int) := by omega
    rcases (form_open h).2 with ⟨k1, h1, h2, h3, h4⟩ | ⟨k1, h1, h2, h3⟩ | ⟨k1, h1, h2, h3, h4, h5⟩ | ⟨k1, h1, h2, h3, h4⟩
    · have hm : many e ((d + 1 : Nat) : Int) = 1 := by rw [many_pos e hd, h4]; simp [manys]
      have hc : cnt e = 1 := by cases e; simp only [E.kind, E.kids] at k1 h4; subst k1 h4; simp [cnt, cnts]
      rw [wds_num k1, hm, hc]
      have := decDigits_len (n := e.n.toNat) (by omega)
      have h0 := List.length_pos_iff.2 (decDigits_ne' e.n.toNat)
      simp; omega
    · have hm : many e ((d + 1 : Nat) : Int) = 1 := by rw [many_pos e hd, h3]; simp [manys]
      have hc : cnt e = 1 := by cases e; simp only [E.kind, E.kids] at k1 h3; subst k1 h3; simp [cnt, cnts]
      have := isNm_len h2
      rw [wds_name k1, hm, hc]; simp; omega
    · rw [e1] at h4 h5
      obtain ⟨a1, a2, a3, a4, a5⟩ := wds_le d (e.kids.getD 0 E0) (max 2 (tight e.s)) h4
      obtain ⟨b1, b2, b3, b4, b5⟩ := wds_le d (e.kids.getD 1 E0) (tight e.s + 1) h5
      have hm := many_two hd h3
      rw [e1] at hm
      have hl := isOp_len h2
      rw [wds_two k1 h3, hm, cnt_two k1 h3]
      refine ⟨by split <;> simp <;> omega, ?_, ?_, by omega, by omega⟩
      · split <;> simp only [List.length_append, List.length_cons, List.length_nil] <;> omega
      · intro s hs
        have key : s ∈ wds (e.kids.getD 0 E0) (max 2 (tight e.s)) ++ [e.s] ++ wds (e.kids.getD 1 E0) (tight e.s + 1) → 1 ≤ s.length ∧ s.length ≤ 8 := fun hs => by
          simp only [List.mem_append, List.mem_singleton] at hs
          rcases hs with (hs | hs) | hs
          · exact a3 s hs
          · rw [hs, hl]; omega
          · exact b3 s hs
        split at hs
        · rcases List.mem_append.1 hs with hs | hs
          · rcases List.mem_append.1 hs with hs | hs
            · simp at hs; subst hs; simp
            · exact key hs
          · simp at hs; subst hs; simp
        · exact key hs
    · rw [e1] at h4
      obtain ⟨a1, a2, a3, a4, a5⟩ := wds_le d (e.kids.getD 0 E0) 4 h4
      have hm := many_one hd h3
      rw [e1] at hm
      have hl := isTyp_len h2
      rw [wds_as k1 h3, hm, cnt_as k1 h3]
      refine ⟨by simp, by simp only [List.length_append, List.length_cons, List.length_nil]; omega, ?_, by omega, by omega⟩
      intro s hs
      simp only [List.mem_append, List.mem_cons, List.not_mem_nil, or_false] at hs
      rcases hs with hs | hs | hs
      · exact a3 s hs
      · subst hs; simp
      · rw [hs]; omega
where
  decDigits_ne' (n : Nat) : Go.Lib.decDigits n ≠ [] := by
    by_cases h : n < 10
    · rw [Go.Lib.decDigits_one h]; simp
    · rw [Go.Lib.decDigits, dif_neg h]; simp
theorem eok_wds {e : E} (h : eok e = true) (must : Int) : 1 ≤ (wds e must).length ∧ (wds e must).length ≤ 36 ∧ ∀ s ∈ wds e must, 1 ≤ s.length ∧ s.length ≤ 8 := by
  have := wds_le 5 e must (eok_form h)
  have h2 := eok_many h
  have h3 : many e ((5 : Nat) : Int) = many e 5 := rfl
  rw [h3] at this
  exact ⟨this.1, by omega, this.2.2.1⟩
end

section
structure Bl where
  kind : Int
  name : Str
  expr : E
  thn : E
structure Sl where
  kind : Int
  name : Str
  type : Str
  expr : E
  thn : E
def wEq : Str := [61]
def wPrint : Str := [112, 114, 105, 110, 116]
def wIf : Str := [105, 102]
def wCol : Str := [58]
def wLet : Str := [108, 101, 116]
def wSay : Str := [115, 97, 121]
def wWhen : Str := [119, 104, 101, 110]
def none0 (e : E) : Bool := same e E0
def pe (e : E) : Bool := eok e && pla e
def bw (b : Bl) : List Str :=
  if b.kind = 1 then b.name :: wEq :: wds b.expr 1
  else if b.kind = 2 then wPrint :: wds b.expr 1
  else if b.kind = 3 then wIf :: wds b.expr 1 ++ wCol :: wPrint :: wds b.thn 1
  else []
def bok0 (b : Bl) : Bool :=
  if b.kind = 0 then b.name == [] && none0 b.expr && none0 b.thn
  else if b.kind = 1 then isNm b.name && pe b.expr && none0 b.thn
  else if b.kind = 2 then b.name == [] && pe b.expr && none0 b.thn
  else if b.kind = 3 then b.name == [] && pe b.expr && pe b.thn
  else false
def bok (b : Bl) : Bool := bok0 b && decide ((tokText (bw b)).length ≤ 120)
def bsame (a b : Bl) : Bool := a.kind == b.kind && a.name == b.name && same a.expr b.expr && same a.thn b.thn
def bof (s : Sl) : Bl := ⟨s.kind, s.name, if s.kind = 0 then E0 else bare s.expr, if s.kind = 3 then bare s.thn else E0⟩
def B0 : Bl := ⟨0, [], E0, E0⟩
def S0 : Sl := ⟨0, [], [], E0, E0⟩
theorem Bl.eta (b : Bl) : Bl.mk b.kind b.name b.expr b.thn = b := rfl
theorem bsame_iff (a b : Bl) : bsame a b = true ↔ a = b := by
  cases a; cases b; simp only [bsame, Bool.and_eq_true, beq_iff_eq, same_iff, Bl.mk.injEq, and_assoc]
theorem none0_iff (e : E) : none0 e = true ↔ e = E0 := same_iff e E0
theorem pe_eok {e : E} (h : pe e = true) : eok e = true := by simp only [pe, Bool.and_eq_true] at h; exact h.1
theorem plain_eq (e : E) : (eok e && same (bare e) e) = pe e := by
  unfold pe
  cases h : eok e with
  | false => rfl
  | true => rw [same_bare (eok_wf h)]
theorem inter_cons (s x : Str) (l : List Str) : [(32 : UInt8)].intercalate (s :: x :: l) = s ++ 32 :: [(32 : UInt8)].intercalate (x :: l) := by
  simp [List.intercalate]
theorem tokText_cons (s x : Str) (l : List Str) : tokText (s :: x :: l) = s ++ 32 :: tokText (x :: l) := inter_cons s x l
theorem tokText_one (s : Str) : tokText [s] = s := by simp [tokText, List.intercalate]
theorem tokText_nil : tokText [] = [] := rfl
theorem tokText_len : ∀ l : List Str, l ≠ [] → (tokText l).length + 1 = (l.map List.length).sum + l.length
  | [], h => absurd rfl h
  | [s], _ => by rw [tokText_one]; simp
  | s :: x :: l, _ => by
    have := tokText_len (x :: l) (by simp)
    rw [tokText_cons]
    simp only [List.length_append, List.length_cons, List.map_cons, List.sum_cons] at this ⊢
    omega
theorem sum_le {l : List Str} {k : Nat} (h : ∀ s ∈ l, s.length ≤ k) : (l.map List.length).sum ≤ l.length * k := by
  induction l with
  | nil => simp
  | cons a r ih =>
    have h1 := h a (by simp)
    have h2 := ih fun s hs => h s (by simp [hs])
    simp only [List.map_cons, List.sum_cons, List.length_cons, Nat.add_mul]; omega
theorem tokText_le {l : List Str} {k : Nat} (h : ∀ s ∈ l, s.length ≤ k) : (tokText l).length ≤ l.length * (k + 1) := by
  by_cases hl : l = []
  · subst hl; simp [tokText_nil]
  · have h1 := tokText_len l hl
    have h2 := sum_le h
    rw [Nat.mul_add]; omega
theorem bw_le {b : Bl} (h : bok0 b = true) : (bw b).length ≤ 76 ∧ ∀ s ∈ bw b, 1 ≤ s.length ∧ s.length ≤ 8 := by
  unfold bok0 at h
  unfold bw
  by_cases k0 : b.kind = 0
  · simp [k0]
  by_cases k1 : b.kind = 1
  · simp [k1] at h
    have h1 := eok_wds (pe_eok h.1.2) 1
    have h2 := isNm_len h.1.1
    simp only [k1, if_true]
    refine ⟨by simp; omega, fun s hs => ?_⟩
    rcases List.mem_cons.1 hs with rfl | hs
    · exact h2
    rcases List.mem_cons.1 hs with rfl | hs
    · decide
    · exact h1.2.2 s hs
  by_cases k2 : b.kind = 2
  · simp [k2] at h
    have h1 := eok_wds (pe_eok h.1.2) 1
    simp only [k2, if_true]
    refine ⟨by simp; omega, fun s hs => ?_⟩
    simp only [show ¬ (2 : Int) = 1 by omega, if_false] at hs
    rcases List.mem_cons.1 hs with rfl | hs
    · decide
    · exact h1.2.2 s hs
  by_cases k3 : b.kind = 3
  · simp [k3] at h
    have h1 := eok_wds (pe_eok h.1.2) 1
    have h2 := eok_wds (pe_eok h.2) 1
    simp only [k3, if_true]
    refine ⟨by simp; omega, fun s hs => ?_⟩
    simp only [show ¬ (3 : Int) = 1 by omega, show ¬ (3 : Int) = 2 by omega, if_false] at hs
    rcases List.mem_append.1 hs with hs | hs
    · rcases List.mem_cons.1 hs with rfl | hs
      · decide
      · exact h1.2.2 s hs
    · rcases List.mem_cons.1 hs with rfl | hs
      · decide
      rcases List.mem_cons.1 hs with rfl | hs
      · decide
      · exact h2.2.2 s hs
  · simp [k0, k1, k2, k3] at h
theorem wds_one {e : E} {d : Int} (h : form e d = true) : wds e 0 = wds e 1 := by
  rcases (form_open h).2 with ⟨k1, _⟩ | ⟨k1, _⟩ | ⟨k1, h1, h2, h3, _⟩ | ⟨k1, h1, h2, h3, _⟩
  · rw [wds_num k1, wds_num k1]
  · rw [wds_name k1, wds_name k1]
  · have := isOp_tight h2
    rw [wds_two k1 h3, wds_two k1 h3, if_neg (by omega), if_neg (by omega)]
  · rw [wds_as k1 h3, wds_as k1 h3]
end
end Go.Proofs.YteihfmnmpdbkiaaGreatDoor
