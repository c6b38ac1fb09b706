/- Parts of the proof, one after another: The program's reader of what is reckoned, as a plain function; it reads back what is written. | The reference's reader of what is reckoned, as a plain function; it reads back what is written. | Words of a line: how a line is cut into words, and that a text of words is cut into these. | Lines are read: both readers read just what is written. | Plain laws: types taken away: right still, no wider; which words stand in it. | Plain laws of what a line is turned into: whence each word came, by numbers of parts and by places. Conditions: none. -/
import Derived.Test.YteihfmnmpdbkiaaGreatDoorKc
import Derived.Test.YteihfmnmpdbkiaaGreatDoorKb
set_option linter.unusedVariables false
set_option linter.unusedSimpArgs false
namespace Go.Proofs.YteihfmnmpdbkiaaGreatDoor
section
structure RS where
  left : List Str
  bad : Bool
  deep : Int
def wAs : Str := [97, 115]
def rHead (s : RS) : Str := match s.left with | [] => [] | x :: _ => x
def rNext (s : RS) : RS := match s.left with | [] => { s with bad := true } | _ :: r => { s with left := r }
def asL : List Str → E → Int → E × RS
  | [], e, d => (e, ⟨[], false, d⟩)
  | [w], e, d => if w = wAs then (.mk 4 0 [] [e], ⟨[], true, d⟩) else (e, ⟨[w], false, d⟩)
  | w :: t :: r, e, d => if w = wAs then asL r (.mk 4 0 t [e]) d else (e, ⟨w :: t :: r, false, d⟩)
def asR (s : RS) (e : E) : E × RS := if s.bad then (e, s) else asL s.left e s.deep
mutual
def iLev : Nat → Nat → RS → E × RS
  | 0, _, s => (E0, s)
  | n + 1, t, s => if t = 4 then iHeld n s else iLoop n t (iLev n (t + 1) s).1 (iLev n (t + 1) s).2
def iLoop : Nat → Nat → E → RS → E × RS
  | 0, _, e, s => (e, s)
  | n + 1, t, e, s => if s.bad = false ∧ s.left ≠ [] ∧ tight (rHead s) = t then
      iLoop n t (.mk 3 0 (rHead s) [e, (iLev n (t + 1) (rNext s)).1]) (iLev n (t + 1) (rNext s)).2 else (e, s)
def iHeld : Nat → RS → E × RS
  | 0, s => (E0, s)
  | n + 1, s => asR (iAtom n (rHead s) (rNext s)).2 (iAtom n (rHead s) (rNext s)).1
def iAtom : Nat → Str → RS → E × RS
  | 0, _, s => (E0, s)
  | n + 1, w, s =>
    if w = [40] then
      if s.bad = true ∨ 40 < s.deep + 1 then (E0, { s with deep := s.deep + 1, bad := true })
      else
        let p := iLev n 1 { s with deep := s.deep + 1 }
        (p.1, if p.2.bad then p.2 else { rNext p.2 with bad := !(rHead p.2 == [41]) })
    else if numOk w then (.mk 1 (numVal w) [] [], s)
    else if isNm w then (.mk 2 0 w [], s)
    else (E0, { s with bad := true })
end
theorem asL_len : ∀ (l : List Str) (e : E) (d : Int), (asL l e d).2.left.length ≤ l.length ∧ (asL l e d).2.deep = d
  | [], e, d => by simp [asL]
  | [w], e, d => by simp only [asL]; split <;> simp
  | w :: t :: r, e, d => by
    simp only [asL]
    split
    · have := asL_len r (.mk 4 0 t [e]) d; simp only [List.length_cons]; omega
    · simp
theorem asR_len (s : RS) (e : E) : (asR s e).2.left.length ≤ s.left.length := by
  unfold asR; split
  · exact Nat.le_refl _
  · exact (asL_len s.left e s.deep).1
theorem asR_deep (s : RS) (e : E) : (asR s e).2.deep = s.deep := by
  unfold asR; split
  · rfl
  · exact (asL_len s.left e s.deep).2
def eff (e : E) (must : Int) : Int := if e.kind = 3 ∧ ¬ tight e.s < must then tight e.s else 4
theorem numOk_dec {n : Nat} (h : n ≤ 1000000) : numOk (Go.Lib.decDigits n) = true ∧ numVal (Go.Lib.decDigits n) = n ∧ Go.Lib.decDigits n ≠ [40] := by
  refine ⟨numOk_iff.2 ⟨n, h, rfl⟩, numVal_decDigits n, fun e => ?_⟩
  have := decDigits_dig n 40 (by rw [e]; simp)
  unfold isDig at this; revert this; decide
end

section
theorem isDig_iff (c : UInt8) : digit c = true ↔ isDig c := digit_iff c
theorem num12_ok (l : Str) : ((num12 l).2 && (decide (0 ≤ (num12 l).1) && decide ((num12 l).1 ≤ 1000000))) = numOk l ∧ (numOk l = true → (num12 l).1 = numVal l) := by
  have key : numOk l = true → (num12 l).2 = true ∧ (num12 l).1 = numVal l := fun h => by
    obtain ⟨n, hn, rfl⟩ := numOk_iff.1 h
    have hd := decDigits_dig n
    have hlen := decDigits_len hn
    have hh : (Go.Lib.decDigits n).head? ≠ some 45 := fun e => by
      have := hd 45 (List.mem_of_mem_head? (by rw [e]; rfl)); unfold isDig at this; revert this; decide
    have hz : (Go.Lib.decDigits n).head? = some 48 → (Go.Lib.decDigits n).length ≤ 1 := fun e => by
      by_cases h : n < 10
      · rw [Go.Lib.decDigits_one h]; simp
      · exfalso; exact dec_lead n (by omega) e
    have hne : (Go.Lib.decDigits n).length ≠ 0 := fun e => decDigits_ne n (List.eq_nil_of_length_eq_zero e)
    unfold num12
    simp only [show ((Go.Lib.decDigits n).head? == some 45) = false by simpa using hh, Bool.false_eq_true, if_false, or_false]
    rw [if_neg (by rintro (h | h | ⟨h1, h2⟩); exact hne h; omega; have := hz h1; omega), if_pos (List.all_eq_true.2 fun c hc => (isDig_iff c).2 (hd c hc))]
    exact ⟨rfl, rfl⟩
  refine ⟨?_, fun h => (key h).2⟩
  cases h : numOk l with
  | true =>
    obtain ⟨h1, h2⟩ := key h
    obtain ⟨n, hn, rfl⟩ := numOk_iff.1 h
    rw [h1, h2, numVal_decDigits]; simp; omega
  | false =>
    rw [Bool.eq_false_iff]
    intro hh
    rw [Bool.eq_false_iff] at h
    apply h
    simp only [Bool.and_eq_true, decide_eq_true_eq] at hh
    obtain ⟨h1, h2, h3⟩ := hh
    unfold num12 at h1 h2 h3
    cases hneg : (l.head? == some 45) with
    | true =>
      exfalso
      simp only [hneg, if_true] at h1 h2 h3
      split at h1
      · cases h1
      · rename_i hc
        rw [if_neg hc] at h2 h3
        split at h1
        · rename_i hall
          rw [if_pos hall] at h2 h3
          have hd : ∀ c ∈ l.tail, isDig c := fun c hc => (isDig_iff c).1 (List.all_eq_true.1 hall c hc)
          have hne : l.tail ≠ [] := fun e => hc (.inl (by rw [e]; rfl))
          have := (lead hne hd (fun e => hc (.inr (.inr ⟨e, .inr trivial⟩)))).1
          omega
        · cases h1
    | false =>
      simp only [hneg, Bool.false_eq_true, if_false, or_false] at h1 h2 h3
      split at h1
      · cases h1
      · rename_i hc
        rw [if_neg hc] at h2 h3
        split at h1
        · rename_i hall
          rw [if_pos hall] at h2 h3
          have hd : ∀ c ∈ l, isDig c := fun c hc => (isDig_iff c).1 (List.all_eq_true.1 hall c hc)
          have hne : l ≠ [] := fun e => hc (.inl (by rw [e]; rfl))
          refine numOk_iff.2 ⟨numVal l, by omega, ?_⟩
          by_cases h0 : l.head? = some 48
          · have : ¬ 1 < l.length := fun h => hc (.inr (.inr ⟨h0, h⟩))
            match l, h0, this, hne with
            | [c], h0, _, _ => simp at h0; subst h0; rw [show numVal [48] = 0 from rfl, Go.Lib.decDigits_one (by decide)]; rfl
            | _ :: _ :: _, _, h, _ => simp at h
          · exact (lead hne hd h0).2.symm
        · cases h1
where
  dec_lead (n : Nat) (h : 1 ≤ n) : (Go.Lib.decDigits n).head? ≠ some 48 := by
    induction n using Nat.strongRecOn with
    | ind n ih =>
      by_cases h1 : n < 10
      · rw [Go.Lib.decDigits_one h1]
        simp only [List.head?_cons, ne_eq, Option.some.injEq]
        intro e
        have := dig_lt h1
        rw [e] at this
        have e2 : (48 : UInt8).toNat = 48 := rfl
        omega
      · rw [decDigits_step h1]
        have := ih (n / 10) (by omega) (by omega)
        cases hl : Go.Lib.decDigits (n / 10) with
        | nil => exact absurd hl (decDigits_ne _)
        | cons c r => rw [hl] at this; simpa using this
end

section
def marks : Str := [43, 45, 42, 60, 40, 41, 58, 61]
def isMark (s : Str) : Bool := s.length == 1 && marks.contains (s.headD 0)
def tkKind (s : Str) : Int := if isWord s then 1 else if numOk s then 2 else if isMark s then 3 else 0
structure Tk where
  kind : Int
  s : Str
  col : Int
def wlen (l : Str) : Nat := max 1 (max (l.takeWhile lower).length (l.takeWhile digit).length)
def toks : Nat → Str → Int → Option (List Tk)
  | 0, _, _ => some []
  | _ + 1, [], _ => some []
  | n + 1, c :: l, col =>
    if c = 32 then toks n l (col + 1)
    else if tkKind ((c :: l).take (wlen (c :: l))) = 0 then none
    else (toks n ((c :: l).drop (wlen (c :: l))) (col + wlen (c :: l))).map (⟨tkKind ((c :: l).take (wlen (c :: l))), (c :: l).take (wlen (c :: l)), col⟩ :: ·)
def tokLine (l : Str) : Option (List Tk) := if 120 < l.length then none else toks l.length l 0
theorem wlen_pos (l : Str) : 1 ≤ wlen l := by unfold wlen; omega
theorem tw_le (p : UInt8 → Bool) (l : Str) : (l.takeWhile p).length ≤ l.length := (List.takeWhile_prefix p).length_le
theorem wlen_le {l : Str} (h : l ≠ []) : wlen l ≤ l.length := by
  have h1 := tw_le lower l
  have h2 := tw_le digit l
  have h3 := List.length_pos_iff.2 h
  unfold wlen; omega
theorem toks_fuel : ∀ (n m : Nat) (l : Str) (col : Int), l.length ≤ n → l.length ≤ m → toks n l col = toks m l col
  | 0, m, l, col, hn, hm => by
    have : l = [] := List.eq_nil_of_length_eq_zero (by omega)
    subst this
    cases m <;> rfl
  | n + 1, 0, l, col, hn, hm => by
    have : l = [] := List.eq_nil_of_length_eq_zero (by omega)
    subst this
    rfl
  | n + 1, m + 1, [], col, _, _ => rfl
  | n + 1, m + 1, c :: l, col, hn, hm => by
    simp only [List.length_cons] at hn hm
    have h1 := wlen_pos (c :: l)
    simp only [toks]
    rw [toks_fuel n m l (col + 1) (by omega) (by omega), toks_fuel n m ((c :: l).drop (wlen (c :: l))) _ (by simp; omega) (by simp; omega)]
theorem toks_cons (c : UInt8) (l : Str) (col : Int) : toks (c :: l).length (c :: l) col =
    if c = 32 then toks l.length l (col + 1)
    else if tkKind ((c :: l).take (wlen (c :: l))) = 0 then none
    else (toks ((c :: l).drop (wlen (c :: l))).length ((c :: l).drop (wlen (c :: l))) (col + wlen (c :: l))).map (⟨tkKind ((c :: l).take (wlen (c :: l))), (c :: l).take (wlen (c :: l)), col⟩ :: ·) := by
  have h1 := wlen_pos (c :: l)
  have h2 := toks_fuel l.length ((c :: l).drop (wlen (c :: l))).length ((c :: l).drop (wlen (c :: l))) (col + wlen (c :: l)) (by simp; omega) (Nat.le_refl _)
  simp only [List.length_cons, toks]
  rw [h2]
def tkOf : Int → List Str → List Tk
  | _, [] => []
  | c, w :: r => ⟨tkKind w, w, c⟩ :: tkOf (c + w.length + 1) r
def colsOf : Int → List Str → List Int
  | _, [] => []
  | c, w :: r => c :: colsOf (c + w.length + 1) r
theorem tkOf_s : ∀ (c : Int) (l : List Str), (tkOf c l).map (·.s) = l
  | _, [] => rfl
  | c, w :: r => by simp only [tkOf, List.map_cons, tkOf_s]
def wordy (w : Str) : Prop := tkKind w ≠ 0
theorem tw_app {p : UInt8 → Bool} {w r : Str} (h : w.all p = true) (hr : ∀ c, r.head? = some c → p c = false) : (w ++ r).takeWhile p = w := by
  induction w with
  | nil =>
    cases r with
    | nil => rfl
    | cons c r => simp [List.takeWhile, hr c rfl]
  | cons c w ih =>
    simp only [List.all_cons, Bool.and_eq_true] at h
    simp [List.takeWhile, h.1, ih h.2]
theorem tw_not {p : UInt8 → Bool} {c : UInt8} {l : Str} (h : p c = false) : (c :: l).takeWhile p = [] := by simp [List.takeWhile, h]
theorem lower_not_digit {c : UInt8} (h : lower c = true) : digit c = false := by
  rw [Bool.eq_false_iff]; intro h2
  simp only [lower, digit, Bool.and_eq_true, decide_eq_true_eq] at h h2; omega
theorem digit_not_lower {c : UInt8} (h : digit c = true) : lower c = false := by
  rw [Bool.eq_false_iff]; intro h2
  simp only [lower, digit, Bool.and_eq_true, decide_eq_true_eq] at h h2; omega
theorem wordy_open {w : Str} (h : wordy w) : (w ≠ [] ∧ w.all lower = true) ∨ (w ≠ [] ∧ w.all digit = true) ∨ (∃ c, w = [c] ∧ lower c = false ∧ digit c = false ∧ c ≠ 32) := by
  unfold wordy tkKind at h
  by_cases h1 : isWord w = true
  · left
    simp only [isWord, Bool.and_eq_true, decide_eq_true_eq] at h1
    exact ⟨fun e => by subst e; simp at h1, h1.1.1⟩
  rw [if_neg h1] at h
  by_cases h2 : numOk w = true
  · right; left
    obtain ⟨n, hn, rfl⟩ := numOk_iff.1 h2
    exact ⟨decDigits_ne n, List.all_eq_true.2 fun c hc => (digit_iff c).2 (decDigits_dig n c hc)⟩
  rw [if_neg h2] at h
  by_cases h3 : isMark w = true
  · right; right
    simp only [isMark, Bool.and_eq_true, beq_iff_eq] at h3
    match w, h3 with
    | [c], h3 =>
      have h4 := h3.2
      refine ⟨c, rfl, ?_⟩
      simp [marks] at h4
      rcases h4 with h4 | h4 | h4 | h4 | h4 | h4 | h4 | h4 <;> subst h4 <;> decide
  · rw [if_neg h3] at h; exact absurd rfl h
theorem wordy_ne {w : Str} (h : wordy w) : w ≠ [] := by
  rcases wordy_open h with h | h | ⟨c, rfl, _⟩
  · exact h.1
  · exact h.1
  · simp
theorem wordy_head {c : UInt8} {w : Str} (h : wordy (c :: w)) : c ≠ 32 := by
  rcases wordy_open h with h | h | ⟨d, e, h1, h2, h3⟩
  · intro e; subst e; have := h.2; simp [lower] at this
  · intro e; subst e; have := h.2; simp [digit] at this
  · injection e with e1 e2; subst e1; exact h3
theorem wlen_word {w r : Str} (h : wordy w) (hr : r = [] ∨ ∃ r', r = 32 :: r') : wlen (w ++ r) = w.length := by
  have hl : ∀ c, r.head? = some c → lower c = false := fun c hc => by
    rcases hr with rfl | ⟨r', rfl⟩
    · simp at hc
    · simp at hc; subst hc; decide
  have hd : ∀ c, r.head? = some c → digit c = false := fun c hc => by
    rcases hr with rfl | ⟨r', rfl⟩
    · simp at hc
    · simp at hc; subst hc; decide
  unfold wlen
  rcases wordy_open h with h | h | ⟨c, rfl, h1, h2, h3⟩
  · rw [tw_app h.2 hl]
    cases w with
    | nil => exact absurd rfl h.1
    | cons c w =>
      have := h.2
      simp only [List.all_cons, Bool.and_eq_true] at this
      rw [List.cons_append, tw_not (lower_not_digit this.1)]; simp
  · rw [tw_app h.2 hd]
    cases w with
    | nil => exact absurd rfl h.1
    | cons c w =>
      have := h.2
      simp only [List.all_cons, Bool.and_eq_true] at this
      rw [List.cons_append, tw_not (digit_not_lower this.1)]; simp
  · rw [List.cons_append, tw_not h1, tw_not h2]; rfl
theorem toks_words : ∀ (l : List Str) (col : Int), (∀ w ∈ l, wordy w) → toks (tokText l).length (tokText l) col = some (tkOf col l)
  | [], col, _ => rfl
  | [w], col, h => by
    have hw := h w (by simp)
    rw [tokText_one]
    have hl := wlen_word (r := []) hw (.inl rfl)
    rw [List.append_nil] at hl
    cases hc : w with
    | nil => exact absurd hc (wordy_ne hw)
    | cons c v =>
      rw [← hc, show w.length = (c :: v).length by rw [hc], hc, toks_cons, ← hc, hl]
      have : c ≠ 32 := wordy_head (by rw [← hc]; exact hw)
      rw [if_neg this, List.take_length, if_neg hw, List.drop_length]
      rfl
  | w :: x :: l, col, h => by
    have hw := h w (by simp)
    have ih := toks_words (x :: l) (col + w.length + 1) (fun y hy => h y (by simp [hy]))
    rw [tokText_cons]
    have hl := wlen_word (r := 32 :: tokText (x :: l)) hw (.inr ⟨_, rfl⟩)
    cases hc : w with
    | nil => exact absurd hc (wordy_ne hw)
    | cons c v =>
      have h32 : c ≠ 32 := wordy_head (by rw [← hc]; exact hw)
      have e1 : c :: v ++ 32 :: tokText (x :: l) = c :: (v ++ 32 :: tokText (x :: l)) := rfl
      have e2 : c :: (v ++ 32 :: tokText (x :: l)) = w ++ 32 :: tokText (x :: l) := by rw [hc]; rfl
      rw [e1, toks_cons, if_neg h32, e2, hl, List.take_left, List.drop_left, if_neg hw, toks_cons, if_pos rfl, ih, ← hc]
      rfl
theorem tokLine_words {l : List Str} (h : ∀ w ∈ l, wordy w) (hl : (tokText l).length ≤ 120) : tokLine (tokText l) = some (tkOf 0 l) := by
  unfold tokLine; rw [if_neg (by omega)]; exact toks_words l 0 h
theorem wordy_nm {s : Str} (h : isNm s = true) : wordy s := by
  simp only [isNm, Bool.and_eq_true] at h
  unfold wordy tkKind; rw [if_pos h.1]; decide
theorem wordy_num {n : Nat} (h : n ≤ 1000000) : wordy (Go.Lib.decDigits n) := by
  unfold wordy tkKind
  split
  · decide
  · rw [if_pos (numOk_dec h).1]; decide
theorem wordy_mark {s : Str} (h : isMark s = true) : wordy s := by
  unfold wordy tkKind
  split
  · decide
  · split
    · decide
    · try rw [if_pos h]
      decide
theorem wordy_word {s : Str} (h : isWord s = true) : wordy s := by unfold wordy tkKind; rw [if_pos h]; decide
theorem wordy_op {s : Str} (h : isOp s = true) : wordy s := by
  simp only [isOp, Bool.or_eq_true, beq_iff_eq] at h; rcases h with ((h | h) | h) | h <;> subst h <;> exact wordy_mark (by decide)
theorem wordy_typ {s : Str} (h : isTyp s = true) : wordy s := by
  simp only [isTyp, Bool.or_eq_true, beq_iff_eq] at h; rcases h with h | h <;> subst h <;> exact wordy_word (by decide)
theorem wordy_wds : ∀ (d : Nat) (e : E) (must : Int), form e d = true → ∀ s ∈ wds e must, wordy s
  | 0, e, must, h => by have := (form_open h).1; omega
  | d + 1, e, must, h => by
    have e1 : ((d + 1 : Nat) : Int) - 1 = (d : Int) := by omega
    intro s hs
    rcases (form_open h).2 with ⟨k1, h1, h2, h3, h4⟩ | ⟨k1, h1, h2, h3⟩ | ⟨k1, h1, h2, h3, h4, h5⟩ | ⟨k1, h1, h2, h3, h4⟩
    · rw [wds_num k1] at hs; simp at hs; subst hs; exact wordy_num (by omega)
    · rw [wds_name k1] at hs; simp at hs; subst hs; exact wordy_nm h2
    · rw [e1] at h4 h5
      rw [wds_two k1 h3] at hs
      have A := wordy_wds d _ (max 2 (tight e.s)) h4
      have B := wordy_wds d _ (tight e.s + 1) h5
      have key : s ∈ wds (e.kids.getD 0 E0) (max 2 (tight e.s)) ++ [e.s] ++ wds (e.kids.getD 1 E0) (tight e.s + 1) → wordy s := fun hs => by
        simp only [List.mem_append, List.mem_singleton] at hs
        rcases hs with (hs | hs) | hs
        · exact A s hs
        · rw [hs]; exact wordy_op h2
        · exact B s hs
      split at hs
      · rcases List.mem_append.1 hs with hs | hs
        · rcases List.mem_append.1 hs with hs | hs
          · simp at hs; subst hs; exact wordy_mark (by decide)
          · exact key hs
        · simp at hs; subst hs; exact wordy_mark (by decide)
      · exact key hs
    · rw [e1] at h4
      rw [wds_as k1 h3] at hs
      simp only [List.mem_append, List.mem_cons, List.not_mem_nil, or_false] at hs
      rcases hs with hs | hs | hs
      · exact wordy_wds d _ 4 h4 s hs
      · subst hs; exact wordy_word (by decide)
      · subst hs; exact wordy_typ h2
end

section
def exprR (w : List Str) : Option E :=
  if w.length ≤ 40 then
    (if ((iLev 500 1 ⟨w, false, 0⟩).2.bad || !(iLev 500 1 ⟨w, false, 0⟩).2.left.isEmpty || !eok (iLev 500 1 ⟨w, false, 0⟩).1 || !(wds (iLev 500 1 ⟨w, false, 0⟩).1 1 == w)) then none else some (iLev 500 1 ⟨w, false, 0⟩).1)
  else none
def ex (w : List Str) : E := (exprR w).getD E0
def btext (b : Bl) : Str := tokText (bw b)
theorem sok_open {s : Sl} (h : sok s = true) : (tokText (sw' s)).length ≤ 116 ∧
    (s = S0 ∨ (s.kind = 1 ∧ isNm s.name = true ∧ isTyp s.type = true ∧ eok s.expr = true ∧ s.thn = E0) ∨ (s.kind = 2 ∧ s.name = [] ∧ s.type = [] ∧ eok s.expr = true ∧ s.thn = E0) ∨ (s.kind = 3 ∧ s.name = [] ∧ s.type = [] ∧ eok s.expr = true ∧ eok s.thn = true)) := by
  simp only [sok, Bool.and_eq_true, decide_eq_true_eq] at h
  refine ⟨h.2, ?_⟩
  have h := h.1
  unfold sok0 at h
  by_cases k0 : s.kind = 0
  · simp [k0, none0_iff] at h
    left; cases s; simp_all [S0]
  by_cases k1 : s.kind = 1
  · simp [k1, none0_iff] at h; exact .inr (.inl ⟨k1, h.1.1.1, h.1.1.2, h.1.2, h.2⟩)
  by_cases k2 : s.kind = 2
  · simp [k2, none0_iff] at h; exact .inr (.inr (.inl ⟨k2, h.1.1.1, h.1.1.2, h.1.2, h.2⟩))
  by_cases k3 : s.kind = 3
  · simp [k3] at h; exact .inr (.inr (.inr ⟨k3, h.1.1.1, h.1.1.2, h.1.2, h.2⟩))
  · simp [k0, k1, k2, k3] at h
theorem bok_open {s : Bl} (h : bok s = true) : (tokText (bw s)).length ≤ 120 ∧
    (s = B0 ∨ (s.kind = 1 ∧ isNm s.name = true ∧ pe s.expr = true ∧ s.thn = E0) ∨ (s.kind = 2 ∧ s.name = [] ∧ pe s.expr = true ∧ s.thn = E0) ∨ (s.kind = 3 ∧ s.name = [] ∧ pe s.expr = true ∧ pe s.thn = true)) := by
  simp only [bok, Bool.and_eq_true, decide_eq_true_eq] at h
  refine ⟨h.2, ?_⟩
  have h := h.1
  unfold bok0 at h
  by_cases k0 : s.kind = 0
  · simp [k0, none0_iff] at h
    left; cases s; simp_all [B0]
  by_cases k1 : s.kind = 1
  · simp [k1, none0_iff] at h; exact .inr (.inl ⟨k1, h.1.1, h.1.2, h.2⟩)
  by_cases k2 : s.kind = 2
  · simp [k2, none0_iff] at h; exact .inr (.inr (.inl ⟨k2, h.1.1, h.1.2, h.2⟩))
  by_cases k3 : s.kind = 3
  · simp [k3] at h; exact .inr (.inr (.inr ⟨k3, h.1.1, h.1.2, h.2⟩))
  · simp [k0, k1, k2, k3] at h
theorem wordy_col : wordy wCol := wordy_mark (by decide)
theorem wordy_eq : wordy wEq := wordy_mark (by decide)
theorem wordy_bw {s : Bl} (h : bok s = true) : ∀ w ∈ bw s, wordy w := by
  obtain ⟨_, h | ⟨k, h1, h3, h4⟩ | ⟨k, h1, h3, h4⟩ | ⟨k, h1, h3, h4⟩⟩ := bok_open h
  · subst h; intro w hw; simp [bw, B0] at hw
  · intro w hw
    simp only [bw, k, if_true, List.mem_cons] at hw
    rcases hw with rfl | rfl | hw
    · exact wordy_nm h1
    · exact wordy_eq
    · exact wordy_wds 5 _ 1 (eok_form (pe_eok h3)) w hw
  · intro w hw
    simp only [bw, k, show ¬ (2 : Int) = 1 by omega, if_false, if_true, List.mem_cons] at hw
    rcases hw with rfl | hw
    · exact wordy_word (by decide)
    · exact wordy_wds 5 _ 1 (eok_form (pe_eok h3)) w hw
  · intro w hw
    simp only [bw, k, show ¬ (3 : Int) = 1 by omega, show ¬ (3 : Int) = 2 by omega, if_false, if_true, List.mem_cons, List.mem_append] at hw
    rcases hw with (rfl | hw) | rfl | rfl | hw
    · exact wordy_word (by decide)
    · exact wordy_wds 5 _ 1 (eok_form (pe_eok h3)) w hw
    · exact wordy_col
    · exact wordy_word (by decide)
    · exact wordy_wds 5 _ 1 (eok_form (pe_eok h4)) w hw
theorem tok_btext {s : Bl} (h : bok s = true) : tokLine (btext s) = some (tkOf 0 (bw s)) := tokLine_words (wordy_bw h) (bok_open h).1
end

section
mutual
theorem form_mono : ∀ (e : E) (d k : Nat), form e d = true → form e ((d + k : Nat) : Int) = true ∧ many e ((d + k : Nat) : Int) = many e d
  | .mk kd n s kids, d, k, h => by
    have hd : 1 ≤ d := by have := (form_open h).1; omega
    obtain ⟨d, rfl⟩ : ∃ d', d = d' + 1 := ⟨d - 1, by omega⟩
    have e1 : ((d + 1 : Nat) : Int) - 1 = (d : Int) := by omega
    have e2 : ((d + 1 + k : Nat) : Int) - 1 = ((d + k : Nat) : Int) := by omega
    simp only [form, Bool.and_eq_true, decide_eq_true_eq] at h ⊢
    rw [e1] at h
    have := forms_mono kids d k h.2
    rw [e2]
    refine ⟨⟨⟨by omega, h.1.2⟩, this.1⟩, ?_⟩
    simp only [many]
    rw [if_pos (by omega), if_pos (by omega), e1, e2, this.2]
theorem forms_mono : ∀ (l : List E) (d k : Nat), forms l d = true → forms l ((d + k : Nat) : Int) = true ∧ manys l ((d + k : Nat) : Int) = manys l d
  | [], d, k, _ => by simp [forms, manys]
  | e :: r, d, k, h => by
    simp only [forms, Bool.and_eq_true] at h ⊢
    have h1 := form_mono e d k h.1
    have h2 := forms_mono r d k h.2
    simp only [manys]
    exact ⟨⟨h1.1, h2.1⟩, by rw [h1.2, h2.2]⟩
end
def wid (l : List Str) : Nat := (l.map fun s => s.length + 1).sum
theorem wid_nil : wid [] = 0 := rfl
theorem wid_cons (s : Str) (l : List Str) : wid (s :: l) = s.length + 1 + wid l := rfl
theorem wid_app (a b : List Str) : wid (a ++ b) = wid a + wid b := by simp [wid, List.sum_append]
theorem wid_sum (l : List Str) : wid l = (l.map List.length).sum + l.length := by
  induction l with
  | nil => rfl
  | cons s l ih => rw [wid_cons, ih, List.map_cons, List.sum_cons, List.length_cons]; omega
theorem wid_text {l : List Str} (h : l ≠ []) : (tokText l).length + 1 = wid l := by rw [tokText_len l h, wid_sum]
theorem E.ext4 {e : E} {k n : Int} {s : Str} {l : List E} (h1 : e.kind = k) (h2 : e.n = n) (h3 : e.s = s) (h4 : e.kids = l) : e = .mk k n s l := by cases e; simp only [E.kind, E.n, E.s, E.kids] at *; subst h1 h2 h3 h4; rfl
theorem bare_leaf {e : E} (k : e.kind ≠ 4) (hl : e.kids = []) : bare e = e := by
  rw [bare_else k, hl]; simp only [bares]; exact (E.ext4 rfl rfl rfl hl).symm
theorem bare_two {e : E} (k : e.kind = 3) (hl : e.kids.length = 2) : bare e = .mk 3 e.n e.s [bare (e.kids.getD 0 E0), bare (e.kids.getD 1 E0)] := by
  rw [bare_else (by omega), k]; conv => lhs; rw [kids_two hl]
  simp only [bares]
theorem bare_as {e : E} (k : e.kind = 4) (hl : e.kids.length = 1) : bare e = bare (e.kids.getD 0 E0) := bare_four k (by omega)
theorem bare_form : ∀ (d : Nat) (e : E), form e d = true → form (bare e) d = true ∧ many (bare e) d ≤ many e d
  | 0, e, h => by have := (form_open h).1; omega
  | d + 1, e, h => by
    have e1 : ((d + 1 : Nat) : Int) - 1 = (d : Int) := by omega
    obtain ⟨h0, h1 | h1 | h1 | h1⟩ := form_open h
    · rw [bare_leaf (by omega) h1.2.2.2.2]; exact ⟨h, Int.le_refl _⟩
    · rw [bare_leaf (by omega) h1.2.2.2]; exact ⟨h, Int.le_refl _⟩
    · obtain ⟨k, hn, ho, hl, ha, hb⟩ := h1
      rw [e1] at ha hb
      obtain ⟨a1, a2⟩ := bare_form d _ ha
      obtain ⟨b1, b2⟩ := bare_form d _ hb
      rw [bare_two k hl, many_two h0 hl, e1]
      refine ⟨?_, ?_⟩
      · simp only [form, forms, e1, a1, b1, Bool.and_true, Bool.and_eq_true, decide_eq_true_eq]
        exact ⟨h0, by simp [shape, hn, ho]⟩
      · rw [many_two (e := .mk 3 e.n e.s [_, _]) h0 rfl, e1]
        show 1 + many (bare (e.kids.getD 0 E0)) d + many (bare (e.kids.getD 1 E0)) d ≤ _
        omega
    · obtain ⟨k, hn, ho, hl, ha⟩ := h1
      rw [e1] at ha
      obtain ⟨a1, a2⟩ := bare_form d _ ha
      rw [bare_as k hl, many_one h0 hl, e1]
      obtain ⟨m1, m2⟩ := form_mono _ d 1 a1
      exact ⟨m1, by rw [m2]; omega⟩
theorem pe_bare {e : E} (h : eok e = true) : pe (bare e) = true := by
  have h1 := bare_form 5 e (eok_form h)
  have h2 := eok_many h
  simp only [pe, eok, Bool.and_eq_true, decide_eq_true_eq]
  exact ⟨⟨h1.1, Int.le_trans h1.2 h2⟩, pla_bare e (eok_wf h)⟩
theorem wid_mono {e : E} {d : Nat} (h : form e d = true) {a b : Int} (hab : a ≤ b) : wid (wds e a) ≤ wid (wds e b) := by
  obtain ⟨h0, h1 | h1 | h1 | h1⟩ := form_open h
  · rw [wds_num h1.1, wds_num h1.1]; exact Nat.le_refl _
  · rw [wds_name h1.1, wds_name h1.1]; exact Nat.le_refl _
  · rw [wds_two h1.1 h1.2.2.2.1, wds_two h1.1 h1.2.2.2.1]
    split <;> split
    · exact Nat.le_refl _
    · omega
    · simp only [wid_app]; omega
    · exact Nat.le_refl _
  · rw [wds_as h1.1 h1.2.2.2.1, wds_as h1.1 h1.2.2.2.1]; exact Nat.le_refl _
theorem wid_bare : ∀ (d : Nat) (e : E) (must : Int), must ≤ 4 → form e d = true → wid (wds (bare e) must) ≤ wid (wds e must)
  | 0, e, must, _, h => by have := (form_open h).1; omega
  | d + 1, e, must, hm, h => by
    have e1 : ((d + 1 : Nat) : Int) - 1 = (d : Int) := by omega
    obtain ⟨h0, h1 | h1 | h1 | h1⟩ := form_open h
    · rw [bare_leaf (by omega) h1.2.2.2.2]; exact Nat.le_refl _
    · rw [bare_leaf (by omega) h1.2.2.2]; exact Nat.le_refl _
    · obtain ⟨k, hn, ho, hl, ha, hb⟩ := h1
      rw [e1] at ha hb
      have ht := isOp_tight ho
      have A := wid_bare d _ (max 2 (tight e.s)) (by omega) ha
      have B := wid_bare d _ (tight e.s + 1) (by omega) hb
      rw [bare_two k hl, wds_two k hl, wds_two (e := .mk 3 e.n e.s [_, _]) rfl rfl]
      show wid (if tight e.s < must then [[40]] ++ (wds (bare (e.kids.getD 0 E0)) (max 2 (tight e.s)) ++ [e.s] ++ wds (bare (e.kids.getD 1 E0)) (tight e.s + 1)) ++ [[41]] else wds (bare (e.kids.getD 0 E0)) (max 2 (tight e.s)) ++ [e.s] ++ wds (bare (e.kids.getD 1 E0)) (tight e.s + 1)) ≤ _
      split <;> simp only [wid_app] <;> omega
    · obtain ⟨k, hn, ho, hl, ha⟩ := h1
      rw [e1] at ha
      have A := wid_bare d _ 4 (by omega) ha
      have M := wid_mono (bare_form d _ ha).1 hm
      rw [bare_as k hl, wds_as k hl, wid_app]; omega
def offW (w : Str) : Prop := w ≠ wAs ∧ w ≠ [105, 110, 116] ∧ w ≠ [98, 111, 111, 108] ∧ w ≠ wLet ∧ w ≠ wSay ∧ w ≠ wWhen
instance (w : Str) : Decidable (offW w) := by unfold offW; exact inferInstance
theorem wid_bof {s : Sl} (h : sok0 s = true) : wid (bw (bof s)) ≤ wid (sw' s) + 2 := by
  unfold sok0 at h
  by_cases k0 : s.kind = 0
  · simp [bw, sw', bof, k0, wid_nil]
  have hb : ∀ e : E, eok e = true → wid (wds (bare e) 1) ≤ wid (wds e 1) := fun e he => wid_bare 5 e 1 (by decide) (eok_form he)
  by_cases k1 : s.kind = 1
  · simp [k1] at h
    have := hb _ h.1.2
    simp [bw, sw', bof, k1, wid_cons, wEq, wLet, wCol]; omega
  by_cases k2 : s.kind = 2
  · simp [k2] at h
    have := hb _ h.1.2
    simp [bw, sw', bof, k2, wid_cons, wPrint, wSay]; omega
  by_cases k3 : s.kind = 3
  · simp [k3] at h
    have h1 := hb _ h.1.2
    have h2 := hb _ h.2
    simp [bw, sw', bof, k3, wid_cons, wid_app, wPrint, wSay, wIf, wWhen, wCol]; omega
  · simp [k0, k1, k2, k3] at h
theorem bok0_bof {s : Sl} (h : sok0 s = true) : bok0 (bof s) = true := by
  unfold sok0 at h
  by_cases k0 : s.kind = 0
  · simp [k0, none0_iff] at h; simp [bok0, bof, k0, h, none0_E0]
  by_cases k1 : s.kind = 1
  · simp [k1, none0_iff] at h; simp [bok0, bof, k1, h, none0_E0, pe_bare h.1.2]
  by_cases k2 : s.kind = 2
  · simp [k2, none0_iff] at h; simp [bok0, bof, k2, h, none0_E0, pe_bare h.1.2]
  by_cases k3 : s.kind = 3
  · simp [k3] at h; simp [bok0, bof, k3, h, pe_bare h.1.2, pe_bare h.2]
  · simp [k0, k1, k2, k3] at h
theorem sw_ne {s : Sl} (h : s.kind = 1 ∨ s.kind = 2 ∨ s.kind = 3) : sw' s ≠ [] ∧ bw (bof s) ≠ [] := by
  rcases h with k | k | k <;> simp [sw', bw, bof, k]
theorem text_bof {s : Sl} (h : sok0 s = true) : (tokText (bw (bof s))).length ≤ (tokText (sw' s)).length + 2 := by
  have h1 := wid_bof h
  by_cases hk : s.kind = 1 ∨ s.kind = 2 ∨ s.kind = 3
  · obtain ⟨n1, n2⟩ := sw_ne hk
    have t1 := wid_text n1
    have t2 := wid_text n2
    omega
  · have : bw (bof s) = [] := by
      simp only [not_or] at hk
      simp [bw, bof, hk]
    rw [this]; simp [tokText_nil]
theorem sok0_of {s : Sl} (h : sok s = true) : sok0 s = true ∧ (tokText (sw' s)).length ≤ 116 := by
  simpa [sok] using h
theorem bok_bof {s : Sl} (h : sok s = true) : bok (bof s) = true := by
  obtain ⟨h1, h2⟩ := sok0_of h
  have h3 := text_bof h1
  simp only [bok, bok0_bof h1, Bool.true_and, decide_eq_true_eq]; omega
end

section
def shf (k : Int) (l : Wd) : Wd := l.map fun p => if 0 ≤ p.2 then (p.1, p.2 + k) else p
theorem shf_app (k : Int) (a b : Wd) : shf k (a ++ b) = shf k a ++ shf k b := by simp [shf]
theorem shf_len (k : Int) (a : Wd) : (shf k a).length = a.length := by simp [shf]
theorem shf_zero (a : Wd) : shf 0 a = a := by
  unfold shf
  conv => rhs; rw [← List.map_id a]
  congr 1; funext p
  split <;> simp
theorem shf_fst (k : Int) (a : Wd) : (shf k a).map (·.1) = a.map (·.1) := by
  unfold shf; rw [List.map_map]; congr 1; funext p; simp only [Function.comp]; split <;> rfl
mutual
def l8 : E → Int → Int → Wd
  | .mk k n s kids, t, b =>
    if k = 1 then [(Go.Lib.decDigits n.toNat, 0)]
    else if k = 2 then [(s, 0)]
    else if k = 3 then brk (decide (tight s < b)) (shf (if tight s < t then 1 else 0) (l8A kids (max 2 (tight s)) (max 2 (tight s)) ++ (s, wlA kids (max 2 (tight s))) :: shf (wlA kids (max 2 (tight s)) + 1) (l8B kids (tight s + 1))))
    else if k = 4 then l8A kids 4 b
    else []
def l8A : List E → Int → Int → Wd
  | [], _, _ => []
  | e :: _, t, b => l8 e t b
def l8B : List E → Int → Wd
  | [], _ => []
  | _ :: r, t => l8A r t t
def wlA : List E → Int → Int
  | [], _ => 0
  | e :: _, t => (wds e t).length
end
theorem l8_num {e : E} (h : e.kind = 1) (t b : Int) : l8 e t b = [(Go.Lib.decDigits e.n.toNat, 0)] := by
  cases e; simp only [E.kind] at h; subst h; simp [l8, E.n]
theorem l8_name {e : E} (h : e.kind = 2) (t b : Int) : l8 e t b = [(e.s, 0)] := by
  cases e; simp only [E.kind] at h; subst h; simp [l8, E.s]
theorem l8_two {e : E} (h : e.kind = 3) (hl : e.kids.length = 2) (t b : Int) : l8 e t b = brk (decide (tight e.s < b)) (shf (if tight e.s < t then 1 else 0) (l8 (e.kids.getD 0 E0) (max 2 (tight e.s)) (max 2 (tight e.s)) ++ (e.s, ((wds (e.kids.getD 0 E0) (max 2 (tight e.s))).length : Int)) :: shf ((wds (e.kids.getD 0 E0) (max 2 (tight e.s))).length + 1) (l8 (e.kids.getD 1 E0) (tight e.s + 1) (tight e.s + 1)))) := by
  cases e with
  | mk k n s kids =>
    simp only [E.kind] at h; subst h
    simp only [E.kids] at hl
    match kids, hl with
    | [x, y], _ => simp [l8, l8A, l8B, wlA, E.s, E.kids]; rfl
theorem l8_as {e : E} (h : e.kind = 4) (hl : e.kids.length = 1) (t b : Int) : l8 e t b = l8 (e.kids.getD 0 E0) 4 b := by
  cases e with
  | mk k n s kids =>
    simp only [E.kind] at h; subst h
    simp only [E.kids] at hl
    match kids, hl with
    | [a], _ => simp [l8, l8A, E.kids]
def Trc (L : Wd) : Wd → Wd → Prop
  | [], [] => True
  | w :: B, c :: C => c.1 = w.1 ∧ ((w.2 = -1 ∧ c.2 = -1) ∨ (0 ≤ w.2 ∧ 0 ≤ c.2 ∧ L[c.2.toNat]? = some w)) ∧ Trc L B C
  | _, _ => False
theorem Trc.app {L : Wd} : ∀ {B C B' C' : Wd}, Trc L B C → Trc L B' C' → Trc L (B ++ B') (C ++ C')
  | [], [], _, _, _, h => h
  | [], _ :: _, _, _, h, _ => by simp [Trc] at h
  | _ :: _, [], _, _, h, _ => by simp [Trc] at h
  | w :: B, c :: C, B', C', h, k => by
    simp only [Trc] at h
    simp only [List.cons_append, Trc]
    exact ⟨h.1, h.2.1, h.2.2.app k⟩
theorem Trc.shf {L P : Wd} : ∀ {B C : Wd}, Trc L B C → Trc (P ++ L) B (Go.Proofs.YteihfmnmpdbkiaaGreatDoor.shf P.length C)
  | [], [], _ => by simp [Go.Proofs.YteihfmnmpdbkiaaGreatDoor.shf, Trc]
  | [], _ :: _, h => by simp [Trc] at h
  | _ :: _, [], h => by simp [Trc] at h
  | w :: B, c :: C, h => by
    simp only [Trc] at h
    have ih := h.2.2.shf (P := P)
    simp only [Go.Proofs.YteihfmnmpdbkiaaGreatDoor.shf, List.map_cons, Trc] at ih ⊢
    rcases h.2.1 with ⟨h1, h2⟩ | ⟨h1, h2, h3⟩
    · rw [if_neg (by omega)]; exact ⟨h.1, .inl ⟨h1, h2⟩, ih⟩
    · rw [if_pos h2]
      refine ⟨h.1, .inr ⟨h1, by dsimp only; omega, ?_⟩, ih⟩
      dsimp only
      rw [show (c.2 + (P.length : Int)).toNat = P.length + c.2.toNat by omega, List.getElem?_append_right (by omega), Nat.add_sub_cancel_left]
      exact h3
theorem Trc.right {L Q : Wd} : ∀ {B C : Wd}, Trc L B C → Trc (L ++ Q) B C
  | [], [], _ => by simp [Trc]
  | [], _ :: _, h => by simp [Trc] at h
  | _ :: _, [], h => by simp [Trc] at h
  | w :: B, c :: C, h => by
    simp only [Trc] at h ⊢
    refine ⟨h.1, ?_, h.2.2.right⟩
    rcases h.2.1 with h1 | ⟨h1, h2, h3⟩
    · exact .inl h1
    · exact .inr ⟨h1, h2, by rw [List.getElem?_append_left (List.getElem?_eq_some_iff.1 h3).1]; exact h3⟩
theorem Trc.brk {L B C : Wd} (b : Bool) (h : Trc L B C) : Trc L (Go.Proofs.YteihfmnmpdbkiaaGreatDoor.brk b B) (Go.Proofs.YteihfmnmpdbkiaaGreatDoor.brk b C) := by
  cases b with
  | false => exact h
  | true =>
    simp only [Go.Proofs.YteihfmnmpdbkiaaGreatDoor.brk, if_true, Trc]
    refine ⟨trivial, .inl ⟨trivial, trivial⟩, h.app ?_⟩
    simp [Trc]
theorem cnt_leaf {e : E} (h : e.kind = 1 ∨ e.kind = 2) (hl : e.kids = []) : cnt e = 1 := by
  cases e; simp only [E.kind, E.kids] at h hl; subst hl; rcases h with h | h <;> subst h <;> simp [cnt, cnts]
theorem cnt_bare : ∀ (d : Nat) (e : E), form e d = true → cnt (bare e) = cnt e
  | 0, e, h => by have := (form_open h).1; omega
  | d + 1, e, h => by
    have e1 : ((d + 1 : Nat) : Int) - 1 = (d : Int) := by omega
    obtain ⟨h0, h1 | h1 | h1 | h1⟩ := form_open h
    · rw [bare_leaf (by omega) h1.2.2.2.2]
    · rw [bare_leaf (by omega) h1.2.2.2]
    · obtain ⟨k, hn, ho, hl, ha, hb⟩ := h1
      rw [e1] at ha hb
      rw [bare_two k hl, cnt_two (e := .mk 3 e.n e.s [_, _]) rfl rfl, cnt_two k hl]
      show 1 + cnt (bare (e.kids.getD 0 E0)) + cnt (bare (e.kids.getD 1 E0)) = _
      rw [cnt_bare d _ ha, cnt_bare d _ hb]
    · obtain ⟨k, hn, ho, hl, ha⟩ := h1
      rw [e1] at ha
      rw [bare_as k hl, cnt_as k hl, cnt_bare d _ ha]
theorem src_num {e : E} (h : e.kind = 1) (must nx : Int) : src e must nx = [(Go.Lib.decDigits e.n.toNat, nx)] := by
  cases e; simp only [E.kind] at h; subst h; simp [src, E.n]
theorem src_name {e : E} (h : e.kind = 2) (must nx : Int) : src e must nx = [(e.s, nx)] := by
  cases e; simp only [E.kind] at h; subst h; simp [src, E.s]
theorem srcLen (e : E) (must nx : Int) : (src e must nx).length = (wds e must).length := by
  rw [← src_wds e must nx, List.length_map]
theorem trc_src : ∀ (d : Nat) (e : E) (t b nx : Int), form e d = true → t ≤ 4 → b ≤ 4 → 0 ≤ nx → Trc (src e t nx) (src (bare e) b nx) (l8 e t b)
  | 0, e, t, b, nx, h, _, _, _ => by have := (form_open h).1; omega
  | d + 1, e, t, b, nx, h, ht, hb4, hn0 => by
    have e1 : ((d + 1 : Nat) : Int) - 1 = (d : Int) := by omega
    obtain ⟨h0, h1 | h1 | h1 | h1⟩ := form_open h
    · rw [bare_leaf (by omega) h1.2.2.2.2, src_num h1.1, src_num h1.1, l8_num h1.1]
      simp [Trc, hn0]
    · rw [bare_leaf (by omega) h1.2.2.2, src_name h1.1, src_name h1.1, l8_name h1.1]
      simp [Trc, hn0]
    · obtain ⟨k, hn, ho, hl, ha, hb⟩ := h1
      rw [e1] at ha hb
      have htt := isOp_tight ho
      have A := trc_src d _ (max 2 (tight e.s)) (max 2 (tight e.s)) (nx + 1) ha (by omega) (by omega) (by omega)
      have hc := wds_le d _ 0 ha
      have B := trc_src d _ (tight e.s + 1) (tight e.s + 1) (nx + 1 + cnt (e.kids.getD 0 E0)) hb (by omega) (by omega) (by omega)
      rw [bare_two k hl, src_two k hl, src_two (e := .mk 3 e.n e.s [_, _]) rfl rfl, l8_two k hl]
      refine Trc.brk _ ?_
      show Trc _ (src (bare (e.kids.getD 0 E0)) (max 2 (tight e.s)) (nx + 1) ++ (e.s, nx) :: src (bare (e.kids.getD 1 E0)) (tight e.s + 1) (nx + 1 + cnt (bare (e.kids.getD 0 E0)))) _
      rw [cnt_bare d _ ha]
      have core : Trc (src (e.kids.getD 0 E0) (max 2 (tight e.s)) (nx + 1) ++ (e.s, nx) :: src (e.kids.getD 1 E0) (tight e.s + 1) (nx + 1 + cnt (e.kids.getD 0 E0)))
          (src (bare (e.kids.getD 0 E0)) (max 2 (tight e.s)) (nx + 1) ++ (e.s, nx) :: src (bare (e.kids.getD 1 E0)) (tight e.s + 1) (nx + 1 + cnt (e.kids.getD 0 E0)))
          (l8 (e.kids.getD 0 E0) (max 2 (tight e.s)) (max 2 (tight e.s)) ++ (e.s, ((wds (e.kids.getD 0 E0) (max 2 (tight e.s))).length : Int)) :: shf ((wds (e.kids.getD 0 E0) (max 2 (tight e.s))).length + 1) (l8 (e.kids.getD 1 E0) (tight e.s + 1) (tight e.s + 1))) := by
        refine A.right.app ?_
        have B2 := B.shf (P := src (e.kids.getD 0 E0) (max 2 (tight e.s)) (nx + 1) ++ [(e.s, nx)])
        rw [List.length_append, srcLen, List.length_singleton, List.append_assoc, List.singleton_append] at B2
        simp only [Trc]
        refine ⟨trivial, .inr ⟨hn0, by omega, ?_⟩, by simpa using B2⟩
        rw [Int.toNat_natCast, ← srcLen _ _ (nx + 1), List.getElem?_append_right (Nat.le_refl _), Nat.sub_self]; rfl
      cases hlt : decide (tight e.s < t) with
      | false =>
        simp only [decide_eq_false_iff_not] at hlt
        rw [if_neg hlt, shf_zero]; exact core
      | true =>
        simp only [decide_eq_true_eq] at hlt
        rw [if_pos hlt]
        have := (core.shf (P := [([40], -1)])).right (Q := [([41], -1)])
        simpa [brk] using this
    · obtain ⟨k, hn, ho, hl, ha⟩ := h1
      rw [e1] at ha
      rw [bare_as k hl, src_as k hl, l8_as k hl]
      exact (trc_src d _ 4 b nx ha (by omega) hb4 hn0).right
theorem Trc.fst {L : Wd} : ∀ {B C : Wd}, Trc L B C → C.map (·.1) = B.map (·.1)
  | [], [], _ => rfl
  | [], _ :: _, h => by simp [Trc] at h
  | _ :: _, [], h => by simp [Trc] at h
  | w :: B, c :: C, h => by
    simp only [Trc] at h
    simp only [List.map_cons, h.1, h.2.2.fst]
def ids (l : Wd) : List Int := (l.map (·.2)).filter fun k => decide (0 ≤ k)
theorem ids_app (a b : Wd) : ids (a ++ b) = ids a ++ ids b := by simp [ids]
theorem ids_cons (p : Str × Int) (b : Wd) : ids (p :: b) = if 0 ≤ p.2 then p.2 :: ids b else ids b := by
  simp only [ids, List.map_cons, List.filter_cons, decide_eq_true_eq]
theorem ids_nil : ids [] = [] := rfl
theorem ids_brk (b : Bool) (l : Wd) : ids (brk b l) = ids l := by
  cases b <;> simp [brk, ids_app, ids_cons, ids_nil]
theorem ids_src : ∀ (d : Nat) (e : E) (must nx : Int), form e d = true → 0 ≤ nx → (ids (src e must nx)).Nodup ∧ ∀ i ∈ ids (src e must nx), nx ≤ i ∧ i < nx + cnt e
  | 0, e, must, nx, h, _ => by have := (form_open h).1; omega
  | d + 1, e, must, nx, h, hn0 => by
    have e1 : ((d + 1 : Nat) : Int) - 1 = (d : Int) := by omega
    obtain ⟨h0, h1 | h1 | h1 | h1⟩ := form_open h
    · rw [src_num h1.1, cnt_leaf (.inl h1.1) h1.2.2.2.2]; simp [ids, hn0]; omega
    · rw [src_name h1.1, cnt_leaf (.inr h1.1) h1.2.2.2]; simp [ids, hn0]; omega
    · obtain ⟨k, hn, ho, hl, ha, hb⟩ := h1
      rw [e1] at ha hb
      have hc := wds_le d _ 0 ha
      have hc2 := wds_le d _ 0 hb
      obtain ⟨a1, a2⟩ := ids_src d _ (max 2 (tight e.s)) (nx + 1) ha (by omega)
      obtain ⟨b1, b2⟩ := ids_src d _ (tight e.s + 1) (nx + 1 + cnt (e.kids.getD 0 E0)) hb (by omega)
      rw [src_two k hl, ids_brk, ids_app, ids_cons, if_pos hn0, cnt_two k hl]
      refine ⟨?_, fun i hi => ?_⟩
      · rw [List.nodup_append]
        refine ⟨a1, List.nodup_cons.2 ⟨fun hm => by have := b2 _ hm; omega, b1⟩, fun x hx y hy => ?_⟩
        have q1 := a2 x hx
        rcases List.mem_cons.1 hy with rfl | hy
        · omega
        · have q2 := b2 y hy; omega
      · rcases List.mem_append.1 hi with hi | hi
        · have := a2 i hi; omega
        · rcases List.mem_cons.1 hi with rfl | hi
          · omega
          · have := b2 i hi; omega
    · obtain ⟨k, hn, ho, hl, ha⟩ := h1
      rw [e1] at ha
      rw [src_as k hl, ids_app, cnt_as k hl]
      have := ids_src d _ 4 nx ha hn0
      have e2 : ids [([97, 115], -1), (e.s, -1)] = [] := by simp [ids]
      rw [e2, List.append_nil]; exact this
def colOf : Int → Wd → Int → Int
  | _, [], _ => -1
  | c, w :: r, i => if w.2 = i then c else colOf (c + w.1.length + 1) r i
def widW (l : Wd) : Int := (wid (l.map (·.1)) : Int)
theorem widW_cons (w : Str × Int) (l : Wd) : widW (w :: l) = w.1.length + 1 + widW l := by simp [widW, wid_cons]
theorem widW_app (a b : Wd) : widW (a ++ b) = widW a + widW b := by simp [widW, wid_app]
theorem widW_nil : widW [] = 0 := rfl
theorem widW_pos (l : Wd) : 0 ≤ widW l := by unfold widW; omega
theorem colOf_app (i : Int) : ∀ (a b : Wd) (c : Int), colOf c (a ++ b) i = if i ∈ a.map (·.2) then colOf c a i else colOf (c + widW a) b i
  | [], b, c => by simp [widW_nil]
  | w :: a, b, c => by
    have ih := colOf_app i a b (c + w.1.length + 1)
    simp only [List.cons_append, colOf, List.map_cons, List.mem_cons]
    by_cases h : w.2 = i
    · simp [h]
    · have h' : ¬ i = w.2 := fun e => h e.symm
      simp only [h, if_false, h', false_or, ih, widW_cons]
      split
      · rfl
      · congr 1; omega
theorem colOf_le (i : Int) : ∀ (a : Wd) (c : Int), i ∈ a.map (·.2) → c ≤ colOf c a i ∧ colOf c a i < c + widW a
  | [], c, h => by simp at h
  | w :: a, c, h => by
    have hp := widW_pos a
    simp only [colOf, widW_cons]
    by_cases e : w.2 = i
    · rw [if_pos e]; omega
    · rw [if_neg e]
      simp only [List.map_cons, List.mem_cons] at h
      have := colOf_le i a (c + w.1.length + 1) (h.resolve_left fun q => e q.symm)
      omega
theorem colOf_add (i : Int) (d : Int) : ∀ (a : Wd) (c : Int), i ∈ a.map (·.2) → colOf (c + d) a i = colOf c a i + d
  | [], c, h => by simp at h
  | w :: a, c, h => by
    simp only [colOf]
    by_cases e : w.2 = i
    · rw [if_pos e, if_pos e]
    · rw [if_neg e, if_neg e]
      simp only [List.map_cons, List.mem_cons] at h
      have := colOf_add i d a (c + w.1.length + 1) (h.resolve_left fun q => e q.symm)
      rw [← this]; congr 1; omega
theorem mem_ids {l : Wd} {i : Int} : i ∈ ids l ↔ i ∈ l.map (·.2) ∧ 0 ≤ i := by simp [ids]
theorem colOf_at : ∀ {l : Wd} {j : Nat} {w : Str × Int} (c : Int), (ids l).Nodup → l[j]? = some w → 0 ≤ w.2 → (colsOf c (l.map (·.1)))[j]? = some (colOf c l w.2)
  | [], j, w, c, _, h, _ => by simp at h
  | v :: l, 0, w, c, _, h, _ => by
    simp only [List.getElem?_cons_zero, Option.some.injEq] at h; subst h
    simp [colsOf, colOf]
  | v :: l, j + 1, w, c, hn, h, h0 => by
    simp only [List.getElem?_cons_succ] at h
    have hm : w.2 ∈ ids l := mem_ids.2 ⟨List.mem_map.2 ⟨w, List.mem_of_getElem? h, rfl⟩, h0⟩
    rw [ids_cons] at hn
    have hne : v.2 ≠ w.2 := fun e => by
      rw [if_pos (by omega)] at hn
      exact (List.nodup_cons.1 hn).1 (by rw [e]; exact hm)
    have hn' : (ids l).Nodup := by
      split at hn
      · exact (List.nodup_cons.1 hn).2
      · exact hn
    simp only [List.map_cons, colsOf, List.getElem?_cons_succ, colOf, if_neg hne]
    exact colOf_at _ hn' h h0
theorem mget_mput : ∀ (M : List (Int × Int)) (k v i : Int), mget (mput M k v) i = if i = k then some v else mget M i
  | [], k, v, i => by simp [mput, mget]
  | (a, b) :: M, k, v, i => by
    have ih := mget_mput M k v i
    simp only [mput]
    by_cases h : k = a
    · subst h
      simp only [if_true, mget]
      split <;> rfl
    · rw [if_neg h]
      simp only [mget, ih]
      by_cases e : i = a
      · rw [if_pos e, if_neg (fun q => h (q.symm.trans e)), if_pos e]
      · rw [if_neg e, if_neg e]
def mapK (l : Wd) (k : Nat) : List (Int × Int) := (((l.map (·.2)).zip (colsOf 0 (l.map (·.1)))).take k).foldl (fun M p => mput M p.1 p.2) []
theorem colsOf_len : ∀ (c : Int) (l : List Str), (colsOf c l).length = l.length
  | _, [] => rfl
  | c, w :: r => by simp only [colsOf, List.length_cons, colsOf_len]
theorem mapK_zero (l : Wd) : mapK l 0 = [] := rfl
theorem mapK_succ {l : Wd} {k : Nat} (h : k < l.length) : mapK l (k + 1) = mput (mapK l k) (l.getD k ([], 0)).2 ((colsOf 0 (l.map (·.1))).getD k 0) := by
  have h2 : k < ((l.map (·.2)).zip (colsOf 0 (l.map (·.1)))).length := by rw [List.length_zip, List.length_map, colsOf_len, List.length_map]; omega
  have h3 : k < (colsOf 0 (l.map (·.1))).length := by rw [colsOf_len, List.length_map]; exact h
  unfold mapK
  rw [List.take_add_one, List.getElem?_eq_getElem h2, List.foldl_append]
  simp [List.getD_eq_getElem?_getD, List.getElem?_eq_getElem h, List.getElem?_eq_getElem h3]
theorem mget_fold (i v : Int) : ∀ (Z M : List (Int × Int)), (∀ c, (i, c) ∈ Z → c = v) → ((i, v) ∈ Z ∨ mget M i = some v) → mget (Z.foldl (fun M p => mput M p.1 p.2) M) i = some v
  | [], M, _, h => by simpa using h
  | (a, b) :: Z, M, hu, h => by
    refine mget_fold i v Z _ (fun c hc => hu c (List.mem_cons_of_mem _ hc)) ?_
    rw [mget_mput]
    by_cases e : i = a
    · subst e
      have := hu b List.mem_cons_self
      subst this
      right; simp
    · rw [if_neg e]
      rcases h with h | h
      · rcases List.mem_cons.1 h with h | h
        · simp only [Prod.mk.injEq] at h; exact absurd h.1 e
        · exact .inl h
      · exact .inr h
theorem mapK_get {l : Wd} (hn : (ids l).Nodup) {i : Int} (hi : i ∈ ids l) : mget (mapK l l.length) i = some (colOf 0 l i) := by
  obtain ⟨hm, h0⟩ := mem_ids.1 hi
  obtain ⟨w, hw, hwi⟩ := List.mem_map.1 hm
  have hz : ∀ c, (i, c) ∈ (l.map (·.2)).zip (colsOf 0 (l.map (·.1))) → c = colOf 0 l i := fun c hc => by
    obtain ⟨j, hj⟩ := List.mem_iff_getElem?.1 hc
    rw [List.getElem?_zip_eq_some] at hj
    obtain ⟨j1, j2⟩ := hj
    rw [List.getElem?_map] at j1
    obtain ⟨u, u1, u2⟩ := Option.map_eq_some_iff.1 j1
    have := colOf_at 0 hn u1 (by rw [u2]; exact h0)
    rw [j2, u2] at this
    exact Option.some.inj this
  unfold mapK
  rw [List.take_of_length_le (by rw [List.length_zip, List.length_map]; omega)]
  refine mget_fold i _ _ _ hz (.inl ?_)
  obtain ⟨j, hj⟩ := List.mem_iff_getElem?.1 hw
  have := colOf_at 0 hn hj (by rw [hwi]; exact h0)
  rw [hwi] at this
  refine List.mem_iff_getElem?.2 ⟨j, ?_⟩
  rw [List.getElem?_zip_eq_some]
  exact ⟨by rw [List.getElem?_map, hj]; simp [hwi], this⟩
theorem colsOf_at : ∀ (l : List Str) (c : Int) {k : Nat}, k < l.length → (colsOf c l).getD k 0 = c + wid (l.take k)
  | [], c, k, h => by simp at h
  | w :: r, c, 0, _ => by simp [colsOf, wid_nil]
  | w :: r, c, k + 1, h => by
    have := colsOf_at r (c + w.length + 1) (k := k) (by simpa using h)
    simp only [colsOf, List.getD_cons_succ, List.take_succ_cons, wid_cons, this]
    omega
theorem wid_take {l : List Str} {k : Nat} (h : k < l.length) : wid (l.take (k + 1)) = wid (l.take k) + ((l.getD k []).length + 1) := by
  rw [List.take_add_one, List.getElem?_eq_getElem h, wid_app, List.getD_eq_getElem?_getD, List.getElem?_eq_getElem h]; rfl
theorem wid_sub (l : List Str) (k : Nat) : wid (l.take k) ≤ wid l := by
  conv => rhs; rw [← List.take_append_drop k l]
  rw [wid_app]; omega
theorem Trc.lt {L : Wd} : ∀ {B C : Wd}, Trc L B C → ∀ p ∈ C, -1 ≤ p.2 ∧ p.2 < (L.length : Int)
  | [], [], _ => by simp
  | [], _ :: _, h => by simp [Trc] at h
  | _ :: _, [], h => by simp [Trc] at h
  | w :: B, c :: C, h => by
    simp only [Trc] at h
    intro p hp
    rcases List.mem_cons.1 hp with rfl | hp
    · rcases h.2.1 with ⟨_, h2⟩ | ⟨_, h2, h3⟩
      · omega
      · have := (List.getElem?_eq_some_iff.1 h3).1; omega
    · exact h.2.2.lt p hp
theorem Trc.len {L : Wd} {B C : Wd} (h : Trc L B C) : C.length = B.length := by
  have := congrArg List.length h.fst; simpa using this
theorem form_many (d : Nat) (e : E) (h : form e d = true) (hm : many e d ≤ 1000) (m : Int) : (wds e m).length ≤ 3000 := by
  have := wds_le d e m h; omega
theorem l8_le {d : Nat} {e : E} {t b : Int} (h : form e d = true) (hm : many e d ≤ 1000) (ht : t ≤ 4) (hb : b ≤ 4) : (l8 e t b).length ≤ 3000 ∧ ∀ p ∈ l8 e t b, -1 ≤ p.2 ∧ p.2 ≤ 3000 := by
  have T := trc_src d e t b 0 h ht hb (by decide)
  have h1 := bare_form d e h
  have q1 := form_many d e h hm t
  have q2 := form_many d (bare e) h1.1 (by omega) b
  refine ⟨by rw [T.len, srcLen]; exact q2, fun p hp => ?_⟩
  have := T.lt p hp
  rw [srcLen] at this
  omega
def l8c (e : E) : Wd :=
  if e.kind = 1 then [(Go.Lib.decDigits e.n.toNat, 0)]
  else if e.kind = 2 then [(e.s, 0)]
  else l8 (e.kids.getD 0 E0) (max 2 (tight e.s)) (max 2 (tight e.s)) ++ (e.s, ((wds (e.kids.getD 0 E0) (max 2 (tight e.s))).length : Int)) :: shf ((wds (e.kids.getD 0 E0) (max 2 (tight e.s))).length + 1) (l8 (e.kids.getD 1 E0) (tight e.s + 1) (tight e.s + 1))
theorem l8_core {e : E} (hk : e.kind = 1 ∨ e.kind = 2 ∨ e.kind = 3 ∧ e.kids.length = 2) (t b : Int) : l8 e t b = brk (decide (e.kind = 3 ∧ tight e.s < b)) (shf (if e.kind = 3 ∧ tight e.s < t then 1 else 0) (l8c e)) := by
  rcases hk with hk | hk | ⟨hk, hl⟩
  · rw [l8_num hk]; simp [l8c, hk, shf_zero, brk]
  · rw [l8_name hk]; simp [l8c, hk, shf_zero, brk]
  · rw [l8_two hk hl]; simp [l8c, hk]
def l8L (s : Sl) : Wd :=
  if s.kind = 1 then (s.name, 1) :: (wEq, 4) :: shf 5 (l8 s.expr 1 1)
  else if s.kind = 2 then (wPrint, 0) :: shf 1 (l8 s.expr 1 1)
  else if s.kind = 3 then ((wIf, 0) :: shf 1 (l8 s.expr 1 1) ++ [(wCol, -1), (wPrint, ((wds s.expr 1).length : Int) + 1)]) ++ shf ((wds s.expr 1).length + 2) (l8 s.thn 1 1)
  else []
def fromS (s : Sl) : List Int := (l8L s).map fun c => if c.2 < 0 then -1 else (colsOf 0 (sw' s)).getD c.2.toNat 0
end
end Go.Proofs.YteihfmnmpdbkiaaGreatDoor
