/- Parts of the proof, one after another: Plain laws of whence each word came: in order; the same word; one for one. Conditions: none. -/
import Derived.Test.YthljacdbmhonfaaGreatDoorKo
set_option linter.unusedVariables false
set_option linter.unusedSimpArgs false
section
namespace Go.Proofs.YthljacdbmhonfaaGreatDoor
set_option maxRecDepth 100000

/-- places in order, between lo and hi -/
structure Inc (lo hi : Int) (C : Wd) : Prop where
  pw : C.Pairwise fun a b => 0 ≤ a.2 → 0 ≤ b.2 → a.2 < b.2
  bd : ∀ p ∈ C, 0 ≤ p.2 → lo ≤ p.2 ∧ p.2 < hi
theorem Inc.nil (lo hi : Int) : Inc lo hi [] := ⟨List.Pairwise.nil, fun p hp => by cases hp⟩
theorem Inc.mono {lo hi lo' hi' : Int} {C : Wd} (h : Inc lo hi C) (h1 : lo' ≤ lo) (h2 : hi ≤ hi') : Inc lo' hi' C := ⟨h.pw, fun p hp h0 => by have := h.bd p hp h0; omega⟩
theorem Inc.app {lo m hi : Int} {A B : Wd} (h : Inc lo m A) (k : Inc m hi B) (h1 : lo ≤ m) (h2 : m ≤ hi) : Inc lo hi (A ++ B) := by
  refine ⟨List.pairwise_append.2 ⟨h.pw, k.pw, fun a ha b hb h0 h3 => ?_⟩, fun p hp h0 => ?_⟩
  · have := h.bd a ha h0; have := k.bd b hb h3; omega
  · rcases List.mem_append.1 hp with hp | hp
    · have := h.bd p hp h0; omega
    · have := k.bd p hp h0; omega
theorem Inc.one (s : Str) (n : Int) : Inc n (n + 1) [(s, n)] := ⟨List.pairwise_singleton _ _, fun p hp _ => by simp at hp; subst hp; dsimp only; omega⟩
theorem Inc.none (s : Str) (lo hi : Int) : Inc lo hi [(s, -1)] := ⟨List.pairwise_singleton _ _, fun p hp h => by simp at hp; subst hp; dsimp only at h; omega⟩
theorem Inc.shf {lo hi : Int} {C : Wd} (k : Int) (hk : 0 ≤ k) (h : Inc lo hi C) : Inc (lo + k) (hi + k) (Go.Proofs.YthljacdbmhonfaaGreatDoor.shf k C) := by
  have key : ∀ p : Str × Int, 0 ≤ (if 0 ≤ p.2 then (p.1, p.2 + k) else p).2 → 0 ≤ p.2 ∧ (if 0 ≤ p.2 then (p.1, p.2 + k) else p).2 = p.2 + k := fun p hp => by
    split at hp
    · rename_i h0; rw [if_pos h0]; exact ⟨h0, rfl⟩
    · rename_i h0; exact absurd hp h0
  refine ⟨?_, fun p hp h0 => ?_⟩
  · unfold Go.Proofs.YthljacdbmhonfaaGreatDoor.shf
    rw [List.pairwise_map]
    refine h.pw.imp fun {a b} hab h1 h2 => ?_
    obtain ⟨a0, a1⟩ := key a h1
    obtain ⟨b0, b1⟩ := key b h2
    rw [a1, b1]
    have := hab a0 b0; omega
  · obtain ⟨q, hq, rfl⟩ := List.mem_map.1 hp
    obtain ⟨a0, a1⟩ := key q h0
    rw [a1]
    have := h.bd q hq a0; omega
theorem Inc.brk {lo hi : Int} {C : Wd} (b : Bool) (hl : lo ≤ hi) (h : Inc lo hi C) : Inc lo hi (Go.Proofs.YthljacdbmhonfaaGreatDoor.brk b C) := by
  cases b with
  | false => exact h
  | true =>
    have := ((Inc.none [40] lo lo).app h (Int.le_refl _) hl).app (Inc.none [41] hi hi) hl (Int.le_refl _)
    simpa [Go.Proofs.YthljacdbmhonfaaGreatDoor.brk] using this
theorem inc_l8 : ∀ (d : Nat) (e : E) (t b : Int), form e d = true → t ≤ 4 → b ≤ 4 → Inc 0 (wds e t).length (l8 e t b)
  | 0, e, t, b, h, _, _ => by have := (form_open h).1; omega
  | d + 1, e, t, b, h, ht, hb4 => by
    have e1 : ((d + 1 : Nat) : Int) - 1 = (d : Int) := by omega
    obtain ⟨h0, h1 | h1 | h1 | h1⟩ := form_open h
    · rw [l8_num h1.1, wds_num h1.1]; exact Inc.one _ 0
    · rw [l8_name h1.1, wds_name h1.1]; exact Inc.one _ 0
    · obtain ⟨k, hn, ho, hl, ha, hb⟩ := h1
      rw [e1] at ha hb
      have htt := isOp_tight ho
      have A := inc_l8 d _ (max 2 (tight e.s)) (max 2 (tight e.s)) ha (by omega) (by omega)
      have B := inc_l8 d _ (tight e.s + 1) (tight e.s + 1) hb (by omega) (by omega)
      have B2 := B.shf ((wds (e.kids.getD 0 E0) (max 2 (tight e.s))).length + 1) (by omega)
      have M := (Inc.one e.s ((wds (e.kids.getD 0 E0) (max 2 (tight e.s))).length : Int)).app (B2.mono (lo' := (wds (e.kids.getD 0 E0) (max 2 (tight e.s))).length + 1) (by omega) (Int.le_refl _)) (by omega) (by omega)
      have X := A.app M (by omega) (by omega)
      have Y := X.shf (if tight e.s < t then 1 else 0) (by split <;> decide)
      rw [l8_two k hl, wds_two k hl]
      refine Inc.brk _ (by omega) (Y.mono (by split <;> decide) ?_)
      split <;> simp only [List.length_append, List.length_cons, List.length_nil] <;> omega
    · obtain ⟨k, hn, ho, hl, ha⟩ := h1
      rw [e1] at ha
      rw [l8_as k hl, wds_as k hl]
      exact (inc_l8 d _ 4 b ha (by omega) hb4).mono (Int.le_refl _) (by simp only [List.length_append]; omega)
theorem inc_line {s : Sl} (h : sok0 s = true) : Inc 0 (sw' s).length (l8L s) := by
  obtain ⟨h0, h1, h2⟩ := sok0_open h
  have I : ∀ e : E, eok e = true → Inc 0 (wds e 1).length (l8 e 1 1) := fun e he => inc_l8 5 e 1 1 (eok_form he) (by decide) (by decide)
  unfold l8L sw'
  rcases h0 with k | k | k | k
  · simp only [k, show ¬ (0 : Int) = 1 by omega, show ¬ (0 : Int) = 2 by omega, show ¬ (0 : Int) = 3 by omega, if_false]; exact Inc.nil _ _
  · have q := (I _ (h1 (.inl k))).shf 5 (by decide)
    simp only [k, if_true]
    have := ((Inc.one s.name 1).app ((Inc.one wEq 4).mono (lo' := 2) (by omega) (Int.le_refl _)) (by decide) (by decide)).app (q.mono (by omega) (Int.le_refl _)) (by decide) (by omega)
    exact (by simpa using this : Inc 1 _ _).mono (by decide) (by simp only [List.length_cons]; omega)
  · have q := (I _ (h1 (.inr (.inl k)))).shf 1 (by decide)
    simp only [k, if_true, show ¬ (2 : Int) = 1 by omega, if_false]
    have := (Inc.one wPrint 0).app (q.mono (by omega) (Int.le_refl _)) (by decide) (by omega)
    exact (by simpa using this : Inc 0 _ _).mono (by decide) (by simp only [List.length_cons]; omega)
  · have q := (I _ (h1 (.inr (.inr k)))).shf 1 (by decide)
    have q2 := (I _ (h2 k)).shf ((wds s.expr 1).length + 2) (by omega)
    simp only [k, if_true, show ¬ (3 : Int) = 1 by omega, show ¬ (3 : Int) = 2 by omega, if_false]
    have a := (Inc.one wIf 0).app (q.mono (lo' := 0 + 1) (by omega) (Int.le_refl _)) (by decide) (by omega)
    have c := (Inc.none wCol ((wds s.expr 1).length + 1) ((wds s.expr 1).length + 1)).app (Inc.one wPrint ((wds s.expr 1).length + 1 : Int)) (by omega) (by omega)
    have := (a.app (c.mono (by omega) (Int.le_refl _)) (by omega) (by omega)).app (q2.mono (by omega) (Int.le_refl _)) (by omega) (by omega)
    exact (by simpa using this : Inc 0 _ _).mono (by decide) (by simp only [List.length_cons, List.length_append]; omega)
theorem cols_lt {l : List Str} {i j : Nat} (h : i < j) (hj : j < l.length) : (colsOf 0 l).getD i 0 < (colsOf 0 l).getD j 0 := by
  rw [colsOf_at l 0 (show i < l.length by omega), colsOf_at l 0 hj]
  have h1 := wid_take (show i < l.length by omega)
  have h2 : wid (l.take (i + 1)) ≤ wid (l.take j) := by
    have := wid_sub (l.take j) (i + 1)
    rw [List.take_take, Nat.min_eq_left (by omega)] at this; exact this
  omega
theorem tkOf_len : ∀ (c : Int) (l : List Str), (tkOf c l).length = l.length
  | _, [] => rfl
  | c, w :: r => by simp only [tkOf, List.length_cons, tkOf_len]
theorem tkOf_get : ∀ (l : List Str) (c : Int) {k : Nat}, k < l.length → (tkOf c l).getD k ⟨0, [], 0⟩ = ⟨tkKind (l.getD k []), l.getD k [], (colsOf c l).getD k 0⟩
  | [], c, k, h => by simp at h
  | w :: r, c, 0, _ => by simp [tkOf, colsOf]
  | w :: r, c, k + 1, h => by
    simp only [tkOf, colsOf, List.getD_cons_succ]
    exact tkOf_get r _ (by simpa using h)
/-- one word, and whence it came -/
theorem from_at {s : Sl} (h : sok0 s = true) {k : Nat} (hk : k < (bw (bof s)).length) :
    ((fromI s).getD k 0 = -1 ∧ ((bw (bof s)).getD k [] = [40] ∨ (bw (bof s)).getD k [] = [41] ∨ (bw (bof s)).getD k [] = wCol)) ∨
    ∃ j, j < (sw' s).length ∧ (l8L s).getD k ([], 0) = ((bw (bof s)).getD k [], (j : Int)) ∧ (fromI s).getD k 0 = (colsOf 0 (sw' s)).getD j 0 ∧
      ((sw' s).getD j [] = (bw (bof s)).getD k [] ∨ ((sw' s).getD j [] = wSay ∧ (bw (bof s)).getD k [] = wPrint) ∨ ((sw' s).getD j [] = wWhen ∧ (bw (bof s)).getD k [] = wIf)) := by
  have hb := bok0_bof h
  have e1 : (bsrc (bof s)).length = (bw (bof s)).length := by rw [← bsrc_bw hb, List.length_map]
  have e2 : (ssrc s).length = (sw' s).length := by rw [← ssrc_sw h, List.length_map]
  have hk1 : k < (bsrc (bof s)).length := by omega
  obtain ⟨c, c1, c2, c3⟩ := (ltr_line h).get (List.getElem?_eq_getElem hk1)
  have hw : (bw (bof s)).getD k [] = ((bsrc (bof s))[k]).1 := by
    rw [← bsrc_bw hb]; simp [List.getD_eq_getElem?_getD, List.getElem?_eq_getElem hk1]
  have hg : (bsrc (bof s)).getD k ([], 0) = (bsrc (bof s))[k] := by simp [List.getD_eq_getElem?_getD, List.getElem?_eq_getElem hk1]
  have hf := fromI_get hk1
  rw [hg] at hf
  rcases c3 with ⟨q1, q2, q3⟩ | ⟨q1, q2, u, q3, q4, q5⟩
  · left
    rw [if_pos (by omega)] at hf
    rw [hw]; exact ⟨hf, q3⟩
  · right
    rw [if_neg (by omega)] at hf
    have hj := (List.getElem?_eq_some_iff.1 q3).1
    have hcol := colOf_at 0 (ids_line h) q3 (by omega)
    rw [ssrc_sw h, q4] at hcol
    have hu : (sw' s).getD c.2.toNat [] = u.1 := by
      rw [← ssrc_sw h, List.getD_eq_getElem?_getD, List.getElem?_map, q3]; rfl
    refine ⟨c.2.toNat, by omega, ?_, ?_, ?_⟩
    · rw [List.getD_eq_getElem?_getD, c1, hw, ← c2, Int.toNat_of_nonneg q2]; rfl
    · rw [hf, List.getD_eq_getElem?_getD, hcol]; rfl
    · rw [hu, hw]; exact q5
theorem from_nn {s : Sl} (h : sok0 s = true) {k : Nat} (hk : k < (bw (bof s)).length) : (fromI s).getD k 0 = -1 ∨ 0 ≤ (fromI s).getD k 0 := by
  rcases from_at h hk with ⟨h1, _⟩ | ⟨j, hj, _, h2, _⟩
  · exact .inl h1
  · right; rw [h2, colsOf_at _ _ hj]; omega
/-- in order -/
theorem from_lt {s : Sl} (h : sok0 s = true) {i k : Nat} (hik : i < k) (hk : k < (bw (bof s)).length) (h0 : 0 ≤ (fromI s).getD i 0) (h1 : 0 ≤ (fromI s).getD k 0) : (fromI s).getD i 0 < (fromI s).getD k 0 := by
  rcases from_at h hk with ⟨q, _⟩ | ⟨j, hj, j1, j2, _⟩
  · omega
  · rcases from_at h (show i < (bw (bof s)).length by omega) with ⟨q, _⟩ | ⟨j', hj', j1', j2', _⟩
    · omega
    · have hl := (sok_len h).1
      have hp := List.pairwise_iff_getElem.1 (inc_line h).pw i k (by omega) (by omega) hik
      have g1 : (l8L s)[i]'(by omega) = (l8L s).getD i ([], 0) := by rw [List.getD_eq_getElem?_getD, List.getElem?_eq_getElem (by omega)]; rfl
      have g2 : (l8L s)[k]'(by omega) = (l8L s).getD k ([], 0) := by rw [List.getD_eq_getElem?_getD, List.getElem?_eq_getElem (by omega)]; rfl
      rw [g1, g2, j1, j1'] at hp
      have := hp (by dsimp only; omega) (by dsimp only; omega)
      dsimp only at this
      rw [j2, j2']
      exact cols_lt (by omega) hj
def lastF (l : List Int) : Int := l.foldl (fun a x => if x < 0 then a else x) (-1)
theorem lastF_snoc {l : List Int} {k : Nat} (h : k < l.length) : lastF (l.take (k + 1)) = if l.getD k 0 < 0 then lastF (l.take k) else l.getD k 0 := by
  unfold lastF
  rw [List.take_add_one, List.getElem?_eq_getElem h, List.foldl_append, List.getD_eq_getElem?_getD, List.getElem?_eq_getElem h]; rfl
theorem lastF_lt {l : List Int} (v : Int) (hv : 0 ≤ v) : ∀ k, k ≤ l.length → (∀ i, i < k → 0 ≤ l.getD i 0 → l.getD i 0 < v) → lastF (l.take k) < v
  | 0, _, _ => by simp [lastF]; omega
  | k + 1, hk, h => by
    rw [lastF_snoc (by omega)]
    split
    · exact lastF_lt v hv k (by omega) fun i hi => h i (by omega)
    · exact h k (by omega) (by omega)
theorem last_lt {s : Sl} (h : sok0 s = true) {k : Nat} (hk : k < (bw (bof s)).length) (h1 : 0 ≤ (fromI s).getD k 0) : lastF ((fromI s).take k) < (fromI s).getD k 0 := by
  have hl : (fromI s).length = (bw (bof s)).length := by rw [fromI_len, ← bsrc_bw (bok0_bof h), List.length_map]
  exact lastF_lt _ h1 k (by omega) fun i hi h0 => from_lt h hi hk h0 h1
/-- the word that begins at a byte -/
def cameF (l : List Tk) (c : Int) : Str := l.foldl (fun a t => if t.col = c then t.s else a) []
theorem cameF_snoc {l : List Tk} {k : Nat} (h : k < l.length) (c : Int) : cameF (l.take (k + 1)) c = if (l.getD k ⟨0, [], 0⟩).col = c then (l.getD k ⟨0, [], 0⟩).s else cameF (l.take k) c := by
  unfold cameF
  rw [List.take_add_one, List.getElem?_eq_getElem h, List.foldl_append, List.getD_eq_getElem?_getD, List.getElem?_eq_getElem h]; rfl
theorem came_fold (c : Int) (v : Str) : ∀ (l : List Tk) (a : Str), (∀ t ∈ l, t.col = c → t.s = v) → ((∃ t ∈ l, t.col = c) ∨ a = v) → l.foldl (fun a t => if t.col = c then t.s else a) a = v
  | [], a, _, h => by simpa using h
  | t :: l, a, hu, h => by
    refine came_fold c v l _ (fun u hu2 => hu u (List.mem_cons_of_mem _ hu2)) ?_
    by_cases e : t.col = c
    · right; dsimp only; rw [if_pos e]; exact hu t List.mem_cons_self e
    · dsimp only; rw [if_neg e]
      rcases h with ⟨u, hu2, he⟩ | h
      · rcases List.mem_cons.1 hu2 with rfl | hu2
        · exact absurd he e
        · exact .inl ⟨u, hu2, he⟩
      · exact .inr h
theorem came_at {l : List Str} {j : Nat} (hj : j < l.length) : cameF (tkOf 0 l) ((colsOf 0 l).getD j 0) = l.getD j [] := by
  refine came_fold _ _ _ _ (fun t ht he => ?_) (.inl ⟨(tkOf 0 l).getD j ⟨0, [], 0⟩, ?_, by rw [tkOf_get l 0 hj]⟩)
  · obtain ⟨i, hi⟩ := List.mem_iff_getElem?.1 ht
    have hi2 : i < l.length := by have := (List.getElem?_eq_some_iff.1 hi).1; rwa [tkOf_len] at this
    have hg := tkOf_get l 0 hi2
    rw [List.getD_eq_getElem?_getD, hi, Option.getD_some] at hg
    rw [hg] at he ⊢
    dsimp only at he ⊢
    rcases Nat.lt_trichotomy i j with h | h | h
    · have := cols_lt h hj; omega
    · rw [h]
    · have := cols_lt h hi2; omega
  · rw [List.getD_eq_getElem?_getD, List.getElem?_eq_getElem (by rw [tkOf_len]; exact hj)]; exact List.getElem_mem _
/-- a word of a text of words stands where it begins -/
theorem text_at : ∀ (l : List Str) {j : Nat}, j < l.length → ((tokText l).drop (wid (l.take j))).take (l.getD j []).length = l.getD j []
  | [], j, h => by simp at h
  | [w], j, h => by
    simp only [List.length_cons, List.length_nil] at h
    obtain rfl : j = 0 := by omega
    simp [tokText_one, wid_nil]
  | w :: x :: l, 0, h => by simp [tokText_cons, wid_nil]
  | w :: x :: l, j + 1, h => by
    have := text_at (x :: l) (j := j) (by simpa using h)
    rw [tokText_cons, List.take_succ_cons, wid_cons, List.getD_cons_succ]
    rw [show w.length + 1 + wid ((x :: l).take j) = (w ++ [32]).length + wid ((x :: l).take j) by simp, show w ++ 32 :: tokText (x :: l) = (w ++ [32]) ++ tokText (x :: l) by simp, List.drop_length_add_append]
    exact this
theorem text_fit {l : List Str} {j : Nat} (h : j < l.length) : wid (l.take j) + (l.getD j []).length ≤ (tokText l).length := by
  have h1 := wid_take h
  have h2 := wid_sub l (j + 1)
  have h3 := wid_text (l := l) (fun e => by rw [e] at h; simp at h)
  omega
/-- numbers and marks between parts -/
def pw (w : Str) : Bool := tkKind w == 2 || isOp w
theorem isOp_mark {w : Str} (h : isOp w = true) : isOp w = (w == [43] || w == [45] || w == [42] || w == [60]) := rfl
theorem pw_nm {s : Str} (h : isNm s = true) : pw s = false := by
  have hw : isWord s = true := by simp only [isNm, Bool.and_eq_true] at h; exact h.1
  have ho : isOp s = false := by
    cases ho : isOp s with
    | false => rfl
    | true =>
      simp only [isOp, Bool.or_eq_true, beq_iff_eq] at ho
      rcases ho with ((ho | ho) | ho) | ho <;> subst ho <;> simp [isWord, lower] at hw
  simp [pw, tkKind, hw, ho]
theorem pw_word {w : Str} (h : isWord w = true) (h2 : isOp w = false) : pw w = false := by simp [pw, tkKind, h, h2]
theorem pw_typ {s : Str} (h : isTyp s = true) : pw s = false := by
  simp only [isTyp, Bool.or_eq_true, beq_iff_eq] at h
  rcases h with h | h <;> subst h <;> exact pw_word (by decide) (by decide)
theorem pw_mark {c : UInt8} (h : isWord [c] = false) (h0 : numOk [c] = false) (h1 : isMark [c] = true) (h2 : isOp [c] = false) : pw [c] = false := by simp [pw, tkKind, h, h0, h1, h2]
theorem num_not {c : UInt8} (h : ¬ isDig c) : numOk [c] = false := by
  cases hn : numOk [c] with
  | false => rfl
  | true =>
    simp only [numOk, Bool.and_eq_true, beq_iff_eq] at hn
    exact absurd (decDigits_dig _ c (by rw [hn.2]; exact List.mem_cons_self)) h
theorem pw_brk : pw [40] = false ∧ pw [41] = false ∧ pw [97, 115] = false ∧ pw wCol = false ∧ pw wEq = false ∧ pw wLet = false ∧ pw wSay = false ∧ pw wWhen = false ∧ pw wPrint = false ∧ pw wIf = false :=
  ⟨pw_mark (by decide) (num_not (by unfold isDig; decide)) (by decide) (by decide), pw_mark (by decide) (num_not (by unfold isDig; decide)) (by decide) (by decide), pw_word (by decide) (by decide), pw_mark (by decide) (num_not (by unfold isDig; decide)) (by decide) (by decide), pw_mark (by decide) (num_not (by unfold isDig; decide)) (by decide) (by decide), pw_word (by decide) (by decide), pw_word (by decide) (by decide), pw_word (by decide) (by decide), pw_word (by decide) (by decide), pw_word (by decide) (by decide)⟩
theorem count_bare : ∀ (d : Nat) (e : E) (t b : Int), form e d = true → (wds (bare e) b).countP pw = (wds e t).countP pw
  | 0, e, t, b, h => by have := (form_open h).1; omega
  | d + 1, e, t, b, h => by
    have e1 : ((d + 1 : Nat) : Int) - 1 = (d : Int) := by omega
    obtain ⟨p1, p2, p3, _⟩ := pw_brk
    obtain ⟨h0, h1 | h1 | h1 | h1⟩ := form_open h
    · rw [bare_leaf (by omega) h1.2.2.2.2, wds_num h1.1, wds_num h1.1]
    · rw [bare_leaf (by omega) h1.2.2.2, wds_name h1.1, wds_name h1.1]
    · obtain ⟨k, hn, ho, hl, ha, hb⟩ := h1
      rw [e1] at ha hb
      have A := count_bare d _ (max 2 (tight e.s)) (max 2 (tight e.s)) ha
      have B := count_bare d _ (tight e.s + 1) (tight e.s + 1) hb
      rw [bare_two k hl, wds_two (e := .mk 3 e.n e.s [_, _]) rfl rfl, wds_two k hl]
      show (if tight e.s < b then [[40]] ++ (wds (bare (e.kids.getD 0 E0)) (max 2 (tight e.s)) ++ [e.s] ++ wds (bare (e.kids.getD 1 E0)) (tight e.s + 1)) ++ [[41]] else wds (bare (e.kids.getD 0 E0)) (max 2 (tight e.s)) ++ [e.s] ++ wds (bare (e.kids.getD 1 E0)) (tight e.s + 1)).countP pw = _
      split <;> split <;> simp only [List.countP_append, List.countP_cons, List.countP_nil, A, B, p1, p2] <;> simp
    · obtain ⟨k, hn, ho, hl, ha⟩ := h1
      rw [e1] at ha
      have A := count_bare d _ 4 b ha
      rw [bare_as k hl, wds_as k hl, List.countP_append, A]
      simp [List.countP_cons, p3, pw_typ ho]
theorem count_line {s : Sl} (h : sok0 s = true) : (bw (bof s)).countP pw = (sw' s).countP pw := by
  obtain ⟨p1, p2, p3, p4, p5, p6, p7, p8, p9, p10⟩ := pw_brk
  have C : ∀ e : E, eok e = true → (wds (bare e) 1).countP pw = (wds e 1).countP pw := fun e he => count_bare 5 e 1 1 (eok_form he)
  unfold sok0 at h
  unfold bw bof sw'
  by_cases k0 : s.kind = 0
  · simp [k0]
  by_cases k1 : s.kind = 1
  · simp [k1] at h
    simp [k1, List.countP_cons, p4, p5, p6, pw_nm h.1.1.1, pw_typ h.1.1.2, C _ h.1.2]
  by_cases k2 : s.kind = 2
  · simp [k2] at h
    simp [k2, List.countP_cons, p7, p9, C _ h.1.2]
  by_cases k3 : s.kind = 3
  · simp [k3] at h
    simp [k3, List.countP_cons, List.countP_append, p4, p7, p8, p9, p10, C _ h.1.2, C _ h.2]
  · simp [k0, k1, k2, k3] at h
end Go.Proofs.YthljacdbmhonfaaGreatDoor
end
