/- Parts of the proof, one after another: The program's reader of what is reckoned, as a plain function; it reads back what is written. | The reference's reader of what is reckoned, as a plain function; it reads back what is written. | Words of a line: how a line is cut into words, and that a text of words is cut into these. | Lines are read: both readers read just what is written. | Plain laws: types taken away: right still, no wider; which words stand in it. | Plain laws of what a line is turned into: whence each word came, by numbers of parts and by places. Conditions: none. -/
import Derived.Test.YteihfmnmpdbkiaaGreatDoorKc
import Derived.Test.YteihfmnmpdbkiaaGreatDoorKb
set_option linter.unusedVariables false
set_option linter.unusedSimpArgs false
namespace Go.Proofs.YteihfmnmpdbkiaaGreatDoor
section
structure RS where
  left : List Str
  bad : Bool
  deep : Int
def wAs : Str := [97, 115]
def rHead (s : RS) : Str := match s.left with | [] => [] | x :: _ => x
def rNext (s : RS) : RS := match s.left with | [] => { s with bad := true } | _ :: r => { s with left := r }
def asL : List Str → E → Int → E × RS
  | [], e, d => (e, ⟨[], false, d⟩)
  | [w], e, d => if w = wAs then (.mk 4 0 [] [e], ⟨[], true, d⟩) else (e, ⟨[w], false, d⟩)
  | w :: t :: r, e, d => if w = wAs then asL r (.mk 4 0 t [e]) d else (e, ⟨w :: t :: r, false, d⟩)
def asR (s : RS) (e : E) : E × RS := if s.bad then (e, s) else asL s.left e s.deep
mutual
def iLev : Nat → Nat → RS → E × RS
  | 0, _, s => (E0, s)
  | n + 1, t, s => if t = 4 then iHeld n s else iLoop n t (iLev n (t + 1) s).1 (iLev n (t + 1) s).2
def iLoop : Nat → Nat → E → RS → E × RS
  | 0, _, e, s => (e, s)
  | n + 1, t, e, s => if s.bad = false ∧ s.left ≠ [] ∧ tight (rHead s) = t then
      iLoop n t (.mk 3 0 (rHead s) [e, (iLev n (t + 1) (rNext s)).1]) (iLev n (t + 1) (rNext s)).2 else (e, s)
def iHeld : Nat → RS → E × RS
  | 0, s => (E0, s)
  | n + 1, s => asR (iAtom n (rHead s) (rNext s)).2 (iAtom n (rHead s) (rNext s)).1
def iAtom : Nat → Str → RS → E × RS
  | 0, _, s => (E0, s)
  | n + 1, w, s =>
    if w = [40] then
      if s.bad = true ∨ 40 < s.deep + 1 then (E0, { s with deep := s.deep + 1, bad := true })
      else
        let p := iLev n 1 { s with deep := s.deep + 1 }
        (p.1, if p.2.bad then p.2 else { rNext p.2 with bad := !(rHead p.2 == [41]) })
    else if numOk w then (.mk 1 (numVal w) [] [], s)
    else if isNm w then (.mk 2 0 w [], s)
    else (E0, { s with bad := true })
end
theorem rNext_len (s : RS) : (rNext s).left.length ≤ s.left.length := by
  unfold rNext; split <;> simp_all
theorem asL_len : ∀ (l : List Str) (e : E) (d : Int), (asL l e d).2.left.length ≤ l.length ∧ (asL l e d).2.deep = d
  | [], e, d => by simp [asL]
  | [w], e, d => by simp only [asL]; split <;> simp
  | w :: t :: r, e, d => by
    simp only [asL]
    split
    · have := asL_len r (.mk 4 0 t [e]) d; simp only [List.length_cons]; omega
    · simp
theorem asR_len (s : RS) (e : E) : (asR s e).2.left.length ≤ s.left.length := by
  unfold asR; split
  · exact Nat.le_refl _
  · exact (asL_len s.left e s.deep).1
theorem asR_deep (s : RS) (e : E) : (asR s e).2.deep = s.deep := by
  unfold asR; split
  · rfl
  · exact (asL_len s.left e s.deep).2
theorem rNext_deep (s : RS) : (rNext s).deep = s.deep := by unfold rNext; split <;> rfl
theorem i_len : ∀ (n : Nat), (∀ t s, (iLev n t s).2.left.length ≤ s.left.length) ∧ (∀ t e s, (iLoop n t e s).2.left.length ≤ s.left.length) ∧ (∀ s, (iHeld n s).2.left.length ≤ s.left.length) ∧ (∀ w s, (iAtom n w s).2.left.length ≤ s.left.length)
  | 0 => by simp [iLev, iLoop, iHeld, iAtom]
  | n + 1 => by
    obtain ⟨h1, h2, h3, h4⟩ := i_len n
    refine ⟨fun t s => ?_, fun t e s => ?_, fun s => ?_, fun w s => ?_⟩
    · simp only [iLev]; split
      · exact h3 s
      · exact Nat.le_trans (h2 _ _ _) (h1 _ _)
    · simp only [iLoop]; split
      · exact Nat.le_trans (h2 _ _ _) (Nat.le_trans (h1 _ _) (rNext_len s))
      · exact Nat.le_refl _
    · simp only [iHeld]; exact Nat.le_trans (asR_len _ _) (Nat.le_trans (h4 _ _) (rNext_len s))
    · simp only [iAtom]
      split
      · split
        · exact Nat.le_refl _
        · dsimp only
          split
          · exact h1 _ _
          · exact Nat.le_trans (rNext_len _) (h1 _ _)
      · split
        · exact Nat.le_refl _
        · split <;> exact Nat.le_refl _
def okR (t : Nat) (l : List Str) : Prop := l.head? ≠ some wAs ∧ ∀ w, l.head? = some w → tight w ≤ t
theorem asL_stop {l : List Str} {e : E} {d : Int} (h : l.head? ≠ some wAs) : asL l e d = (e, ⟨l, false, d⟩) := by
  match l, h with
  | [], _ => rfl
  | [w], h => simp only [asL]; rw [if_neg (fun e => h (by rw [e]; rfl))]
  | w :: t :: r, h => simp only [asL]; rw [if_neg (fun e => h (by rw [e]; rfl))]
theorem iLoop_stop {n t : Nat} {e : E} {l : List Str} {d : Int} (h : ∀ w, l.head? = some w → tight w ≠ t) : iLoop n t e ⟨l, false, d⟩ = (e, ⟨l, false, d⟩) := by
  cases n with
  | zero => rfl
  | succ n =>
    simp only [iLoop]
    rw [if_neg]
    rintro ⟨_, h1, h2⟩
    cases l with
    | nil => exact h1 rfl
    | cons w r => exact h w rfl h2
def eff (e : E) (must : Int) : Int := if e.kind = 3 ∧ ¬ tight e.s < must then tight e.s else 4
theorem isOp_not {s : Str} (h : isOp s = true) : s ≠ wAs ∧ s ≠ [41] := by
  simp only [isOp, Bool.or_eq_true, beq_iff_eq] at h; rcases h with ((h | h) | h) | h <;> subst h <;> decide
theorem isNm_not {s : Str} (h : isNm s = true) : s ≠ [40] ∧ numOk s = false := by
  have h1 : s.all lower = true ∧ 1 ≤ s.length := by simp only [isNm, isWord, Bool.and_eq_true, decide_eq_true_eq] at h; exact ⟨h.1.1.1, h.1.1.2⟩
  refine ⟨fun e => by subst e; exact absurd h1.1 (by decide), ?_⟩
  rw [Bool.eq_false_iff]; intro hn
  obtain ⟨n, _, rfl⟩ := numOk_iff.1 hn
  have hd := decDigits_dig n
  cases hl : Go.Lib.decDigits n with
  | nil => rw [hl] at h1; simp at h1
  | cons c r =>
    rw [hl] at h1 hd
    have h2 := hd c (by simp)
    simp only [List.all_cons, Bool.and_eq_true, lower, decide_eq_true_eq] at h1
    unfold isDig at h2; omega
theorem numOk_dec {n : Nat} (h : n ≤ 1000000) : numOk (Go.Lib.decDigits n) = true ∧ numVal (Go.Lib.decDigits n) = n ∧ Go.Lib.decDigits n ≠ [40] := by
  refine ⟨numOk_iff.2 ⟨n, h, rfl⟩, numVal_decDigits n, fun e => ?_⟩
  have := decDigits_dig n 40 (by rw [e]; simp)
  unfold isDig at this; revert this; decide
theorem wds_brk {e : E} {must : Int} (h : e.kind = 3) (hl : e.kids.length = 2) (ht : tight e.s < must) : wds e must = [40] :: (wds e 0 ++ [[41]]) := by
  rw [wds_two h hl, if_pos ht, wds_two h hl, if_neg (by have := tight_nn e.s; omega)]; simp
where
  tight_nn (s : Str) : 0 ≤ tight s := by unfold tight; split; decide; split; decide; split <;> decide
theorem eff_kid (e : E) (must : Int) (h : must ≤ 4) : must ≤ eff e must := by unfold eff; split <;> omega
theorem iLev_lo {n : Nat} {t : Nat} {s : RS} (h : t ≠ 4) : iLev (n + 1) t s = iLoop n t (iLev n (t + 1) s).1 (iLev n (t + 1) s).2 := by simp only [iLev]; rw [if_neg h]
theorem iLev_hi {n : Nat} {s : RS} : iLev (n + 1) 4 s = iHeld n s := by simp only [iLev, if_true]
theorem iAtom_num {n : Nat} {w : Str} {s : RS} (h : w ≠ [40]) (h1 : numOk w = true) : iAtom (n + 1) w s = (.mk 1 (numVal w) [] [], s) := by simp [iAtom, h, h1]
theorem iAtom_name {n : Nat} {w : Str} {s : RS} (h : w ≠ [40]) (h1 : numOk w = false) (h2 : isNm w = true) : iAtom (n + 1) w s = (.mk 2 0 w [], s) := by simp [iAtom, h, h1, h2]
theorem iAtom_brk {n : Nat} {s : RS} (h : s.bad = false) (h1 : s.deep + 1 ≤ 40) {e : E} {p : RS} (hp : iLev n 1 { s with deep := s.deep + 1 } = (e, p)) (hb : p.bad = false) : iAtom (n + 1) [40] s = (e, { rNext p with bad := !(rHead p == [41]) }) := by
  simp only [iAtom, if_true]; rw [if_neg (by rw [h]; simp; omega)]; simp only [hp, hb]; rfl
theorem iHeld_cons {n : Nat} {w : Str} {r : List Str} {d : Int} : iHeld (n + 1) ⟨w :: r, false, d⟩ = asR (iAtom n w ⟨r, false, d⟩).2 (iAtom n w ⟨r, false, d⟩).1 := by simp only [iHeld, rHead, rNext]
theorem i_reads : ∀ (d : Nat) (e : E), form e d = true →
    (∀ (must : Int) (rest : List Str) (deep : Int) (n : Nat), must ≤ 4 → eff e must = 4 → deep + (wds e must).length ≤ 40 → 10 * ((wds e must).length + rest.length) + 2 ≤ n →
      ∃ deep', deep' ≤ deep + (wds e must).length ∧ iHeld n ⟨wds e must ++ rest, false, deep⟩ = asL rest e deep') ∧
    (∀ (must : Int) (t : Nat) (rest : List Str) (deep : Int) (n : Nat), must ≤ 4 → 1 ≤ t → t < 4 → (t : Int) ≤ eff e must → okR t rest → deep + (wds e must).length ≤ 40 → 10 * ((wds e must).length + rest.length) + 7 ≤ n + t →
      ∃ deep' m, deep' ≤ deep + (wds e must).length ∧ 10 * rest.length + 1 ≤ m ∧ iLev n t ⟨wds e must ++ rest, false, deep⟩ = iLoop m t e ⟨rest, false, deep'⟩)
  | 0, e, h => by have := (form_open h).1; omega
  | d + 1, e, h => by
    have e1 : ((d + 1 : Nat) : Int) - 1 = (d : Int) := by omega
    -- an unbracketed Two, at its own level
    have two : ∀ (must : Int) (t : Nat) (rest : List Str) (deep : Int) (n : Nat), e.kind = 3 → ¬ tight e.s < must → tight e.s = t → okR t rest → deep + (wds e must).length ≤ 40 → 10 * ((wds e must).length + rest.length) + 7 ≤ n + t →
        ∃ deep' m, deep' ≤ deep + (wds e must).length ∧ 10 * rest.length + 1 ≤ m ∧ iLev n t ⟨wds e must ++ rest, false, deep⟩ = iLoop m t e ⟨rest, false, deep'⟩ := by
      intro must t rest deep n k3 hb ht hr hd hn
      rcases (form_open h).2 with ⟨k1, _⟩ | ⟨k1, _⟩ | ⟨k1, h1, h2, h3, h4, h5⟩ | ⟨k1, _⟩
      · omega
      · omega
      · rw [e1] at h4 h5
        obtain ⟨_, A⟩ := i_reads d _ h4
        obtain ⟨_, B⟩ := i_reads d _ h5
        have ht3 := isOp_tight h2
        have hop := isOp_not h2
        rw [wds_two k1 h3, if_neg hb] at hd hn ⊢
        rw [ht] at hd hn ⊢
        simp only [List.length_append, List.length_cons, List.length_nil] at hd hn
        simp only [List.append_assoc, List.cons_append, List.nil_append]
        obtain ⟨d1, m, g1, g2, g3⟩ := A (max 2 (t : Int)) t (e.s :: (wds (e.kids.getD 1 E0) ((t : Int) + 1) ++ rest)) deep n (by omega) (by omega) (by omega) (by have := eff_kid (e.kids.getD 0 E0) (max 2 (t : Int)) (by omega); omega)
          ⟨by simp only [List.head?_cons, ne_eq, Option.some.injEq]; exact hop.1, fun w hw => by simp only [List.head?_cons, Option.some.injEq] at hw; subst hw; omega⟩ (by omega) (by simp only [List.length_append, List.length_cons]; omega)
        rw [g3]
        simp only [List.length_append, List.length_cons] at g2
        obtain ⟨m, rfl⟩ : ∃ m', m = m' + 1 := ⟨m - 1, by omega⟩
        have lp : iLoop (m + 1) t (e.kids.getD 0 E0) ⟨e.s :: (wds (e.kids.getD 1 E0) ((t : Int) + 1) ++ rest), false, d1⟩ = iLoop m t (.mk 3 0 e.s [e.kids.getD 0 E0, (iLev m (t + 1) ⟨wds (e.kids.getD 1 E0) ((t : Int) + 1) ++ rest, false, d1⟩).1]) (iLev m (t + 1) ⟨wds (e.kids.getD 1 E0) ((t : Int) + 1) ++ rest, false, d1⟩).2 := by
          simp only [iLoop, rHead, rNext]; rw [if_pos ⟨trivial, by simp, ht⟩]
        rw [lp]
        have hbk : ∃ deep', deep' ≤ d1 + (wds (e.kids.getD 1 E0) ((t : Int) + 1)).length ∧ iLev m (t + 1) ⟨wds (e.kids.getD 1 E0) ((t : Int) + 1) ++ rest, false, d1⟩ = (e.kids.getD 1 E0, ⟨rest, false, deep'⟩) := by
          by_cases h34 : t = 3
          · subst h34
            obtain ⟨Bh, _⟩ := i_reads d _ h5
            obtain ⟨m', rfl⟩ : ∃ m', m = m' + 1 := ⟨m - 1, by omega⟩
            have ef : eff (e.kids.getD 1 E0) ((3 : Nat) + 1) = 4 := by
              have := eff_kid (e.kids.getD 1 E0) 4 (by omega)
              have h4 : eff (e.kids.getD 1 E0) 4 ≤ 4 := by
                unfold eff; split
                · rename_i hh; rcases (form_open h5).2 with ⟨k, _⟩ | ⟨k, _⟩ | ⟨k, _, hk, _⟩ | ⟨k, _⟩
                  · omega
                  · omega
                  · have := isOp_tight hk; omega
                  · omega
                · omega
              show eff (e.kids.getD 1 E0) 4 = 4
              omega
            obtain ⟨d2, q1, q2⟩ := Bh (((3 : Nat) : Int) + 1) rest d1 m' (by omega) ef (by omega) (by omega)
            refine ⟨d2, q1, ?_⟩
            rw [iLev_hi, q2, asL_stop hr.1]
          · obtain ⟨d2, m2, q1, q2, q3⟩ := B ((t : Int) + 1) (t + 1) rest d1 m (by omega) (by omega) (by omega) (by have := eff_kid (e.kids.getD 1 E0) ((t : Int) + 1) (by omega); omega) ⟨hr.1, fun w hw => by have := hr.2 w hw; omega⟩ (by omega) (by omega)
            refine ⟨d2, q1, ?_⟩
            rw [q3, iLoop_stop fun w hw => by have := hr.2 w hw; omega]
        obtain ⟨d2, q1, q2⟩ := hbk
        rw [q2]
        refine ⟨d2, m, ?_, by omega, ?_⟩
        · simp only [List.length_append, List.length_cons, List.length_nil]; omega
        · have he : e = .mk 3 0 e.s [e.kids.getD 0 E0, e.kids.getD 1 E0] := by
            rw [← kids_two h3, ← h1, ← k1, E.eta]
          rw [← he]
      · omega
    have held : ∀ (must : Int) (rest : List Str) (deep : Int) (n : Nat), must ≤ 4 → eff e must = 4 → deep + (wds e must).length ≤ 40 → 10 * ((wds e must).length + rest.length) + 2 ≤ n →
        ∃ deep', deep' ≤ deep + (wds e must).length ∧ iHeld n ⟨wds e must ++ rest, false, deep⟩ = asL rest e deep' := by
      intro must rest deep n hm he hd hn
      rcases (form_open h).2 with ⟨k1, h1, h2, h3, h4⟩ | ⟨k1, h1, h2, h3⟩ | ⟨k1, h1, h2, h3, h4, h5⟩ | ⟨k1, h1, h2, h3, h4⟩
      · rw [wds_num k1] at hd hn ⊢
        obtain ⟨n, rfl⟩ : ∃ n', n = n' + 2 := ⟨n - 2, by omega⟩
        obtain ⟨g1, g2, g3⟩ := numOk_dec (n := e.n.toNat) (by omega)
        refine ⟨deep, by simp; omega, ?_⟩
        have : (.mk 1 (numVal (Go.Lib.decDigits e.n.toNat) : Int) [] [] : E) = e := by
          rw [g2, Int.toNat_of_nonneg h1, ← h3, ← h4, ← k1, h3, h4]; conv => rhs; rw [← E.eta e, h3, h4]
        rw [List.cons_append, List.nil_append, iHeld_cons, iAtom_num g3 g1, this]
        rfl
      · rw [wds_name k1] at hd hn ⊢
        obtain ⟨n, rfl⟩ : ∃ n', n = n' + 2 := ⟨n - 2, by omega⟩
        obtain ⟨g1, g2⟩ := isNm_not h2
        refine ⟨deep, by simp; omega, ?_⟩
        have : (.mk 2 0 e.s [] : E) = e := by conv => rhs; rw [← E.eta e, h3, h1, k1]
        rw [List.cons_append, List.nil_append, iHeld_cons, iAtom_name g1 g2 h2, this]
        rfl
      · have ht3 := isOp_tight h2
        have hb : tight e.s < must := by
          by_cases hh : tight e.s < must
          · exact hh
          · unfold eff at he; rw [if_pos ⟨k1, hh⟩] at he; omega
        rw [wds_brk k1 h3 hb] at hd hn ⊢
        simp only [List.length_cons, List.length_append, List.length_nil] at hd hn
        obtain ⟨n, rfl⟩ : ∃ n', n = n' + 2 := ⟨n - 2, by omega⟩
        obtain ⟨t, ht⟩ : ∃ t : Nat, tight e.s = t := ⟨(tight e.s).toNat, by omega⟩
        -- level 1 inside
        have inner : ∃ d1 m, d1 ≤ deep + 1 + (wds e 0).length ∧ 1 ≤ m ∧ iLev n 1 ⟨wds e 0 ++ [41] :: rest, false, deep + 1⟩ = iLoop m 1 e ⟨[41] :: rest, false, d1⟩ := by
          have hr : ∀ t, okR t ([41] :: rest) := fun t => ⟨by simp [wAs], fun w hw => by simp at hw; subst hw; simp [tight]⟩
          have up : ∀ k : Nat, k < t → ∀ n, 10 * ((wds e 0).length + (rest.length + 1)) + 7 ≤ n + (t - k) → ∃ d1 m, d1 ≤ deep + 1 + (wds e 0).length ∧ 1 ≤ m ∧ iLev n (t - k) ⟨wds e 0 ++ [41] :: rest, false, deep + 1⟩ = iLoop m (t - k) e ⟨[41] :: rest, false, d1⟩ := by
            intro k
            induction k with
            | zero =>
              intro _ n hn
              obtain ⟨d1, m, q1, q2, q3⟩ := two 0 t ([41] :: rest) (deep + 1) n k1 (by omega) ht (hr t) (by omega) (by simp only [List.length_cons]; omega)
              exact ⟨d1, m, q1, by simp only [List.length_cons] at q2; omega, q3⟩
            | succ k ih =>
              intro hk n hn
              obtain ⟨n, rfl⟩ : ∃ n', n = n' + 1 := ⟨n - 1, by omega⟩
              obtain ⟨d1, m, q1, q2, q3⟩ := ih (by omega) n (by omega)
              refine ⟨d1, n, q1, by omega, ?_⟩
              rw [iLev_lo (by omega), show t - (k + 1) + 1 = t - k by omega, q3, iLoop_stop fun w hw => by simp at hw; subst hw; simp [tight]; omega]
          have := up (t - 1) (by omega) n (by omega)
          rwa [show t - (t - 1) = 1 by omega] at this
        obtain ⟨d1, m, q1, q2, q3⟩ := inner
        rw [iLoop_stop fun w hw => by simp at hw; subst hw; simp [tight]] at q3
        refine ⟨d1, by simp only [List.length_cons, List.length_append, List.length_nil]; omega, ?_⟩
        rw [List.cons_append, iHeld_cons, List.append_assoc]
        rw [iAtom_brk (s := ⟨wds e 0 ++ ([[41]] ++ rest), false, deep⟩) rfl (by dsimp only; omega) q3 rfl]
        rfl
      · rw [e1] at h4
        obtain ⟨A, _⟩ := i_reads d _ h4
        have ef : eff (e.kids.getD 0 E0) 4 = 4 := by
          have := eff_kid (e.kids.getD 0 E0) 4 (by omega)
          have h4' : eff (e.kids.getD 0 E0) 4 ≤ 4 := by
            unfold eff; split
            · rename_i hh; rcases (form_open h4).2 with ⟨k, _⟩ | ⟨k, _⟩ | ⟨k, _, hk, _⟩ | ⟨k, _⟩
              · omega
              · omega
              · have := isOp_tight hk; omega
              · omega
            · omega
          omega
        rw [wds_as k1 h3] at hd hn ⊢
        simp only [List.length_cons, List.length_append, List.length_nil] at hd hn
        obtain ⟨d1, q1, q2⟩ := A 4 (wAs :: e.s :: rest) deep n (by omega) ef (by omega) (by simp only [List.length_cons]; omega)
        refine ⟨d1, by simp only [List.length_cons, List.length_append, List.length_nil]; omega, ?_⟩
        rw [List.append_assoc]
        have hE : (.mk 4 0 e.s [e.kids.getD 0 E0] : E) = e := by conv => rhs; rw [← E.eta e, kids_one h3, h1, k1]
        refine q2.trans ?_
        simp only [asL, if_true]
        rw [hE]
    refine ⟨held, ?_⟩
    -- from the own level down to t
    intro must t rest deep n hm ht1 ht4 ht hr hd hn
    have hk : ∀ k : Nat, t + k ≤ 4 → ((t + k : Nat) : Int) = eff e must → ∃ deep' m, deep' ≤ deep + (wds e must).length ∧ 10 * rest.length + 1 ≤ m ∧ iLev n t ⟨wds e must ++ rest, false, deep⟩ = iLoop m t e ⟨rest, false, deep'⟩ := by
      intro k
      induction k generalizing t n with
      | zero =>
        intro _ hef
        rcases (form_open h).2 with ⟨k1, _⟩ | ⟨k1, _⟩ | ⟨k1, h1, h2, h3, h4, h5⟩ | ⟨k1, _⟩
        · unfold eff at hef; rw [if_neg (by omega)] at hef; omega
        · unfold eff at hef; rw [if_neg (by omega)] at hef; omega
        · unfold eff at hef
          by_cases hb : tight e.s < must
          · rw [if_neg (by omega)] at hef; omega
          · rw [if_pos ⟨k1, hb⟩] at hef
            exact two must t rest deep n k1 hb (by omega) hr hd hn
        · unfold eff at hef; rw [if_neg (by omega)] at hef; omega
      | succ k ih =>
        intro h4 hef
        obtain ⟨n, rfl⟩ : ∃ n', n = n' + 1 := ⟨n - 1, by omega⟩
        by_cases h34 : t = 3
        · subst h34
          obtain ⟨n, rfl⟩ : ∃ n', n = n' + 1 := ⟨n - 1, by omega⟩
          obtain ⟨d1, q1, q2⟩ := held must rest deep n hm (by omega) hd (by omega)
          refine ⟨d1, n + 1, q1, by omega, ?_⟩
          rw [iLev_lo (by omega), iLev_hi, q2, asL_stop hr.1]
        · obtain ⟨d1, m, q1, q2, q3⟩ := ih (t + 1) n (by omega) (by omega) (by omega) ⟨hr.1, fun w hw => by have := hr.2 w hw; omega⟩ (by omega) (by omega) (by omega)
          refine ⟨d1, n, q1, by omega, ?_⟩
          rw [iLev_lo (by omega), q3, iLoop_stop fun w hw => by have := hr.2 w hw; omega]
    have heff : eff e must ≤ 4 := by
      unfold eff; split
      · rename_i hh; rcases (form_open h).2 with ⟨k, _⟩ | ⟨k, _⟩ | ⟨k, _, hk, _⟩ | ⟨k, _⟩
        · omega
        · omega
        · have := isOp_tight hk; omega
        · omega
      · omega
    exact hk (eff e must - t).toNat (by omega) (by omega)
theorem i_read {e : E} (h : eok e = true) (hl : (wds e 1).length ≤ 40) {n : Nat} (hn : 410 ≤ n) : ∃ deep', iLev n 1 ⟨wds e 1, false, 0⟩ = (e, ⟨[], false, deep'⟩) := by
  have he : 1 ≤ eff e 1 := eff_kid e 1 (by omega)
  obtain ⟨d1, m, q1, q2, q3⟩ := (i_reads 5 e (eok_form h)).2 1 1 [] 0 n (by omega) (by omega) (by omega) he ⟨by simp, fun w hw => by simp at hw⟩ (by omega) (by simp; omega)
  rw [List.append_nil] at q3
  exact ⟨d1, by rw [q3, iLoop_stop fun w hw => by simp at hw]⟩
end

section
theorem isDig_iff (c : UInt8) : digit c = true ↔ isDig c := digit_iff c
theorem num12_ok (l : Str) : ((num12 l).2 && (decide (0 ≤ (num12 l).1) && decide ((num12 l).1 ≤ 1000000))) = numOk l ∧ (numOk l = true → (num12 l).1 = numVal l) := by
  have key : numOk l = true → (num12 l).2 = true ∧ (num12 l).1 = numVal l := fun h => by
    obtain ⟨n, hn, rfl⟩ := numOk_iff.1 h
    have hd := decDigits_dig n
    have hlen := decDigits_len hn
    have hh : (Go.Lib.decDigits n).head? ≠ some 45 := fun e => by
      have := hd 45 (List.mem_of_mem_head? (by rw [e]; rfl)); unfold isDig at this; revert this; decide
    have hz : (Go.Lib.decDigits n).head? = some 48 → (Go.Lib.decDigits n).length ≤ 1 := fun e => by
      by_cases h : n < 10
      · rw [Go.Lib.decDigits_one h]; simp
      · exfalso; exact dec_lead n (by omega) e
    have hne : (Go.Lib.decDigits n).length ≠ 0 := fun e => decDigits_ne n (List.eq_nil_of_length_eq_zero e)
    unfold num12
    simp only [show ((Go.Lib.decDigits n).head? == some 45) = false by simpa using hh, Bool.false_eq_true, if_false, or_false]
    rw [if_neg (by rintro (h | h | ⟨h1, h2⟩); exact hne h; omega; have := hz h1; omega), if_pos (List.all_eq_true.2 fun c hc => (isDig_iff c).2 (hd c hc))]
    exact ⟨rfl, rfl⟩
  refine ⟨?_, fun h => (key h).2⟩
  cases h : numOk l with
  | true =>
    obtain ⟨h1, h2⟩ := key h
    obtain ⟨n, hn, rfl⟩ := numOk_iff.1 h
    rw [h1, h2, numVal_decDigits]; simp; omega
  | false =>
    rw [Bool.eq_false_iff]
    intro hh
    rw [Bool.eq_false_iff] at h
    apply h
    simp only [Bool.and_eq_true, decide_eq_true_eq] at hh
    obtain ⟨h1, h2, h3⟩ := hh
    unfold num12 at h1 h2 h3
    cases hneg : (l.head? == some 45) with
    | true =>
      exfalso
      simp only [hneg, if_true] at h1 h2 h3
      split at h1
      · cases h1
      · rename_i hc
        rw [if_neg hc] at h2 h3
        split at h1
        · rename_i hall
          rw [if_pos hall] at h2 h3
          have hd : ∀ c ∈ l.tail, isDig c := fun c hc => (isDig_iff c).1 (List.all_eq_true.1 hall c hc)
          have hne : l.tail ≠ [] := fun e => hc (.inl (by rw [e]; rfl))
          have := (lead hne hd (fun e => hc (.inr (.inr ⟨e, .inr trivial⟩)))).1
          omega
        · cases h1
    | false =>
      simp only [hneg, Bool.false_eq_true, if_false, or_false] at h1 h2 h3
      split at h1
      · cases h1
      · rename_i hc
        rw [if_neg hc] at h2 h3
        split at h1
        · rename_i hall
          rw [if_pos hall] at h2 h3
          have hd : ∀ c ∈ l, isDig c := fun c hc => (isDig_iff c).1 (List.all_eq_true.1 hall c hc)
          have hne : l ≠ [] := fun e => hc (.inl (by rw [e]; rfl))
          refine numOk_iff.2 ⟨numVal l, by omega, ?_⟩
          by_cases h0 : l.head? = some 48
          · have : ¬ 1 < l.length := fun h => hc (.inr (.inr ⟨h0, h⟩))
            match l, h0, this, hne with
            | [c], h0, _, _ => simp at h0; subst h0; rw [show numVal [48] = 0 from rfl, Go.Lib.decDigits_one (by decide)]; rfl
            | _ :: _ :: _, _, h, _ => simp at h
          · exact (lead hne hd h0).2.symm
        · cases h1
where
  dec_lead (n : Nat) (h : 1 ≤ n) : (Go.Lib.decDigits n).head? ≠ some 48 := by
    induction n using Nat.strongRecOn with
    | ind n ih =>
      by_cases h1 : n < 10
      · rw [Go.Lib.decDigits_one h1]
        simp only [List.head?_cons, ne_eq, Option.some.injEq]
        intro e
        have := dig_lt h1
        rw [e] at this
        have e2 : (48 : UInt8).toNat = 48 := rfl
        omega
      · rw [decDigits_step h1]
        have := ih (n / 10) (by omega) (by omega)
        cases hl : Go.Lib.decDigits (n / 10) with
        | nil => exact absurd hl (decDigits_ne _)
        | cons c r => rw [hl] at this; simpa using this
def sAs : Nat → List Str → Nat → E → E × Option Nat
  | 0, _, _, e => (e, none)
  | n + 1, w, k, e => if w.getD k [] = wAs then (if isTyp (w.getD (k + 1) []) then sAs n w (k + 2) (.mk 4 0 (w.getD (k + 1) []) [e]) else (e, none)) else (e, some k)
mutual
def sAtom : Nat → List Str → Nat → Int → E × Option Nat
  | 0, _, _, _ => (E0, none)
  | n + 1, w, k, deep =>
    if numOk (w.getD k []) then sAs n w (k + 1) (.mk 1 (numVal (w.getD k [])) [] [])
    else if isNm (w.getD k []) then sAs n w (k + 1) (.mk 2 0 (w.getD k []) [])
    else if w.getD k [] = [40] ∧ 0 < deep then
      match (sL1 n w (k + 1) (deep - 1)).2 with
      | none => ((sL1 n w (k + 1) (deep - 1)).1, none)
      | some b => if w.getD b [] = [41] then sAs n w (b + 1) (sL1 n w (k + 1) (deep - 1)).1 else ((sL1 n w (k + 1) (deep - 1)).1, none)
    else (E0, none)
def sLp : Nat → List Str → Nat → Nat → Int → E × Option Nat
  | 0, _, _, _, _ => (E0, none)
  | n + 1, w, k, t, deep => if 3 < t then sAtom n w k deep else sLoop n w t deep (sLp n w k (t + 1) deep).1 (sLp n w k (t + 1) deep).2
def sLoop : Nat → List Str → Nat → Int → E → Option Nat → E × Option Nat
  | 0, _, _, _, e, _ => (e, none)
  | _ + 1, _, _, _, e, none => (e, none)
  | n + 1, w, t, deep, e, some k => if tight (w.getD k []) = t then sLoop n w t deep (.mk 3 0 (w.getD k []) [e, (sLp n w (k + 1) (t + 1) deep).1]) (sLp n w (k + 1) (t + 1) deep).2 else (e, some k)
def sL1 : Nat → List Str → Nat → Int → E × Option Nat
  | 0, _, _, _ => (E0, none)
  | n + 1, w, k, deep =>
    match (sLp n w k 2 deep).2 with
    | none => ((sLp n w k 2 deep).1, none)
    | some b => if w.getD b [] = [60] then (.mk 3 0 [60] [(sLp n w k 2 deep).1, (sLp n w (b + 1) 2 deep).1], (sLp n w (b + 1) 2 deep).2) else ((sLp n w k 2 deep).1, some b)
end
theorem at_drop {w l : List Str} {k : Nat} {s : Str} (h : w.drop k = s :: l) : w.getD k [] = s ∧ w.drop (k + 1) = l := by
  have hk : k < w.length := by
    rcases Nat.lt_or_ge k w.length with h1 | h1
    · exact h1
    · rw [List.drop_of_length_le h1] at h; cases h
  rw [List.drop_eq_getElem_cons hk] at h
  injection h with h1 h2
  exact ⟨by rw [List.getD_eq_getElem?_getD, List.getElem?_eq_getElem hk]; exact h1, h2⟩
theorem at_head {w l : List Str} {k : Nat} (h : w.drop k = l) : w.getD k [] = l.headD [] := by
  cases l with
  | nil =>
    have : w.length ≤ k := by simpa using h
    simp [List.getD_eq_getElem?_getD, List.getElem?_eq_none this]
  | cons s l => exact (at_drop h).1
theorem drop_app {w a l : List Str} {k : Nat} (h : w.drop k = a ++ l) : w.drop (k + a.length) = l := by
  rw [← List.drop_drop, h]; simp
theorem sAs_stop {n : Nat} {w : List Str} {k : Nat} {e : E} {rest : List Str} (hk : w.drop k = rest) (h : rest.head? ≠ some wAs) : sAs (n + 1) w k e = (e, some k) := by
  simp only [sAs]
  rw [if_neg]
  rw [at_head hk]
  cases rest with
  | nil => decide
  | cons a r => simpa using h
theorem head_tight {w : List Str} {k : Nat} {rest : List Str} (hk : w.drop k = rest) {P : Int → Prop} (h0 : P 0) (h : ∀ x, rest.head? = some x → P (tight x)) : P (tight (w.getD k [])) := by
  rw [at_head hk]
  cases rest with
  | nil => exact h0
  | cons a r => exact h a rfl
theorem sLoop_stop {n : Nat} {w : List Str} {t : Nat} {deep : Int} {e : E} {k : Nat} (h : tight (w.getD k []) ≠ t) : sLoop (n + 1) w t deep e (some k) = (e, some k) := by
  simp only [sLoop]; rw [if_neg h]
theorem tight_one {s : Str} (h : tight s = 1) : s = [60] := by
  unfold tight at h
  by_cases h1 : s = [60]
  · exact h1
  · by_cases h2 : s = [43] ∨ s = [45]
    · rcases h2 with rfl | rfl <;> simp at h
    · by_cases h3 : s = [42]
      · subst h3; simp at h
      · simp [h1, h3] at h; simp_all
theorem eff_le {e : E} {d must : Int} (h : form e d = true) : eff e must ≤ 4 := by
  unfold eff; split
  · rename_i hh; rcases (form_open h).2 with ⟨k, _⟩ | ⟨k, _⟩ | ⟨k, _, hk, _⟩ | ⟨k, _⟩
    · omega
    · omega
    · have := isOp_tight hk; omega
    · omega
  · omega
theorem sAtom_num {n : Nat} {w : List Str} {k : Nat} {deep : Int} (h : numOk (w.getD k []) = true) : sAtom (n + 1) w k deep = sAs n w (k + 1) (.mk 1 (numVal (w.getD k [])) [] []) := by simp only [sAtom, h, if_true]
theorem sAtom_name {n : Nat} {w : List Str} {k : Nat} {deep : Int} (h : numOk (w.getD k []) = false) (h2 : isNm (w.getD k []) = true) : sAtom (n + 1) w k deep = sAs n w (k + 1) (.mk 2 0 (w.getD k []) []) := by simp only [sAtom, h, h2, if_true, Bool.false_eq_true, if_false]
theorem sAtom_brk {n : Nat} {w : List Str} {k b : Nat} {deep : Int} {x : E} (h : w.getD k [] = [40]) (hd : 0 < deep) (hx : sL1 n w (k + 1) (deep - 1) = (x, some b)) (hb : w.getD b [] = [41]) : sAtom (n + 1) w k deep = sAs n w (b + 1) x := by
  have h1 : numOk [40] = false := by
    rw [Bool.eq_false_iff]; intro h
    obtain ⟨n, hn, h⟩ := numOk_iff.1 h
    exact (numOk_dec hn).2.2 h.symm
  have h2 : isNm [40] = false := by decide
  simp only [sAtom, h, h1, h2, Bool.false_eq_true, if_false, hx, hb, if_true, true_and]
  rw [if_pos hd]
theorem s_reads (w : List Str) : ∀ (d : Nat) (e : E), form e d = true →
    (∀ (must : Int) (rest : List Str) (k : Nat) (deep : Int) (n : Nat), must ≤ 4 → eff e must = 4 → d ≤ deep → w.drop k = wds e must ++ rest → 10 * ((wds e must).length + rest.length) + 2 ≤ n →
      ∃ m, rest.length + 1 ≤ m ∧ sAtom n w k deep = sAs m w (k + (wds e must).length) e) ∧
    (∀ (must : Int) (t : Nat) (rest : List Str) (k : Nat) (deep : Int) (n : Nat), must ≤ 4 → 2 ≤ t → t < 4 → (t : Int) ≤ eff e must → okR t rest → d ≤ deep → w.drop k = wds e must ++ rest → 10 * ((wds e must).length + rest.length) + 7 ≤ n + t →
      ∃ m, 10 * rest.length + 1 ≤ m ∧ sLp n w k t deep = sLoop m w t deep e (some (k + (wds e must).length))) ∧
    (∀ (rest : List Str) (k : Nat) (deep : Int) (n : Nat), e.kind = 3 → okR 0 rest → (d : Int) ≤ deep + 1 → w.drop k = wds e 0 ++ rest → 10 * ((wds e 0).length + rest.length) + 7 ≤ n →
      sL1 n w k deep = (e, some (k + (wds e 0).length)))
  | 0, e, h => by have := (form_open h).1; omega
  | d + 1, e, h => by
    have e1 : ((d + 1 : Nat) : Int) - 1 = (d : Int) := by omega
    have two : ∀ (must : Int) (t : Nat) (rest : List Str) (k : Nat) (deep : Int) (n : Nat), e.kind = 3 → ¬ tight e.s < must → tight e.s = t → 2 ≤ t → okR t rest → d ≤ deep → w.drop k = wds e must ++ rest → 10 * ((wds e must).length + rest.length) + 7 ≤ n + t →
        ∃ m, 10 * rest.length + 1 ≤ m ∧ sLp n w k t deep = sLoop m w t deep e (some (k + (wds e must).length)) := by
      intro must t rest k deep n k3 hb ht ht2 hr hd hk hn
      rcases (form_open h).2 with ⟨k1, _⟩ | ⟨k1, _⟩ | ⟨k1, h1, h2, h3, h4, h5⟩ | ⟨k1, _⟩
      · omega
      · omega
      · rw [e1] at h4 h5
        have A := (s_reads w d _ h4).2.1
        have B := s_reads w d _ h5
        have ht3 := isOp_tight h2
        have hop := isOp_not h2
        rw [wds_two k1 h3, if_neg hb] at hk hn ⊢
        rw [ht] at hk hn ⊢
        rw [show max 2 (t : Int) = t by omega] at hk hn ⊢
        simp only [List.length_append, List.length_cons, List.length_nil] at hn ⊢
        simp only [List.append_assoc, List.cons_append, List.nil_append] at hk
        obtain ⟨m, g2, g3⟩ := A (t : Int) t (e.s :: (wds (e.kids.getD 1 E0) ((t : Int) + 1) ++ rest)) k deep n (by omega) (by omega) (by omega) (eff_kid (e.kids.getD 0 E0) (t : Int) (by omega))
          ⟨by simp only [List.head?_cons, ne_eq, Option.some.injEq]; exact hop.1, fun w hw => by simp only [List.head?_cons, Option.some.injEq] at hw; subst hw; omega⟩ hd hk (by simp only [List.length_append, List.length_cons]; omega)
        rw [g3]
        simp only [List.length_append, List.length_cons] at g2
        obtain ⟨m, rfl⟩ : ∃ m', m = m' + 1 := ⟨m - 1, by omega⟩
        obtain ⟨q1, q2⟩ := at_drop (drop_app hk)
        have hmm : 10 * ((wds (e.kids.getD 1 E0) ((t : Int) + 1)).length + rest.length) + 10 ≤ m := by omega
        have hbk : sLp m w (k + (wds (e.kids.getD 0 E0) t).length + 1) (t + 1) deep = (e.kids.getD 1 E0, some (k + (wds (e.kids.getD 0 E0) t).length + 1 + (wds (e.kids.getD 1 E0) ((t : Int) + 1)).length)) := by
          by_cases h34 : t = 3
          · subst h34
            obtain ⟨m', rfl⟩ : ∃ m', m = m' + 1 := ⟨m - 1, by omega⟩
            have ef : eff (e.kids.getD 1 E0) ((3 : Nat) + 1) = 4 := by
              have h1 := eff_kid (e.kids.getD 1 E0) 4 (by omega)
              have h2 := eff_le (must := 4) h5
              show eff (e.kids.getD 1 E0) 4 = 4
              omega
            obtain ⟨m2, r1, r2⟩ := B.1 (((3 : Nat) : Int) + 1) rest _ deep m' (by omega) ef hd q2 (by omega)
            obtain ⟨m2, rfl⟩ : ∃ m', m2 = m' + 1 := ⟨m2 - 1, by omega⟩
            simp only [sLp]
            rw [if_pos (by omega), r2, sAs_stop (drop_app q2) hr.1]
          · obtain ⟨m2, r1, r2⟩ := B.2.1 ((t : Int) + 1) (t + 1) rest _ deep m (by omega) (by omega) (by omega) (by have := eff_kid (e.kids.getD 1 E0) ((t : Int) + 1) (by omega); omega) ⟨hr.1, fun w hw => by have := hr.2 w hw; omega⟩ hd q2 (by omega)
            obtain ⟨m2, rfl⟩ : ∃ m', m2 = m' + 1 := ⟨m2 - 1, by omega⟩
            rw [r2, sLoop_stop]
            exact head_tight (P := fun x => x ≠ ((t + 1 : Nat) : Int)) (drop_app q2) (by omega) fun x hx => by have := hr.2 x hx; omega
        refine ⟨m, by omega, ?_⟩
        have he : e = .mk 3 0 e.s [e.kids.getD 0 E0, e.kids.getD 1 E0] := by
          rw [← kids_two h3, ← h1, ← k1, E.eta]
        simp only [sLoop]
        rw [q1, if_pos ht, hbk, ← he]
        exact congrArg (fun x => sLoop m w t deep e (some x)) (by omega)
      · omega
    -- level 1, without brackets
    have one : ∀ (rest : List Str) (k : Nat) (deep : Int) (n : Nat), e.kind = 3 → okR 0 rest → d ≤ deep → w.drop k = wds e 0 ++ rest → 10 * ((wds e 0).length + rest.length) + 7 ≤ n →
        sL1 n w k deep = (e, some (k + (wds e 0).length)) := by
      intro rest k deep n k3 hr hd hk hn
      rcases (form_open h).2 with ⟨k1, _⟩ | ⟨k1, _⟩ | ⟨k1, h1, h2, h3, h4, h5⟩ | ⟨k1, _⟩
      · omega
      · omega
      · have ht3 := isOp_tight h2
        obtain ⟨n, rfl⟩ : ∃ n', n = n' + 1 := ⟨n - 1, by omega⟩
        by_cases ht1 : tight e.s = 1
        · rw [e1] at h4 h5
          have A := (s_reads w d _ h4).2.1
          have B := (s_reads w d _ h5).2.1
          have hs := tight_one ht1
          rw [wds_two k1 h3, if_neg (by omega), ht1] at hk hn ⊢
          simp only [List.length_append, List.length_cons, List.length_nil] at hn ⊢
          simp only [List.append_assoc, List.cons_append, List.nil_append] at hk
          obtain ⟨m, g2, g3⟩ := A 2 2 (e.s :: (wds (e.kids.getD 1 E0) (1 + 1) ++ rest)) k deep n (by omega) (by omega) (by omega) (eff_kid (e.kids.getD 0 E0) 2 (by omega))
            ⟨by simp only [List.head?_cons, ne_eq, Option.some.injEq]; exact (isOp_not h2).1, fun w hw => by simp only [List.head?_cons, Option.some.injEq] at hw; subst hw; omega⟩ hd hk (by
              simp only [List.length_append, List.length_cons]
              have : max 2 (1 : Int) = 2 := rfl
              rw [this] at hn; omega)
          have e3 : max 2 (1 : Int) = 2 := rfl
          rw [e3] at hk ⊢
          obtain ⟨m, rfl⟩ : ∃ m', m = m' + 1 := ⟨m - 1, by omega⟩
          obtain ⟨q1, q2⟩ := at_drop (drop_app hk)
          rw [sLoop_stop (by rw [q1]; omega)] at g3
          obtain ⟨m2, r1, r2⟩ := B 2 2 rest _ deep n (by omega) (by omega) (by omega) (eff_kid (e.kids.getD 1 E0) 2 (by omega)) ⟨hr.1, fun w hw => by have := hr.2 w hw; omega⟩ hd q2 (by rw [e3] at hn; have : (wds (e.kids.getD 1 E0) 2).length = (wds (e.kids.getD 1 E0) (1 + 1)).length := rfl; omega)
          obtain ⟨m2, rfl⟩ : ∃ m', m2 = m' + 1 := ⟨m2 - 1, by omega⟩
          have hstop : tight (w.getD (k + (wds (e.kids.getD 0 E0) 2).length + 1 + (wds (e.kids.getD 1 E0) 2).length) []) ≠ ((2 : Nat) : Int) :=
            head_tight (P := fun x => x ≠ ((2 : Nat) : Int)) (drop_app q2) (by omega) fun x hx => by have := hr.2 x hx; omega
          rw [sLoop_stop hstop] at r2
          have he : e = .mk 3 0 [60] [e.kids.getD 0 E0, e.kids.getD 1 E0] := by
            rw [← kids_two h3, ← hs, ← h1, ← k1, E.eta]
          simp only [sL1, g3, q1, hs, if_true, r2, ← he]
          exact congrArg (fun x => (e, some x)) (by show k + (wds (e.kids.getD 0 E0) 2).length + 1 + (wds (e.kids.getD 1 E0) 2).length = k + ((wds (e.kids.getD 0 E0) 2).length + (0 + 1) + (wds (e.kids.getD 1 E0) 2).length); omega)
        · -- level 2 or 3
          obtain ⟨t, ht⟩ : ∃ t : Nat, tight e.s = t := ⟨(tight e.s).toNat, by omega⟩
          have h20 : ∃ m, 1 ≤ m ∧ sLp n w k 2 deep = sLoop m w 2 deep e (some (k + (wds e 0).length)) := by
            by_cases h2t : t = 2
            · subst h2t
              obtain ⟨m, r1, r2⟩ := two 0 2 rest k deep n k1 (by omega) ht (by omega) ⟨hr.1, fun w hw => by have := hr.2 w hw; omega⟩ hd hk (by omega)
              exact ⟨m, by omega, r2⟩
            · have h3t : t = 3 := by omega
              subst h3t
              obtain ⟨n, rfl⟩ : ∃ n', n = n' + 1 := ⟨n - 1, by omega⟩
              obtain ⟨m, r1, r2⟩ := two 0 3 rest k deep n k1 (by omega) ht (by omega) ⟨hr.1, fun w hw => by have := hr.2 w hw; omega⟩ hd hk (by omega)
              obtain ⟨m, rfl⟩ : ∃ m', m = m' + 1 := ⟨m - 1, by omega⟩
              refine ⟨n, by omega, ?_⟩
              simp only [sLp]
              rw [if_neg (by omega), r2, sLoop_stop]
              exact head_tight (P := fun x => x ≠ ((3 : Nat) : Int)) (drop_app hk) (by omega) fun x hx => by have := hr.2 x hx; omega
          obtain ⟨m, r1, r2⟩ := h20
          obtain ⟨m, rfl⟩ : ∃ m', m = m' + 1 := ⟨m - 1, by omega⟩
          rw [sLoop_stop (head_tight (P := fun x => x ≠ ((2 : Nat) : Int)) (drop_app hk) (by omega) fun x hx => by have := hr.2 x hx; omega)] at r2
          have hlt : w.getD (k + (wds e 0).length) [] ≠ [60] := fun e60 => by
            have := head_tight (P := fun x => x ≤ 0) (drop_app hk) (by omega) fun x hx => by have := hr.2 x hx; omega
            rw [e60] at this; revert this; decide
          simp only [sL1, r2, hlt, if_false]
      · omega
    have held : ∀ (must : Int) (rest : List Str) (k : Nat) (deep : Int) (n : Nat), must ≤ 4 → eff e must = 4 → ((d + 1 : Nat) : Int) ≤ deep → w.drop k = wds e must ++ rest → 10 * ((wds e must).length + rest.length) + 2 ≤ n →
        ∃ m, rest.length + 1 ≤ m ∧ sAtom n w k deep = sAs m w (k + (wds e must).length) e := by
      intro must rest k deep n hm he hd hk hn
      rcases (form_open h).2 with ⟨k1, h1, h2, h3, h4⟩ | ⟨k1, h1, h2, h3⟩ | ⟨k1, h1, h2, h3, h4, h5⟩ | ⟨k1, h1, h2, h3, h4⟩
      · rw [wds_num k1] at hk hn ⊢
        obtain ⟨n, rfl⟩ : ∃ n', n = n' + 1 := ⟨n - 1, by omega⟩
        obtain ⟨g1, g2, g3⟩ := numOk_dec (n := e.n.toNat) (by omega)
        obtain ⟨q1, q2⟩ := at_drop hk
        refine ⟨n, by simp at hn; omega, ?_⟩
        have : (.mk 1 (numVal (Go.Lib.decDigits e.n.toNat) : Int) [] [] : E) = e := by
          rw [g2, Int.toNat_of_nonneg h1]; conv => rhs; rw [← E.eta e, h3, h4, k1]
        rw [sAtom_num (by rw [q1]; exact g1), q1, this]; rfl
      · rw [wds_name k1] at hk hn ⊢
        obtain ⟨n, rfl⟩ : ∃ n', n = n' + 1 := ⟨n - 1, by omega⟩
        obtain ⟨g1, g2⟩ := isNm_not h2
        obtain ⟨q1, q2⟩ := at_drop hk
        refine ⟨n, by simp at hn; omega, ?_⟩
        have : (.mk 2 0 e.s [] : E) = e := by conv => rhs; rw [← E.eta e, h3, h1, k1]
        rw [sAtom_name (by rw [q1]; exact g2) (by rw [q1]; exact h2), q1, this]; rfl
      · have ht3 := isOp_tight h2
        have hb : tight e.s < must := by
          by_cases hh : tight e.s < must
          · exact hh
          · unfold eff at he; rw [if_pos ⟨k1, hh⟩] at he; omega
        rw [wds_brk k1 h3 hb] at hk hn ⊢
        simp only [List.length_cons, List.length_append, List.length_nil] at hn ⊢
        obtain ⟨n, rfl⟩ : ∃ n', n = n' + 1 := ⟨n - 1, by omega⟩
        rw [List.cons_append, List.append_assoc] at hk
        obtain ⟨q1, q2⟩ := at_drop hk
        have inner := one ([[41]] ++ rest) (k + 1) (deep - 1) n k1 ⟨by simp [wAs], fun w hw => by simp at hw; subst hw; simp [tight]⟩ (by omega) q2 (by simp; omega)
        obtain ⟨q3, q4⟩ := at_drop (drop_app q2)
        refine ⟨n, by omega, ?_⟩
        rw [sAtom_brk q1 (by omega) inner q3]
        congr 1; omega
      · rw [e1] at h4
        have A := (s_reads w d _ h4).1
        have ef : eff (e.kids.getD 0 E0) 4 = 4 := by
          have h1 := eff_kid (e.kids.getD 0 E0) 4 (by omega)
          have h2 := eff_le (must := 4) h4
          omega
        rw [wds_as k1 h3] at hk hn ⊢
        simp only [List.length_cons, List.length_append, List.length_nil] at hn ⊢
        rw [List.append_assoc] at hk
        obtain ⟨m, r1, r2⟩ := A 4 ([[97, 115], e.s] ++ rest) k deep n (by omega) ef (by omega) hk (by simp only [List.length_cons, List.length_append, List.length_nil]; omega)
        simp only [List.length_cons, List.length_append, List.length_nil] at r1
        obtain ⟨m, rfl⟩ : ∃ m', m = m' + 1 := ⟨m - 1, by omega⟩
        obtain ⟨q1, q2⟩ := at_drop (drop_app hk)
        obtain ⟨q3, q4⟩ := at_drop q2
        refine ⟨m, by omega, ?_⟩
        have hE : (.mk 4 0 e.s [e.kids.getD 0 E0] : E) = e := by conv => rhs; rw [← E.eta e, kids_one h3, h1, k1]
        rw [r2]
        simp only [sAs]
        rw [q1, if_pos (by rfl), q3, if_pos h2, hE]; rfl
    refine ⟨held, ?_, fun rest k deep n h1 h2 h3 h4 h5 => one rest k deep n h1 h2 (by omega) h4 h5⟩
    intro must t rest k deep n hm ht1 ht4 ht hr hd hk hn
    have hkk : ∀ j : Nat, t + j ≤ 4 → ((t + j : Nat) : Int) = eff e must → ∃ m, 10 * rest.length + 1 ≤ m ∧ sLp n w k t deep = sLoop m w t deep e (some (k + (wds e must).length)) := by
      intro j
      induction j generalizing t n with
      | zero =>
        intro _ hef
        rcases (form_open h).2 with ⟨k1, _⟩ | ⟨k1, _⟩ | ⟨k1, h1, h2, h3, h4, h5⟩ | ⟨k1, _⟩
        · unfold eff at hef; rw [if_neg (by omega)] at hef; omega
        · unfold eff at hef; rw [if_neg (by omega)] at hef; omega
        · unfold eff at hef
          by_cases hb : tight e.s < must
          · rw [if_neg (by omega)] at hef; omega
          · rw [if_pos ⟨k1, hb⟩] at hef
            exact two must t rest k deep n k1 hb (by omega) ht1 hr (by omega) hk hn
        · unfold eff at hef; rw [if_neg (by omega)] at hef; omega
      | succ j ih =>
        intro h4 hef
        obtain ⟨n, rfl⟩ : ∃ n', n = n' + 1 := ⟨n - 1, by omega⟩
        by_cases h34 : t = 3
        · subst h34
          obtain ⟨n, rfl⟩ : ∃ n', n = n' + 1 := ⟨n - 1, by omega⟩
          obtain ⟨m, q1, q2⟩ := held must rest k deep n hm (by omega) hd hk (by omega)
          obtain ⟨m, rfl⟩ : ∃ m', m = m' + 1 := ⟨m - 1, by omega⟩
          refine ⟨n + 1, by omega, ?_⟩
          have e4 : sLp (n + 1) w k (3 + 1) deep = (e, some (k + (wds e must).length)) := by
            simp only [sLp]; rw [if_pos (by omega), q2, sAs_stop (drop_app hk) hr.1]
          rw [sLp, if_neg (by omega), e4]
        · obtain ⟨m, q1, q2⟩ := ih (t + 1) n (by omega) (by omega) (by omega) ⟨hr.1, fun w hw => by have := hr.2 w hw; omega⟩ (by omega) (by omega) (by omega)
          obtain ⟨m, rfl⟩ : ∃ m', m = m' + 1 := ⟨m - 1, by omega⟩
          refine ⟨n, by omega, ?_⟩
          rw [sLoop_stop (head_tight (P := fun x => x ≠ ((t + 1 : Nat) : Int)) (drop_app hk) (by omega) fun x hx => by have := hr.2 x hx; omega)] at q2
          rw [sLp, if_neg (by omega), q2]
    have heff := eff_le (must := must) h
    exact hkk (eff e must - t).toNat (by omega) (by omega)
theorem s_read {e : E} (h : eok e = true) (hl : (wds e 1).length ≤ 40) {n : Nat} (hn : 410 ≤ n) : sL1 n (wds e 1) 0 5 = (e, some (wds e 1).length) := by
  have A := s_reads (wds e 1) 5 e (eok_form h)
  have hk : (wds e 1).drop 0 = wds e 1 ++ [] := by simp
  obtain ⟨n, rfl⟩ : ∃ n', n = n' + 1 := ⟨n - 1, by omega⟩
  by_cases he : 2 ≤ eff e 1
  · obtain ⟨m, q1, q2⟩ := A.2.1 1 2 [] 0 5 n (by omega) (by omega) (by omega) he ⟨by simp, fun w hw => by simp at hw⟩ (by omega) hk (by simp; omega)
    obtain ⟨m, rfl⟩ : ∃ m', m = m' + 1 := ⟨m - 1, by omega⟩
    rw [sLoop_stop (head_tight (P := fun x => x ≠ ((2 : Nat) : Int)) (drop_app hk) (by omega) fun x hx => by simp at hx)] at q2
    have hlt : (wds e 1).getD (0 + (wds e 1).length) [] ≠ [60] := by rw [at_head (drop_app hk)]; decide
    rw [Nat.zero_add] at q2 hlt
    simp only [sL1, q2, hlt, if_false]
  · have k3 : e.kind = 3 ∧ ¬ tight e.s < 1 := by unfold eff at he; by_cases hh : e.kind = 3 ∧ ¬ tight e.s < 1; exact hh; rw [if_neg hh] at he; omega
    have := A.2.2 [] 0 5 (n + 1) k3.1 ⟨by simp, fun w hw => by simp at hw⟩ (by omega) (by rw [wds_one (eok_form h)]; exact hk) (by rw [wds_one (eok_form h)]; simp; omega)
    rw [wds_one (eok_form h)] at this; rw [this]; simp
end

section
def marks : Str := [43, 45, 42, 60, 40, 41, 58, 61]
def isMark (s : Str) : Bool := s.length == 1 && marks.contains (s.headD 0)
def tkKind (s : Str) : Int := if isWord s then 1 else if numOk s then 2 else if isMark s then 3 else 0
structure Tk where
  kind : Int
  s : Str
  col : Int
def wlen (l : Str) : Nat := max 1 (max (l.takeWhile lower).length (l.takeWhile digit).length)
def toks : Nat → Str → Int → Option (List Tk)
  | 0, _, _ => some []
  | _ + 1, [], _ => some []
  | n + 1, c :: l, col =>
    if c = 32 then toks n l (col + 1)
    else if tkKind ((c :: l).take (wlen (c :: l))) = 0 then none
    else (toks n ((c :: l).drop (wlen (c :: l))) (col + wlen (c :: l))).map (⟨tkKind ((c :: l).take (wlen (c :: l))), (c :: l).take (wlen (c :: l)), col⟩ :: ·)
def tokLine (l : Str) : Option (List Tk) := if 120 < l.length then none else toks l.length l 0
theorem wlen_pos (l : Str) : 1 ≤ wlen l := by unfold wlen; omega
theorem tw_le (p : UInt8 → Bool) (l : Str) : (l.takeWhile p).length ≤ l.length := (List.takeWhile_prefix p).length_le
theorem wlen_le {l : Str} (h : l ≠ []) : wlen l ≤ l.length := by
  have h1 := tw_le lower l
  have h2 := tw_le digit l
  have h3 := List.length_pos_iff.2 h
  unfold wlen; omega
theorem toks_fuel : ∀ (n m : Nat) (l : Str) (col : Int), l.length ≤ n → l.length ≤ m → toks n l col = toks m l col
  | 0, m, l, col, hn, hm => by
    have : l = [] := List.eq_nil_of_length_eq_zero (by omega)
    subst this
    cases m <;> rfl
  | n + 1, 0, l, col, hn, hm => by
    have : l = [] := List.eq_nil_of_length_eq_zero (by omega)
    subst this
    rfl
  | n + 1, m + 1, [], col, _, _ => rfl
  | n + 1, m + 1, c :: l, col, hn, hm => by
    simp only [List.length_cons] at hn hm
    have h1 := wlen_pos (c :: l)
    simp only [toks]
    rw [toks_fuel n m l (col + 1) (by omega) (by omega), toks_fuel n m ((c :: l).drop (wlen (c :: l))) _ (by simp; omega) (by simp; omega)]
theorem toks_cons (c : UInt8) (l : Str) (col : Int) : toks (c :: l).length (c :: l) col =
    if c = 32 then toks l.length l (col + 1)
    else if tkKind ((c :: l).take (wlen (c :: l))) = 0 then none
    else (toks ((c :: l).drop (wlen (c :: l))).length ((c :: l).drop (wlen (c :: l))) (col + wlen (c :: l))).map (⟨tkKind ((c :: l).take (wlen (c :: l))), (c :: l).take (wlen (c :: l)), col⟩ :: ·) := by
  have h1 := wlen_pos (c :: l)
  have h2 := toks_fuel l.length ((c :: l).drop (wlen (c :: l))).length ((c :: l).drop (wlen (c :: l))) (col + wlen (c :: l)) (by simp; omega) (Nat.le_refl _)
  simp only [List.length_cons, toks]
  rw [h2]
def tkOf : Int → List Str → List Tk
  | _, [] => []
  | c, w :: r => ⟨tkKind w, w, c⟩ :: tkOf (c + w.length + 1) r
theorem tkOf_s : ∀ (c : Int) (l : List Str), (tkOf c l).map (·.s) = l
  | _, [] => rfl
  | c, w :: r => by simp only [tkOf, List.map_cons, tkOf_s]
def wordy (w : Str) : Prop := tkKind w ≠ 0
theorem tw_app {p : UInt8 → Bool} {w r : Str} (h : w.all p = true) (hr : ∀ c, r.head? = some c → p c = false) : (w ++ r).takeWhile p = w := by
  induction w with
  | nil =>
    cases r with
    | nil => rfl
    | cons c r => simp [List.takeWhile, hr c rfl]
  | cons c w ih =>
    simp only [List.all_cons, Bool.and_eq_true] at h
    simp [List.takeWhile, h.1, ih h.2]
theorem tw_not {p : UInt8 → Bool} {c : UInt8} {l : Str} (h : p c = false) : (c :: l).takeWhile p = [] := by simp [List.takeWhile, h]
theorem lower_not_digit {c : UInt8} (h : lower c = true) : digit c = false := by
  rw [Bool.eq_false_iff]; intro h2
  simp only [lower, digit, Bool.and_eq_true, decide_eq_true_eq] at h h2; omega
theorem digit_not_lower {c : UInt8} (h : digit c = true) : lower c = false := by
  rw [Bool.eq_false_iff]; intro h2
  simp only [lower, digit, Bool.and_eq_true, decide_eq_true_eq] at h h2; omega
theorem wordy_open {w : Str} (h : wordy w) : (w ≠ [] ∧ w.all lower = true) ∨ (w ≠ [] ∧ w.all digit = true) ∨ (∃ c, w = [c] ∧ lower c = false ∧ digit c = false ∧ c ≠ 32) := by
  unfold wordy tkKind at h
  by_cases h1 : isWord w = true
  · left
    simp only [isWord, Bool.and_eq_true, decide_eq_true_eq] at h1
    exact ⟨fun e => by subst e; simp at h1, h1.1.1⟩
  rw [if_neg h1] at h
  by_cases h2 : numOk w = true
  · right; left
    obtain ⟨n, hn, rfl⟩ := numOk_iff.1 h2
    exact ⟨decDigits_ne n, List.all_eq_true.2 fun c hc => (digit_iff c).2 (decDigits_dig n c hc)⟩
  rw [if_neg h2] at h
  by_cases h3 : isMark w = true
  · right; right
    simp only [isMark, Bool.and_eq_true, beq_iff_eq] at h3
    match w, h3 with
    | [c], h3 =>
      have h4 := h3.2
      refine ⟨c, rfl, ?_⟩
      simp [marks] at h4
      rcases h4 with h4 | h4 | h4 | h4 | h4 | h4 | h4 | h4 <;> subst h4 <;> decide
  · rw [if_neg h3] at h; exact absurd rfl h
theorem wordy_ne {w : Str} (h : wordy w) : w ≠ [] := by
  rcases wordy_open h with h | h | ⟨c, rfl, _⟩
  · exact h.1
  · exact h.1
  · simp
theorem wordy_head {c : UInt8} {w : Str} (h : wordy (c :: w)) : c ≠ 32 := by
  rcases wordy_open h with h | h | ⟨d, e, h1, h2, h3⟩
  · intro e; subst e; have := h.2; simp [lower] at this
  · intro e; subst e; have := h.2; simp [digit] at this
  · injection e with e1 e2; subst e1; exact h3
theorem wlen_word {w r : Str} (h : wordy w) (hr : r = [] ∨ ∃ r', r = 32 :: r') : wlen (w ++ r) = w.length := by
  have hl : ∀ c, r.head? = some c → lower c = false := fun c hc => by
    rcases hr with rfl | ⟨r', rfl⟩
    · simp at hc
    · simp at hc; subst hc; decide
  have hd : ∀ c, r.head? = some c → digit c = false := fun c hc => by
    rcases hr with rfl | ⟨r', rfl⟩
    · simp at hc
    · simp at hc; subst hc; decide
  unfold wlen
  rcases wordy_open h with h | h | ⟨c, rfl, h1, h2, h3⟩
  · rw [tw_app h.2 hl]
    cases w with
    | nil => exact absurd rfl h.1
    | cons c w =>
      have := h.2
      simp only [List.all_cons, Bool.and_eq_true] at this
      rw [List.cons_append, tw_not (lower_not_digit this.1)]; simp
  · rw [tw_app h.2 hd]
    cases w with
    | nil => exact absurd rfl h.1
    | cons c w =>
      have := h.2
      simp only [List.all_cons, Bool.and_eq_true] at this
      rw [List.cons_append, tw_not (digit_not_lower this.1)]; simp
  · rw [List.cons_append, tw_not h1, tw_not h2]; rfl
theorem toks_words : ∀ (l : List Str) (col : Int), (∀ w ∈ l, wordy w) → toks (tokText l).length (tokText l) col = some (tkOf col l)
  | [], col, _ => rfl
  | [w], col, h => by
    have hw := h w (by simp)
    rw [tokText_one]
    have hl := wlen_word (r := []) hw (.inl rfl)
    rw [List.append_nil] at hl
    cases hc : w with
    | nil => exact absurd hc (wordy_ne hw)
    | cons c v =>
      rw [← hc, show w.length = (c :: v).length by rw [hc], hc, toks_cons, ← hc, hl]
      have : c ≠ 32 := wordy_head (by rw [← hc]; exact hw)
      rw [if_neg this, List.take_length, if_neg hw, List.drop_length]
      rfl
  | w :: x :: l, col, h => by
    have hw := h w (by simp)
    have ih := toks_words (x :: l) (col + w.length + 1) (fun y hy => h y (by simp [hy]))
    rw [tokText_cons]
    have hl := wlen_word (r := 32 :: tokText (x :: l)) hw (.inr ⟨_, rfl⟩)
    cases hc : w with
    | nil => exact absurd hc (wordy_ne hw)
    | cons c v =>
      have h32 : c ≠ 32 := wordy_head (by rw [← hc]; exact hw)
      have e1 : c :: v ++ 32 :: tokText (x :: l) = c :: (v ++ 32 :: tokText (x :: l)) := rfl
      have e2 : c :: (v ++ 32 :: tokText (x :: l)) = w ++ 32 :: tokText (x :: l) := by rw [hc]; rfl
      rw [e1, toks_cons, if_neg h32, e2, hl, List.take_left, List.drop_left, if_neg hw, toks_cons, if_pos rfl, ih, ← hc]
      rfl
theorem tokLine_words {l : List Str} (h : ∀ w ∈ l, wordy w) (hl : (tokText l).length ≤ 120) : tokLine (tokText l) = some (tkOf 0 l) := by
  unfold tokLine; rw [if_neg (by omega)]; exact toks_words l 0 h
theorem wordy_nm {s : Str} (h : isNm s = true) : wordy s := by
  simp only [isNm, Bool.and_eq_true] at h
  unfold wordy tkKind; rw [if_pos h.1]; decide
theorem wordy_num {n : Nat} (h : n ≤ 1000000) : wordy (Go.Lib.decDigits n) := by
  unfold wordy tkKind
  split
  · decide
  · rw [if_pos (numOk_dec h).1]; decide
theorem wordy_mark {s : Str} (h : isMark s = true) : wordy s := by
  unfold wordy tkKind
  split
  · decide
  · split
    · decide
    · try rw [if_pos h]
      decide
theorem wordy_word {s : Str} (h : isWord s = true) : wordy s := by unfold wordy tkKind; rw [if_pos h]; decide
theorem wordy_op {s : Str} (h : isOp s = true) : wordy s := by
  simp only [isOp, Bool.or_eq_true, beq_iff_eq] at h; rcases h with ((h | h) | h) | h <;> subst h <;> exact wordy_mark (by decide)
theorem wordy_typ {s : Str} (h : isTyp s = true) : wordy s := by
  simp only [isTyp, Bool.or_eq_true, beq_iff_eq] at h; rcases h with h | h <;> subst h <;> exact wordy_word (by decide)
theorem wordy_wds : ∀ (d : Nat) (e : E) (must : Int), form e d = true → ∀ s ∈ wds e must, wordy s
  | 0, e, must, h => by have := (form_open h).1; omega
  | d + 1, e, must, h => by
    have e1 : ((d + 1 : Nat) : Int) - 1 = (d : Int) := by omega
    intro s hs
    rcases (form_open h).2 with ⟨k1, h1, h2, h3, h4⟩ | ⟨k1, h1, h2, h3⟩ | ⟨k1, h1, h2, h3, h4, h5⟩ | ⟨k1, h1, h2, h3, h4⟩
    · rw [wds_num k1] at hs; simp at hs; subst hs; exact wordy_num (by omega)
    · rw [wds_name k1] at hs; simp at hs; subst hs; exact wordy_nm h2
    · rw [e1] at h4 h5
      rw [wds_two k1 h3] at hs
      have A := wordy_wds d _ (max 2 (tight e.s)) h4
      have B := wordy_wds d _ (tight e.s + 1) h5
      have key : s ∈ wds (e.kids.getD 0 E0) (max 2 (tight e.s)) ++ [e.s] ++ wds (e.kids.getD 1 E0) (tight e.s + 1) → wordy s := fun hs => by
        simp only [List.mem_append, List.mem_singleton] at hs
        rcases hs with (hs | hs) | hs
        · exact A s hs
        · rw [hs]; exact wordy_op h2
        · exact B s hs
      split at hs
      · rcases List.mem_append.1 hs with hs | hs
        · rcases List.mem_append.1 hs with hs | hs
          · simp at hs; subst hs; exact wordy_mark (by decide)
          · exact key hs
        · simp at hs; subst hs; exact wordy_mark (by decide)
      · exact key hs
    · rw [e1] at h4
      rw [wds_as k1 h3] at hs
      simp only [List.mem_append, List.mem_cons, List.not_mem_nil, or_false] at hs
      rcases hs with hs | hs | hs
      · exact wordy_wds d _ 4 h4 s hs
      · subst hs; exact wordy_word (by decide)
      · subst hs; exact wordy_typ h2
end

section
def exprR (w : List Str) : Option E :=
  if w.length ≤ 40 then
    (if ((iLev 500 1 ⟨w, false, 0⟩).2.bad || !(iLev 500 1 ⟨w, false, 0⟩).2.left.isEmpty || !eok (iLev 500 1 ⟨w, false, 0⟩).1 || !(wds (iLev 500 1 ⟨w, false, 0⟩).1 1 == w)) then none else some (iLev 500 1 ⟨w, false, 0⟩).1)
  else none
def exprR2 (w : List Str) : Option E :=
  if w.length ≤ 40 then
    (if (!((sL1 500 w 0 5).2 == some w.length) || !eok (sL1 500 w 0 5).1 || !(wds (sL1 500 w 0 5).1 1 == w)) then none else some (sL1 500 w 0 5).1)
  else none
theorem exprR_iff {w : List Str} {e : E} : exprR w = some e ↔ eok e = true ∧ wds e 1 = w := by
  unfold exprR
  constructor
  · intro h
    split at h
    · split at h
      · cases h
      · rename_i hh
        simp only [Option.some.injEq] at h
        subst h
        simp only [Bool.or_eq_true, Bool.not_eq_true', not_or, Bool.not_eq_true, Bool.not_eq_false, beq_eq_false_iff_ne, ne_eq, Decidable.not_not] at hh
        exact ⟨hh.1.2, hh.2⟩
    · cases h
  · rintro ⟨h1, rfl⟩
    have := (eok_wds h1 1).2.1
    obtain ⟨d, hd⟩ := i_read h1 (by omega) (n := 500) (by omega)
    rw [if_pos (by omega), hd]
    simp [h1]
theorem exprR2_iff {w : List Str} {e : E} : exprR2 w = some e ↔ eok e = true ∧ wds e 1 = w := by
  unfold exprR2
  constructor
  · intro h
    split at h
    · split at h
      · cases h
      · rename_i hh
        simp only [Option.some.injEq] at h
        subst h
        simp only [Bool.or_eq_true, Bool.not_eq_true', not_or, Bool.not_eq_true, Bool.not_eq_false, beq_eq_false_iff_ne, ne_eq, Decidable.not_not] at hh
        exact ⟨hh.1.2, hh.2⟩
    · cases h
  · rintro ⟨h1, rfl⟩
    have := (eok_wds h1 1).2.1
    have hd := s_read h1 (by omega) (n := 500) (by omega)
    rw [if_pos (by omega), hd]
    simp [h1]
theorem exprR_eq (w : List Str) : exprR w = exprR2 w := by
  cases h : exprR2 w with
  | some e => rw [exprR_iff, ← exprR2_iff, h]
  | none =>
    cases h2 : exprR w with
    | none => rfl
    | some e => rw [exprR_iff, ← exprR2_iff, h] at h2; cases h2
theorem wds_not : ∀ (d : Nat) (e : E) (must : Int), form e d = true → ∀ s ∈ wds e must, s ≠ wSay ∧ s ≠ wCol ∧ s ≠ wPrint ∧ s ≠ wIf ∧ s ≠ wWhen ∧ s ≠ wLet ∧ s ≠ wEq
  | 0, e, must, h => by have := (form_open h).1; omega
  | d + 1, e, must, h => by
    have e1 : ((d + 1 : Nat) : Int) - 1 = (d : Int) := by omega
    intro s hs
    rcases (form_open h).2 with ⟨k1, h1, h2, h3, h4⟩ | ⟨k1, h1, h2, h3⟩ | ⟨k1, h1, h2, h3, h4, h5⟩ | ⟨k1, h1, h2, h3, h4⟩
    · rw [wds_num k1] at hs; simp at hs; subst hs
      have hd := decDigits_dig e.n.toNat
      have hne := decDigits_ne e.n.toNat
      have key : ∀ c r, ¬ isDig c → Go.Lib.decDigits e.n.toNat ≠ c :: r := fun c r hc he => hc (hd c (by rw [he]; simp))
      refine ⟨key _ _ ?_, key _ _ ?_, key _ _ ?_, key _ _ ?_, key _ _ ?_, key _ _ ?_, key _ _ ?_⟩ <;> unfold isDig <;> decide
    · rw [wds_name k1] at hs; simp at hs; subst hs
      simp only [isNm, held, Bool.and_eq_true, Bool.not_eq_true', Bool.or_eq_false_iff, beq_eq_false_iff_ne, ne_eq] at h2
      obtain ⟨hw, hh⟩ := h2
      refine ⟨fun e => hh.1.1.1.1.1.2 e, fun e => ?_, fun e => hh.1.1.2 e, fun e => hh.1.2 e, fun e => hh.1.1.1.1.2 e, fun e => hh.1.1.1.1.1.1 e, fun e => ?_⟩ <;> rw [e] at hw <;> exact absurd hw (by decide)
    · rw [e1] at h4 h5
      rw [wds_two k1 h3] at hs
      have A := wds_not d _ (max 2 (tight e.s)) h4
      have B := wds_not d _ (tight e.s + 1) h5
      have key : s ∈ wds (e.kids.getD 0 E0) (max 2 (tight e.s)) ++ [e.s] ++ wds (e.kids.getD 1 E0) (tight e.s + 1) → s ≠ wSay ∧ s ≠ wCol ∧ s ≠ wPrint ∧ s ≠ wIf ∧ s ≠ wWhen ∧ s ≠ wLet ∧ s ≠ wEq := fun hs => by
        simp only [List.mem_append, List.mem_singleton] at hs
        rcases hs with (hs | hs) | hs
        · exact A s hs
        · rw [hs]
          simp only [isOp, Bool.or_eq_true, beq_iff_eq] at h2; rcases h2 with ((h | h) | h) | h <;> rw [h] <;> decide
        · exact B s hs
      split at hs
      · rcases List.mem_append.1 hs with hs | hs
        · rcases List.mem_append.1 hs with hs | hs
          · simp at hs; subst hs; decide
          · exact key hs
        · simp at hs; subst hs; decide
      · exact key hs
    · rw [e1] at h4
      rw [wds_as k1 h3] at hs
      simp only [List.mem_append, List.mem_cons, List.not_mem_nil, or_false] at hs
      rcases hs with hs | hs | hs
      · exact wds_not d _ 4 h4 s hs
      · subst hs; decide
      · subst hs; simp only [isTyp, Bool.or_eq_true, beq_iff_eq] at h2; rcases h2 with h | h <;> rw [h] <;> decide
theorem sidx_mid {a b : List Str} {s : Str} (h : ∀ x ∈ a, x ≠ s) : sidx (a ++ s :: b) s = a.length := by
  unfold sidx
  rw [if_pos (by simp), List.idxOf_append, if_neg (fun hm => h s hm rfl)]
  simp
def ex (w : List Str) : E := (exprR w).getD E0
theorem ex_wds {e : E} (h : eok e = true) : ex (wds e 1) = e := by unfold ex; rw [exprR_iff.2 ⟨h, rfl⟩]; rfl
def btext (b : Bl) : Str := tokText (bw b)
theorem bok_open {s : Bl} (h : bok s = true) : (tokText (bw s)).length ≤ 120 ∧
    (s = B0 ∨ (s.kind = 1 ∧ isNm s.name = true ∧ pe s.expr = true ∧ s.thn = E0) ∨ (s.kind = 2 ∧ s.name = [] ∧ pe s.expr = true ∧ s.thn = E0) ∨ (s.kind = 3 ∧ s.name = [] ∧ pe s.expr = true ∧ pe s.thn = true)) := by
  simp only [bok, Bool.and_eq_true, decide_eq_true_eq] at h
  refine ⟨h.2, ?_⟩
  have h := h.1
  unfold bok0 at h
  by_cases k0 : s.kind = 0
  · simp [k0, none0_iff] at h
    left; cases s; simp_all [B0]
  by_cases k1 : s.kind = 1
  · simp [k1, none0_iff] at h; exact .inr (.inl ⟨k1, h.1.1, h.1.2, h.2⟩)
  by_cases k2 : s.kind = 2
  · simp [k2, none0_iff] at h; exact .inr (.inr (.inl ⟨k2, h.1.1, h.1.2, h.2⟩))
  by_cases k3 : s.kind = 3
  · simp [k3] at h; exact .inr (.inr (.inr ⟨k3, h.1.1, h.1.2, h.2⟩))
  · simp [k0, k1, k2, k3] at h
theorem wordy_col : wordy wCol := wordy_mark (by decide)
theorem wordy_eq : wordy wEq := wordy_mark (by decide)
theorem wordy_bw {s : Bl} (h : bok s = true) : ∀ w ∈ bw s, wordy w := by
  obtain ⟨_, h | ⟨k, h1, h3, h4⟩ | ⟨k, h1, h3, h4⟩ | ⟨k, h1, h3, h4⟩⟩ := bok_open h
  · subst h; intro w hw; simp [bw, B0] at hw
  · intro w hw
    simp only [bw, k, if_true, List.mem_cons] at hw
    rcases hw with rfl | rfl | hw
    · exact wordy_nm h1
    · exact wordy_eq
    · exact wordy_wds 5 _ 1 (eok_form (pe_eok h3)) w hw
  · intro w hw
    simp only [bw, k, show ¬ (2 : Int) = 1 by omega, if_false, if_true, List.mem_cons] at hw
    rcases hw with rfl | hw
    · exact wordy_word (by decide)
    · exact wordy_wds 5 _ 1 (eok_form (pe_eok h3)) w hw
  · intro w hw
    simp only [bw, k, show ¬ (3 : Int) = 1 by omega, show ¬ (3 : Int) = 2 by omega, if_false, if_true, List.mem_cons, List.mem_append] at hw
    rcases hw with (rfl | hw) | rfl | rfl | hw
    · exact wordy_word (by decide)
    · exact wordy_wds 5 _ 1 (eok_form (pe_eok h3)) w hw
    · exact wordy_col
    · exact wordy_word (by decide)
    · exact wordy_wds 5 _ 1 (eok_form (pe_eok h4)) w hw
theorem tok_btext {s : Bl} (h : bok s = true) : tokLine (btext s) = some (tkOf 0 (bw s)) := tokLine_words (wordy_bw h) (bok_open h).1
theorem sidx_if {e : E} {d : Nat} {r : List Str} (h : form e d = true) (must : Int) : sidx (wIf :: wds e must ++ wCol :: r) wCol = (wds e must).length + 1 := by
  rw [sidx_mid]
  · simp
  · intro x hx
    rcases List.mem_cons.1 hx with rfl | hx
    · decide
    · exact (wds_not d e must h x hx).2.1
theorem exR_some {e : E} (h : eok e = true) : exprR (wds e 1) = some e := exprR_iff.2 ⟨h, rfl⟩
theorem cut1 {a : Str} {l r : List Str} {x : Str} : ((a :: l ++ x :: r).take (l.length + 1)).drop 1 = l := by simp
theorem cut3 {a : Str} {l r : List Str} {x y : Str} : (a :: l ++ x :: y :: r).drop (l.length + 1 + 2) = r := by simp [List.drop_append]
theorem opt_ext {α : Type} {x y : Option α} (h : ∀ a, x = some a ↔ y = some a) : x = y := by
  cases x with
  | some a => exact ((h a).1 rfl).symm
  | none =>
    cases y with
    | none => rfl
    | some b => exact (h b).2 rfl
def prdB (w : List Str) : Bl :=
  if 0 < w.length ∧ w.getD 0 [] = wPrint then ⟨2, [], ex (w.drop 1), E0⟩
  else if 0 < w.length ∧ w.getD 0 [] = wIf then
    (if 0 < sidx w wCol ∧ sidx w wCol + 2 ≤ w.length then ⟨3, [], ex ((w.take (sidx w wCol).toNat).drop 1), ex (w.drop ((sidx w wCol).toNat + 2))⟩ else ⟨3, [], E0, E0⟩)
  else if 2 < w.length then ⟨1, w.getD 0 [], ex (w.drop 2), E0⟩
  else B0
def bareR (line : Str) : Option Bl :=
  match tokLine line with
  | none => none
  | some ts => if bok (prdB (ts.map (·.s))) = true ∧ btext (prdB (ts.map (·.s))) = line then some (prdB (ts.map (·.s))) else none
def rdB2 (w : List Str) : Bl × Bool :=
  if w.length = 0 then (B0, true)
  else if w.getD 0 [] = wPrint then (⟨2, [], ex (w.drop 1), E0⟩, (exprR (w.drop 1)).isSome)
  else if w.getD 0 [] = wIf ∧ 0 < sidx w wCol ∧ w.getD ((sidx w wCol).toNat + 1) [] = wPrint then
    (⟨3, [], ex ((w.take (sidx w wCol).toNat).drop 1), ex (w.drop ((sidx w wCol).toNat + 2))⟩, (exprR ((w.take (sidx w wCol).toNat).drop 1)).isSome && (exprR (w.drop ((sidx w wCol).toNat + 2))).isSome)
  else if w.getD 1 [] = wEq then (⟨1, w.getD 0 [], ex (w.drop 2), E0⟩, (exprR (w.drop 2)).isSome)
  else (B0, false)
def bareR2 (line : Str) : Option Bl :=
  match tokLine line with
  | none => none
  | some ts => if (rdB2 (ts.map (·.s))).2 = true ∧ bok (rdB2 (ts.map (·.s))).1 = true ∧ btext (rdB2 (ts.map (·.s))).1 = line then some (rdB2 (ts.map (·.s))).1 else none
theorem nm_held {s : Str} (h : isNm s = true) : s ≠ wPrint ∧ s ≠ wIf ∧ s ≠ wSay ∧ s ≠ wLet ∧ s ≠ wWhen := by
  simp only [isNm, held, Bool.and_eq_true, Bool.not_eq_true', Bool.or_eq_false_iff, beq_eq_false_iff_ne, ne_eq] at h
  obtain ⟨_, hh⟩ := h
  exact ⟨fun e => hh.1.1.2 e, fun e => hh.1.2 e, fun e => hh.1.1.1.1.1.2 e, fun e => hh.1.1.1.1.1.1 e, fun e => hh.1.1.1.1.2 e⟩
theorem prdB_bw {s : Bl} (h : bok s = true) : prdB (bw s) = s := by
  obtain ⟨_, h | ⟨k, h1, h3, h4⟩ | ⟨k, h1, h3, h4⟩ | ⟨k, h1, h3, h4⟩⟩ := bok_open h
  · subst h; rfl
  · have hw : bw s = s.name :: wEq :: wds s.expr 1 := by simp only [bw, k, if_true]
    have := (eok_wds (pe_eok h3) 1).1
    have hh := nm_held h1
    rw [hw, prdB, if_neg (fun h => hh.1 h.2), if_neg (fun h => hh.2.1 h.2), if_pos (by simp; omega)]
    simp only [List.getD_cons_succ, List.getD_cons_zero, List.drop_succ_cons, List.drop_zero, ex_wds (pe_eok h3)]
    cases s; simp_all
  · have hw : bw s = wPrint :: wds s.expr 1 := by simp [bw, k]
    rw [hw, prdB, if_pos ⟨by simp, rfl⟩]
    simp only [List.drop_succ_cons, List.drop_zero, ex_wds (pe_eok h3)]
    cases s; simp_all
  · have hw : bw s = wIf :: wds s.expr 1 ++ wCol :: wPrint :: wds s.thn 1 := by simp [bw, k]
    rw [hw, prdB, if_neg (fun hh => absurd (show wIf = wPrint from hh.2) (by decide)), if_pos ⟨by simp, rfl⟩, sidx_if (eok_form (pe_eok h3)) 1, if_pos ⟨by omega, by simp; omega⟩,
      show ((wds s.expr 1).length + 1 : Int).toNat = (wds s.expr 1).length + 1 by omega, cut1, cut3, ex_wds (pe_eok h3), ex_wds (pe_eok h4)]
    cases s; simp_all
theorem getD_mid {a : Str} {l r : List Str} {x y : Str} : (a :: l ++ x :: y :: r).getD (l.length + 1 + 1) [] = y := by
  simp [List.getD_eq_getElem?_getD]
theorem rdB2_bw {s : Bl} (h : bok s = true) : rdB2 (bw s) = (s, true) := by
  obtain ⟨_, h | ⟨k, h1, h3, h4⟩ | ⟨k, h1, h3, h4⟩ | ⟨k, h1, h3, h4⟩⟩ := bok_open h
  · subst h; rfl
  · have hw : bw s = s.name :: wEq :: wds s.expr 1 := by simp only [bw, k, if_true]
    have hh := nm_held h1
    rw [hw, rdB2, if_neg (by simp), if_neg (show ¬ (s.name :: wEq :: wds s.expr 1).getD 0 [] = wPrint from hh.1), if_neg (fun h => hh.2.1 h.1), if_pos (show (s.name :: wEq :: wds s.expr 1).getD 1 [] = wEq from rfl)]
    simp only [List.getD_cons_succ, List.getD_cons_zero, List.drop_succ_cons, List.drop_zero, ex_wds (pe_eok h3), exR_some (pe_eok h3)]
    cases s; simp_all
  · have hw : bw s = wPrint :: wds s.expr 1 := by simp [bw, k]
    rw [hw, rdB2, if_neg (by simp), if_pos (show (wPrint :: wds s.expr 1).getD 0 [] = wPrint from rfl)]
    simp only [List.drop_succ_cons, List.drop_zero, ex_wds (pe_eok h3), exR_some (pe_eok h3)]
    cases s; simp_all
  · have hw : bw s = wIf :: wds s.expr 1 ++ wCol :: wPrint :: wds s.thn 1 := by simp [bw, k]
    rw [hw, rdB2, if_neg (by simp), if_neg (show ¬ (wIf :: wds s.expr 1 ++ wCol :: wPrint :: wds s.thn 1).getD 0 [] = wPrint from fun hh => absurd (show wIf = wPrint from hh) (by decide)), sidx_if (eok_form (pe_eok h3)) 1,
      show ((wds s.expr 1).length + 1 : Int).toNat = (wds s.expr 1).length + 1 by omega, if_pos ⟨rfl, by omega, getD_mid⟩, cut1, cut3, ex_wds (pe_eok h3), ex_wds (pe_eok h4), exR_some (pe_eok h3), exR_some (pe_eok h4)]
    cases s; simp_all
theorem bareR_iff {line : Str} {s : Bl} : bareR line = some s ↔ bok s = true ∧ btext s = line := by
  unfold bareR
  constructor
  · intro h
    split at h
    · cases h
    · split at h
      · rename_i hh; cases h; exact hh
      · cases h
  · rintro ⟨h1, rfl⟩
    rw [tok_btext h1]
    simp only [tkOf_s, prdB_bw h1, h1, and_self, if_true]
theorem bareR2_iff {line : Str} {s : Bl} : bareR2 line = some s ↔ bok s = true ∧ btext s = line := by
  unfold bareR2
  constructor
  · intro h
    split at h
    · cases h
    · split at h
      · rename_i hh; cases h; exact hh.2
      · cases h
  · rintro ⟨h1, rfl⟩
    rw [tok_btext h1]
    simp only [tkOf_s, rdB2_bw h1, h1, and_self, if_true]
theorem bareR_eq (line : Str) : bareR line = bareR2 line := opt_ext fun s => by rw [bareR_iff, bareR2_iff]
end

section
mutual
theorem form_mono : ∀ (e : E) (d k : Nat), form e d = true → form e ((d + k : Nat) : Int) = true ∧ many e ((d + k : Nat) : Int) = many e d
  | .mk kd n s kids, d, k, h => by
    have hd : 1 ≤ d := by have := (form_open h).1; omega
    obtain ⟨d, rfl⟩ : ∃ d', d = d' + 1 := ⟨d - 1, by omega⟩
    have e1 : ((d + 1 : Nat) : Int) - 1 = (d : Int) := by omega
    have e2 : ((d + 1 + k : Nat) : Int) - 1 = ((d + k : Nat) : Int) := by omega
    simp only [form, Bool.and_eq_true, decide_eq_true_eq] at h ⊢
    rw [e1] at h
    have := forms_mono kids d k h.2
    rw [e2]
    refine ⟨⟨⟨by omega, h.1.2⟩, this.1⟩, ?_⟩
    simp only [many]
    rw [if_pos (by omega), if_pos (by omega), e1, e2, this.2]
theorem forms_mono : ∀ (l : List E) (d k : Nat), forms l d = true → forms l ((d + k : Nat) : Int) = true ∧ manys l ((d + k : Nat) : Int) = manys l d
  | [], d, k, _ => by simp [forms, manys]
  | e :: r, d, k, h => by
    simp only [forms, Bool.and_eq_true] at h ⊢
    have h1 := form_mono e d k h.1
    have h2 := forms_mono r d k h.2
    simp only [manys]
    exact ⟨⟨h1.1, h2.1⟩, by rw [h1.2, h2.2]⟩
end
def wid (l : List Str) : Nat := (l.map fun s => s.length + 1).sum
theorem wid_cons (s : Str) (l : List Str) : wid (s :: l) = s.length + 1 + wid l := rfl
theorem wid_app (a b : List Str) : wid (a ++ b) = wid a + wid b := by simp [wid, List.sum_append]
def offW (w : Str) : Prop := w ≠ wAs ∧ w ≠ [105, 110, 116] ∧ w ≠ [98, 111, 111, 108] ∧ w ≠ wLet ∧ w ≠ wSay ∧ w ≠ wWhen
instance (w : Str) : Decidable (offW w) := by unfold offW; exact inferInstance
end

section
def shf (k : Int) (l : Wd) : Wd := l.map fun p => if 0 ≤ p.2 then (p.1, p.2 + k) else p
def Trc (L : Wd) : Wd → Wd → Prop
  | [], [] => True
  | w :: B, c :: C => c.1 = w.1 ∧ ((w.2 = -1 ∧ c.2 = -1) ∨ (0 ≤ w.2 ∧ 0 ≤ c.2 ∧ L[c.2.toNat]? = some w)) ∧ Trc L B C
  | _, _ => False
theorem Trc.app {L : Wd} : ∀ {B C B' C' : Wd}, Trc L B C → Trc L B' C' → Trc L (B ++ B') (C ++ C')
  | [], [], _, _, _, h => h
  | [], _ :: _, _, _, h, _ => by simp [Trc] at h
  | _ :: _, [], _, _, h, _ => by simp [Trc] at h
  | w :: B, c :: C, B', C', h, k => by
    simp only [Trc] at h
    simp only [List.cons_append, Trc]
    exact ⟨h.1, h.2.1, h.2.2.app k⟩
theorem Trc.shf {L P : Wd} : ∀ {B C : Wd}, Trc L B C → Trc (P ++ L) B (Go.Proofs.YteihfmnmpdbkiaaGreatDoor.shf P.length C)
  | [], [], _ => by simp [Go.Proofs.YteihfmnmpdbkiaaGreatDoor.shf, Trc]
  | [], _ :: _, h => by simp [Trc] at h
  | _ :: _, [], h => by simp [Trc] at h
  | w :: B, c :: C, h => by
    simp only [Trc] at h
    have ih := h.2.2.shf (P := P)
    simp only [Go.Proofs.YteihfmnmpdbkiaaGreatDoor.shf, List.map_cons, Trc] at ih ⊢
    rcases h.2.1 with ⟨h1, h2⟩ | ⟨h1, h2, h3⟩
    · rw [if_neg (by omega)]; exact ⟨h.1, .inl ⟨h1, h2⟩, ih⟩
    · rw [if_pos h2]
      refine ⟨h.1, .inr ⟨h1, by dsimp only; omega, ?_⟩, ih⟩
      dsimp only
      rw [show (c.2 + (P.length : Int)).toNat = P.length + c.2.toNat by omega, List.getElem?_append_right (by omega), Nat.add_sub_cancel_left]
      exact h3
theorem Trc.right {L Q : Wd} : ∀ {B C : Wd}, Trc L B C → Trc (L ++ Q) B C
  | [], [], _ => by simp [Trc]
  | [], _ :: _, h => by simp [Trc] at h
  | _ :: _, [], h => by simp [Trc] at h
  | w :: B, c :: C, h => by
    simp only [Trc] at h ⊢
    refine ⟨h.1, ?_, h.2.2.right⟩
    rcases h.2.1 with h1 | ⟨h1, h2, h3⟩
    · exact .inl h1
    · exact .inr ⟨h1, h2, by rw [List.getElem?_append_left (List.getElem?_eq_some_iff.1 h3).1]; exact h3⟩
theorem Trc.brk {L B C : Wd} (b : Bool) (h : Trc L B C) : Trc L (Go.Proofs.YteihfmnmpdbkiaaGreatDoor.brk b B) (Go.Proofs.YteihfmnmpdbkiaaGreatDoor.brk b C) := by
  cases b with
  | false => exact h
  | true =>
    simp only [Go.Proofs.YteihfmnmpdbkiaaGreatDoor.brk, if_true, Trc]
    refine ⟨trivial, .inl ⟨trivial, trivial⟩, h.app ?_⟩
    simp [Trc]
theorem Trc.fst {L : Wd} : ∀ {B C : Wd}, Trc L B C → C.map (·.1) = B.map (·.1)
  | [], [], _ => rfl
  | [], _ :: _, h => by simp [Trc] at h
  | _ :: _, [], h => by simp [Trc] at h
  | w :: B, c :: C, h => by
    simp only [Trc] at h
    simp only [List.map_cons, h.1, h.2.2.fst]
def colOf : Int → Wd → Int → Int
  | _, [], _ => -1
  | c, w :: r, i => if w.2 = i then c else colOf (c + w.1.length + 1) r i
def widW (l : Wd) : Int := (wid (l.map (·.1)) : Int)
theorem widW_cons (w : Str × Int) (l : Wd) : widW (w :: l) = w.1.length + 1 + widW l := by simp [widW, wid_cons]
theorem widW_app (a b : Wd) : widW (a ++ b) = widW a + widW b := by simp [widW, wid_app]
theorem widW_nil : widW [] = 0 := rfl
theorem widW_pos (l : Wd) : 0 ≤ widW l := by unfold widW; omega
theorem colOf_app (i : Int) : ∀ (a b : Wd) (c : Int), colOf c (a ++ b) i = if i ∈ a.map (·.2) then colOf c a i else colOf (c + widW a) b i
  | [], b, c => by simp [widW_nil]
  | w :: a, b, c => by
    have ih := colOf_app i a b (c + w.1.length + 1)
    simp only [List.cons_append, colOf, List.map_cons, List.mem_cons]
    by_cases h : w.2 = i
    · simp [h]
    · have h' : ¬ i = w.2 := fun e => h e.symm
      simp only [h, if_false, h', false_or, ih, widW_cons]
      split
      · rfl
      · congr 1; omega
theorem colOf_add (i : Int) (d : Int) : ∀ (a : Wd) (c : Int), i ∈ a.map (·.2) → colOf (c + d) a i = colOf c a i + d
  | [], c, h => by simp at h
  | w :: a, c, h => by
    simp only [colOf]
    by_cases e : w.2 = i
    · rw [if_pos e, if_pos e]
    · rw [if_neg e, if_neg e]
      simp only [List.map_cons, List.mem_cons] at h
      have := colOf_add i d a (c + w.1.length + 1) (h.resolve_left fun q => e q.symm)
      rw [← this]; congr 1; omega
theorem Trc.lt {L : Wd} : ∀ {B C : Wd}, Trc L B C → ∀ p ∈ C, -1 ≤ p.2 ∧ p.2 < (L.length : Int)
  | [], [], _ => by simp
  | [], _ :: _, h => by simp [Trc] at h
  | _ :: _, [], h => by simp [Trc] at h
  | w :: B, c :: C, h => by
    simp only [Trc] at h
    intro p hp
    rcases List.mem_cons.1 hp with rfl | hp
    · rcases h.2.1 with ⟨_, h2⟩ | ⟨_, h2, h3⟩
      · omega
      · have := (List.getElem?_eq_some_iff.1 h3).1; omega
    · exact h.2.2.lt p hp
theorem Trc.len {L : Wd} {B C : Wd} (h : Trc L B C) : C.length = B.length := by
  have := congrArg List.length h.fst; simpa using this
end
end Go.Proofs.YteihfmnmpdbkiaaGreatDoor
