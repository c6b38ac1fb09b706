/- The program's reader of what is reckoned, as a plain function; it reads back what is written. Conditions: none. -/
import Derived.Test.YtefmbmafdgedmaaGreatDoorKc
import Derived.Test.YtefmbmafdgedmaaGreatDoorKb
set_option linter.unusedVariables false
set_option linter.unusedSimpArgs false
namespace Go.Proofs.YtefmbmafdgedmaaGreatDoor
section
structure RS where
 left : List Str
 bad : Bool
 deep : Int
def wAs : Str := [97, 115]
def c1_ (s : RS) : Str := match s.left with | [] => [] | x :: _ => x
def cn_ (s : RS) : RS := match s.left with | [] => { s with bad := true } | _ :: r => { s with left := r }
def asL : List Str → E → Int → E × RS
 | [], e, d => (e, ⟨[], false, d⟩)
 | [w], e, d => if w = wAs then (.mk 4 0 [] [e], ⟨[], true, d⟩) else (e, ⟨[w], false, d⟩)
 | w :: t :: r, e, d => if w = wAs then asL r (.mk 4 0 t [e]) d else (e, ⟨w :: t :: r, false, d⟩)
def asR (s : RS) (e : E) : E × RS := if s.bad then (e, s) else asL s.left e s.deep
mutual
def dg_ : Nat → Nat → RS → E × RS
 | 0, _, s => (E0, s)
 | n + 1, t, s => if t = 4 then fw_ n s else d9_ n t (dg_ n (t + 1) s).1 (dg_ n (t + 1) s).2
def d9_ : Nat → Nat → E → RS → E × RS
 | 0, _, e, s => (e, s)
 | n + 1, t, e, s => if s.bad = false ∧ s.left ≠ [] ∧ bt_ (c1_ s) = t then
   d9_ n t (.mk 3 0 (c1_ s) [e, (dg_ n (t + 1) (cn_ s)).1]) (dg_ n (t + 1) (cn_ s)).2 else (e, s)
def fw_ : Nat → RS → E × RS
 | 0, s => (E0, s)
 | n + 1, s => asR (e0_ n (c1_ s) (cn_ s)).2 (e0_ n (c1_ s) (cn_ s)).1
def e0_ : Nat → Str → RS → E × RS
 | 0, _, s => (E0, s)
 | n + 1, w, s =>
  if w = [40] then
   if s.bad = true ∨ 40 < s.deep + 1 then (E0, { s with deep := s.deep + 1, bad := true })
   else
    let p := dg_ n 1 { s with deep := s.deep + 1 }
    (p.1, if p.2.bad then p.2 else { cn_ p.2 with bad := !(c1_ p.2 == [41]) })
  else if do_ w then (.mk 1 (cp_ w) [] [], s)
  else if g8_ w then (.mk 2 0 w [], s)
  else (E0, { s with bad := true })
end
theorem hs_ (s : RS) : (cn_ s).left.length ≤ s.left.length := by
 unfold cn_; split <;> simp_all
theorem ua_ : ∀ (l : List Str) (e : E) (d : Int), (asL l e d).2.left.length ≤ l.length ∧ (asL l e d).2.deep = d
 | [], e, d => by simp [asL]
 | [w], e, d => by simp only [asL]; split <;> simp
 | w :: t :: r, e, d => by
  simp only [asL]
  split
  ·have := ua_ r (.mk 4 0 t [e]) d; simp only [T7_]; omega
  ·simp
theorem aax_ (s : RS) (e : E) : (asR s e).2.left.length ≤ s.left.length := by
 unfold asR; split
 ·exact Nat.le_refl _
 ·exact (ua_ s.left e s.deep).1
theorem ac6_ (s : RS) (e : E) : (asR s e).2.deep = s.deep := by
 unfold asR; split
 ·rfl
 ·exact (ua_ s.left e s.deep).2
theorem ro_ (s : RS) : (cn_ s).deep = s.deep := by unfold cn_; split <;> rfl
theorem aac_ : ∀ (n : Nat), (∀ t s, (dg_ n t s).2.left.length ≤ s.left.length) ∧ (∀ t e s, (d9_ n t e s).2.left.length ≤ s.left.length) ∧ (∀ s, (fw_ n s).2.left.length ≤ s.left.length) ∧ (∀ w s, (e0_ n w s).2.left.length ≤ s.left.length)
 | 0 => by simp [dg_, d9_, fw_, e0_]
 | n + 1 => by
  obtain ⟨h1, h2, h3, h4⟩ := aac_ n
  refine ⟨fun t s => ?_, fun t e s => ?_, fun s => ?_, fun w s => ?_⟩
  ·simp only [dg_]; split
   ·exact h3 s
   ·exact Nat.le_trans (h2 _ _ _) (h1 _ _)
  ·simp only [d9_]; split
   ·exact Nat.le_trans (h2 _ _ _) (Nat.le_trans (h1 _ _) (hs_ s))
   ·exact Nat.le_refl _
  ·simp only [fw_]; exact Nat.le_trans (aax_ _ _) (Nat.le_trans (h4 _ _) (hs_ s))
  ·simp only [e0_]
   split
   ·split
    ·exact Nat.le_refl _
    ·dsimp only
     split
     ·exact h1 _ _
     ·exact Nat.le_trans (hs_ _) (h1 _ _)
   ·split
    ·exact Nat.le_refl _
    ·split <;> exact Nat.le_refl _
def okR (t : Nat) (l : List Str) : Prop := l.head? ≠ some wAs ∧ ∀ w, l.head? = some w → bt_ w ≤ t
theorem v0_ {l : List Str} {e : E} {d : Int} (h : l.head? ≠ some wAs) : asL l e d = (e, ⟨l, false, d⟩) := by
 match l, h with
 | [], _ => rfl
 | [w], h => simp only [asL]; rw [if_neg (fun e => h (by rw [e]; rfl))]
 | w :: t :: r, h => simp only [asL]; rw [if_neg (fun e => h (by rw [e]; rfl))]
theorem hz_ {n t : Nat} {e : E} {l : List Str} {d : Int} (h : ∀ w, l.head? = some w → bt_ w ≠ t) : d9_ n t e ⟨l, false, d⟩ = (e, ⟨l, false, d⟩) := by
 cases n with
 | zero => rfl
 | succ n =>
  simp only [d9_]
  rw [if_neg]
  rintro ⟨_, h1, h2⟩
  cases l with
  | nil => exact h1 rfl
  | cons w r => exact h w rfl h2
def eff (e : E) (must : Int) : Int := if e.kind = 3 ∧ ¬ bt_ e.s < must then bt_ e.s else 4
theorem q6_ {s : Str} (h : go_ s = true) : s ≠ wAs ∧ s ≠ [41] := by
 simp only [go_, Bool.or_eq_true, beq_iff_eq] at h; rcases h with ((h | h) | h) | h <;> subst h <;> decide
theorem wp_ {s : Str} (h : g8_ s = true) : s ≠ [40] ∧ do_ s = false := by
 have h1 : s.all dj_ = true ∧ 1 ≤ s.length := by simp only [g8_, fe_, T5_, T3_] at h; exact ⟨h.1.1.1, h.1.1.2⟩
 refine ⟨fun e => by subst e; exact absurd h1.1 (by decide), ?_⟩
 rw [Bool.eq_false_iff]; intro hn
 obtain ⟨n, _, rfl⟩ := ed_.1 hn
 have hd := d5_ n
 cases hl : Go.Lib.decDigits n with
 | nil => rw [hl] at h1; simp at h1
 | cons c r =>
  rw [hl] at h1 hd
  have h2 := hd c (by simp)
  simp only [List.all_cons, T5_, dj_, T3_] at h1
  unfold gg_ at h2; omega
theorem kq_ {n : Nat} (h : n ≤ 1000000) : do_ (Go.Lib.decDigits n) = true ∧ cp_ (Go.Lib.decDigits n) = n ∧ Go.Lib.decDigits n ≠ [40] := by
 refine ⟨ed_.2 ⟨n, h, rfl⟩, em_ n, fun e => ?_⟩
 have := d5_ n 40 (by rw [e]; simp)
 unfold gg_ at this; revert this; decide
theorem zo_ {e : E} {must : Int} (h : e.kind = 3) (hl : e.kids.length = 2) (ht : bt_ e.s < must) : wds e must = [40] :: (wds e 0 ++ [[41]]) := by
 rw [ev_ h hl, if_pos ht, ev_ h hl, if_neg (by have := tight_nn e.s; omega)]; simp
where
 tight_nn (s : Str) : 0 ≤ bt_ s := by unfold bt_; split; decide; split; decide; split <;> decide
theorem gh_ (e : E) (must : Int) (h : must ≤ 4) : must ≤ eff e must := by unfold eff; split <;> omega
theorem pn_ {n : Nat} {t : Nat} {s : RS} (h : t ≠ 4) : dg_ (n + 1) t s = d9_ n t (dg_ n (t + 1) s).1 (dg_ n (t + 1) s).2 := by simp only [dg_]; rw [if_neg h]
theorem o3_ {n : Nat} {s : RS} : dg_ (n + 1) 4 s = fw_ n s := by simp only [dg_, if_true]
theorem hp_ {n : Nat} {w : Str} {s : RS} (h : w ≠ [40]) (h1 : do_ w = true) : e0_ (n + 1) w s = (.mk 1 (cp_ w) [] [], s) := by simp [e0_, h, h1]
theorem gz_ {n : Nat} {w : Str} {s : RS} (h : w ≠ [40]) (h1 : do_ w = false) (h2 : g8_ w = true) : e0_ (n + 1) w s = (.mk 2 0 w [], s) := by simp [e0_, h, h1, h2]
theorem acm_ {n : Nat} {s : RS} (h : s.bad = false) (h1 : s.deep + 1 ≤ 40) {e : E} {p : RS} (hp : dg_ n 1 { s with deep := s.deep + 1 } = (e, p)) (hb : p.bad = false) : e0_ (n + 1) [40] s = (e, { cn_ p with bad := !(c1_ p == [41]) }) := by
 simp only [e0_, if_true]; rw [if_neg (by rw [h]; simp; omega)]; simp only [hp, hb]; rfl
theorem lq_ {n : Nat} {w : Str} {r : List Str} {d : Int} : fw_ (n + 1) ⟨w :: r, false, d⟩ = asR (e0_ n w ⟨r, false, d⟩).2 (e0_ n w ⟨r, false, d⟩).1 := by simp only [fw_, c1_, cn_]
theorem l4_ : ∀ (d : Nat) (e : E), form e d = true →
  (∀ (must : Int) (rest : List Str) (deep : Int) (n : Nat), must ≤ 4 → eff e must = 4 → deep + (wds e must).length ≤ 40 → 10 * ((wds e must).length + rest.length) + 2 ≤ n →
   ∃ deep', deep' ≤ deep + (wds e must).length ∧ fw_ n ⟨wds e must ++ rest, false, deep⟩ = asL rest e deep') ∧
  (∀ (must : Int) (t : Nat) (rest : List Str) (deep : Int) (n : Nat), must ≤ 4 → 1 ≤ t → t < 4 → (t : Int) ≤ eff e must → okR t rest → deep + (wds e must).length ≤ 40 → 10 * ((wds e must).length + rest.length) + 7 ≤ n + t →
   ∃ deep' m, deep' ≤ deep + (wds e must).length ∧ 10 * rest.length + 1 ≤ m ∧ dg_ n t ⟨wds e must ++ rest, false, deep⟩ = d9_ m t e ⟨rest, false, deep'⟩)
 | 0, e, h => by have := (b0_ h).1; omega
 | d + 1, e, h => by
  have e1 : ((d + 1 : Nat) : Int) - 1 = (d : Int) := by omega
  -- an unbracketed Two, at its own level
  have two : ∀ (must : Int) (t : Nat) (rest : List Str) (deep : Int) (n : Nat), e.kind = 3 → ¬ bt_ e.s < must → bt_ e.s = t → okR t rest → deep + (wds e must).length ≤ 40 → 10 * ((wds e must).length + rest.length) + 7 ≤ n + t →
    ∃ deep' m, deep' ≤ deep + (wds e must).length ∧ 10 * rest.length + 1 ≤ m ∧ dg_ n t ⟨wds e must ++ rest, false, deep⟩ = d9_ m t e ⟨rest, false, deep'⟩ := by
   intro must t rest deep n k3 hb ht hr hd hn
   rcases (b0_ h).2 with ⟨k1, _⟩ | ⟨k1, _⟩ | ⟨k1, h1, h2, h3, h4, h5⟩ | ⟨k1, _⟩
   ·omega
   ·omega
   ·rw [e1] at h4 h5
    obtain ⟨_, A⟩ := l4_ d _ h4
    obtain ⟨_, B⟩ := l4_ d _ h5
    have ht3 := da_ h2
    have hop := q6_ h2
    rw [ev_ k1 h3, if_neg hb] at hd hn ⊢
    rw [ht] at hd hn ⊢
    simp only [T2_, T7_, List.length_nil] at hd hn
    simp only [List.append_assoc, List.cons_append, List.nil_append]
    obtain ⟨d1, m, g1, g2, g3⟩ := A (max 2 (t : Int)) t (e.s :: (wds (e.kids.getD 1 E0) ((t : Int) + 1) ++ rest)) deep n (by omega) (by omega) (by omega) (by have := gh_ (e.kids.getD 0 E0) (max 2 (t : Int)) (by omega); omega)
     ⟨by simp only [List.head?_cons, ne_eq, Option.some.injEq]; exact hop.1, fun w hw => by simp only [List.head?_cons, Option.some.injEq] at hw; subst hw; omega⟩ (by omega) (by simp only [T2_, T7_]; omega)
    rw [g3]
    simp only [T2_, T7_] at g2
    obtain ⟨m, rfl⟩ : ∃ m', m = m' + 1 := ⟨m - 1, by omega⟩
    have lp : d9_ (m + 1) t (e.kids.getD 0 E0) ⟨e.s :: (wds (e.kids.getD 1 E0) ((t : Int) + 1) ++ rest), false, d1⟩ = d9_ m t (.mk 3 0 e.s [e.kids.getD 0 E0, (dg_ m (t + 1) ⟨wds (e.kids.getD 1 E0) ((t : Int) + 1) ++ rest, false, d1⟩).1]) (dg_ m (t + 1) ⟨wds (e.kids.getD 1 E0) ((t : Int) + 1) ++ rest, false, d1⟩).2 := by
     simp only [d9_, c1_, cn_]; rw [if_pos ⟨trivial, by simp, ht⟩]
    rw [lp]
    have hbk : ∃ deep', deep' ≤ d1 + (wds (e.kids.getD 1 E0) ((t : Int) + 1)).length ∧ dg_ m (t + 1) ⟨wds (e.kids.getD 1 E0) ((t : Int) + 1) ++ rest, false, d1⟩ = (e.kids.getD 1 E0, ⟨rest, false, deep'⟩) := by
     by_cases h34 : t = 3
     ·subst h34
      obtain ⟨Bh, _⟩ := l4_ d _ h5
      obtain ⟨m', rfl⟩ : ∃ m', m = m' + 1 := ⟨m - 1, by omega⟩
      have ef : eff (e.kids.getD 1 E0) ((3 : Nat) + 1) = 4 := by
       have := gh_ (e.kids.getD 1 E0) 4 (by omega)
       have h4 : eff (e.kids.getD 1 E0) 4 ≤ 4 := by
        unfold eff; split
        ·rename_i hh; rcases (b0_ h5).2 with ⟨k, _⟩ | ⟨k, _⟩ | ⟨k, _, hk, _⟩ | ⟨k, _⟩
         ·omega
         ·omega
         ·have := da_ hk; omega
         ·omega
        ·omega
       show eff (e.kids.getD 1 E0) 4 = 4
       omega
      obtain ⟨d2, q1, q2⟩ := Bh (((3 : Nat) : Int) + 1) rest d1 m' (by omega) ef (by omega) (by omega)
      refine ⟨d2, q1, ?_⟩
      rw [o3_, q2, v0_ hr.1]
     ·obtain ⟨d2, m2, q1, q2, q3⟩ := B ((t : Int) + 1) (t + 1) rest d1 m (by omega) (by omega) (by omega) (by have := gh_ (e.kids.getD 1 E0) ((t : Int) + 1) (by omega); omega) ⟨hr.1, fun w hw => by have := hr.2 w hw; omega⟩ (by omega) (by omega)
      refine ⟨d2, q1, ?_⟩
      rw [q3, hz_ fun w hw => by have := hr.2 w hw; omega]
    obtain ⟨d2, q1, q2⟩ := hbk
    rw [q2]
    refine ⟨d2, m, ?_, by omega, ?_⟩
    ·simp only [T2_, T7_, List.length_nil]; omega
    ·have he : e = .mk 3 0 e.s [e.kids.getD 0 E0, e.kids.getD 1 E0] := by
      rw [← i2_ h3, ← h1, ← k1, E.eta]
     rw [← he]
   ·omega
  have h4_ : ∀ (must : Int) (rest : List Str) (deep : Int) (n : Nat), must ≤ 4 → eff e must = 4 → deep + (wds e must).length ≤ 40 → 10 * ((wds e must).length + rest.length) + 2 ≤ n →
    ∃ deep', deep' ≤ deep + (wds e must).length ∧ fw_ n ⟨wds e must ++ rest, false, deep⟩ = asL rest e deep' := by
   intro must rest deep n hm he hd hn
   rcases (b0_ h).2 with ⟨k1, h1, h2, h3, h4⟩ | ⟨k1, h1, h2, h3⟩ | ⟨k1, h1, h2, h3, h4, h5⟩ | ⟨k1, h1, h2, h3, h4⟩
   ·rw [ef_ k1] at hd hn ⊢
    obtain ⟨n, rfl⟩ : ∃ n', n = n' + 2 := ⟨n - 2, by omega⟩
    obtain ⟨g1, g2, g3⟩ := kq_ (n := e.n.toNat) (by omega)
    refine ⟨deep, by simp; omega, ?_⟩
    have : (.mk 1 (cp_ (Go.Lib.decDigits e.n.toNat) : Int) [] [] : E) = e := by
     rw [g2, Int.toNat_of_nonneg h1, ← h3, ← h4, ← k1, h3, h4]; conv => rhs; rw [← E.eta e, h3, h4]
    rw [List.cons_append, List.nil_append, lq_, hp_ g3 g1, this]
    rfl
   ·rw [ds_ k1] at hd hn ⊢
    obtain ⟨n, rfl⟩ : ∃ n', n = n' + 2 := ⟨n - 2, by omega⟩
    obtain ⟨g1, g2⟩ := wp_ h2
    refine ⟨deep, by simp; omega, ?_⟩
    have : (.mk 2 0 e.s [] : E) = e := by conv => rhs; rw [← E.eta e, h3, h1, k1]
    rw [List.cons_append, List.nil_append, lq_, gz_ g1 g2 h2, this]
    rfl
   ·have ht3 := da_ h2
    have hb : bt_ e.s < must := by
     by_cases hh : bt_ e.s < must
     ·exact hh
     ·unfold eff at he; rw [if_pos ⟨k1, hh⟩] at he; omega
    rw [zo_ k1 h3 hb] at hd hn ⊢
    simp only [T7_, T2_, List.length_nil] at hd hn
    obtain ⟨n, rfl⟩ : ∃ n', n = n' + 2 := ⟨n - 2, by omega⟩
    obtain ⟨t, ht⟩ : ∃ t : Nat, bt_ e.s = t := ⟨(bt_ e.s).toNat, by omega⟩
    -- level 1 inside
    have inner : ∃ d1 m, d1 ≤ deep + 1 + (wds e 0).length ∧ 1 ≤ m ∧ dg_ n 1 ⟨wds e 0 ++ [41] :: rest, false, deep + 1⟩ = d9_ m 1 e ⟨[41] :: rest, false, d1⟩ := by
     have hr : ∀ t, okR t ([41] :: rest) := fun t => ⟨by simp [wAs], fun w hw => by simp at hw; subst hw; simp [bt_]⟩
     have up : ∀ k : Nat, k < t → ∀ n, 10 * ((wds e 0).length + (rest.length + 1)) + 7 ≤ n + (t - k) → ∃ d1 m, d1 ≤ deep + 1 + (wds e 0).length ∧ 1 ≤ m ∧ dg_ n (t - k) ⟨wds e 0 ++ [41] :: rest, false, deep + 1⟩ = d9_ m (t - k) e ⟨[41] :: rest, false, d1⟩ := by
      intro k
      induction k with
      | zero =>
       intro _ n hn
       obtain ⟨d1, m, q1, q2, q3⟩ := two 0 t ([41] :: rest) (deep + 1) n k1 (by omega) ht (hr t) (by omega) (by simp only [T7_]; omega)
       exact ⟨d1, m, q1, by simp only [T7_] at q2; omega, q3⟩
      | succ k ih =>
       intro hk n hn
       obtain ⟨n, rfl⟩ : ∃ n', n = n' + 1 := ⟨n - 1, by omega⟩
       obtain ⟨d1, m, q1, q2, q3⟩ := ih (by omega) n (by omega)
       refine ⟨d1, n, q1, by omega, ?_⟩
       rw [pn_ (by omega), show t - (k + 1) + 1 = t - k by omega, q3, hz_ fun w hw => by simp at hw; subst hw; simp [bt_]; omega]
     have := up (t - 1) (by omega) n (by omega)
     rwa [show t - (t - 1) = 1 by omega] at this
    obtain ⟨d1, m, q1, q2, q3⟩ := inner
    rw [hz_ fun w hw => by simp at hw; subst hw; simp [bt_]] at q3
    refine ⟨d1, by simp only [T7_, T2_, List.length_nil]; omega, ?_⟩
    rw [List.cons_append, lq_, List.append_assoc]
    rw [acm_ (s := ⟨wds e 0 ++ ([[41]] ++ rest), false, deep⟩) rfl (by dsimp only; omega) q3 rfl]
    rfl
   ·rw [e1] at h4
    obtain ⟨A, _⟩ := l4_ d _ h4
    have ef : eff (e.kids.getD 0 E0) 4 = 4 := by
     have := gh_ (e.kids.getD 0 E0) 4 (by omega)
     have h4' : eff (e.kids.getD 0 E0) 4 ≤ 4 := by
      unfold eff; split
      ·rename_i hh; rcases (b0_ h4).2 with ⟨k, _⟩ | ⟨k, _⟩ | ⟨k, _, hk, _⟩ | ⟨k, _⟩
       ·omega
       ·omega
       ·have := da_ hk; omega
       ·omega
      ·omega
     omega
    rw [hy_ k1 h3] at hd hn ⊢
    simp only [T7_, T2_, List.length_nil] at hd hn
    obtain ⟨d1, q1, q2⟩ := A 4 (wAs :: e.s :: rest) deep n (by omega) ef (by omega) (by simp only [T7_]; omega)
    refine ⟨d1, by simp only [T7_, T2_, List.length_nil]; omega, ?_⟩
    rw [List.append_assoc]
    have hE : (.mk 4 0 e.s [e.kids.getD 0 E0] : E) = e := by conv => rhs; rw [← E.eta e, po_ h3, h1, k1]
    refine q2.trans ?_
    simp only [asL, if_true]
    rw [hE]
  refine ⟨h4_, ?_⟩
  -- from the own level down to t
  intro must t rest deep n hm ht1 ht4 ht hr hd hn
  have hk : ∀ k : Nat, t + k ≤ 4 → ((t + k : Nat) : Int) = eff e must → ∃ deep' m, deep' ≤ deep + (wds e must).length ∧ 10 * rest.length + 1 ≤ m ∧ dg_ n t ⟨wds e must ++ rest, false, deep⟩ = d9_ m t e ⟨rest, false, deep'⟩ := by
   intro k
   induction k generalizing t n with
   | zero =>
    intro _ hef
    rcases (b0_ h).2 with ⟨k1, _⟩ | ⟨k1, _⟩ | ⟨k1, h1, h2, h3, h4, h5⟩ | ⟨k1, _⟩
    ·unfold eff at hef; rw [if_neg (by omega)] at hef; omega
    ·unfold eff at hef; rw [if_neg (by omega)] at hef; omega
    ·unfold eff at hef
     by_cases hb : bt_ e.s < must
     ·rw [if_neg (by omega)] at hef; omega
     ·rw [if_pos ⟨k1, hb⟩] at hef
      exact two must t rest deep n k1 hb (by omega) hr hd hn
    ·unfold eff at hef; rw [if_neg (by omega)] at hef; omega
   | succ k ih =>
    intro h4 hef
    obtain ⟨n, rfl⟩ : ∃ n', n = n' + 1 := ⟨n - 1, by omega⟩
    by_cases h34 : t = 3
    ·subst h34
     obtain ⟨n, rfl⟩ : ∃ n', n = n' + 1 := ⟨n - 1, by omega⟩
     obtain ⟨d1, q1, q2⟩ := h4_ must rest deep n hm (by omega) hd (by omega)
     refine ⟨d1, n + 1, q1, by omega, ?_⟩
     rw [pn_ (by omega), o3_, q2, v0_ hr.1]
    ·obtain ⟨d1, m, q1, q2, q3⟩ := ih (t + 1) n (by omega) (by omega) (by omega) ⟨hr.1, fun w hw => by have := hr.2 w hw; omega⟩ (by omega) (by omega) (by omega)
     refine ⟨d1, n, q1, by omega, ?_⟩
     rw [pn_ (by omega), q3, hz_ fun w hw => by have := hr.2 w hw; omega]
  have heff : eff e must ≤ 4 := by
   unfold eff; split
   ·rename_i hh; rcases (b0_ h).2 with ⟨k, _⟩ | ⟨k, _⟩ | ⟨k, _, hk, _⟩ | ⟨k, _⟩
    ·omega
    ·omega
    ·have := da_ hk; omega
    ·omega
   ·omega
  exact hk (eff e must - t).toNat (by omega) (by omega)
theorem ame_ {e : E} (h : eok e = true) (hl : (wds e 1).length ≤ 40) {n : Nat} (hn : 410 ≤ n) : ∃ deep', dg_ n 1 ⟨wds e 1, false, 0⟩ = (e, ⟨[], false, deep'⟩) := by
 have he : 1 ≤ eff e 1 := gh_ e 1 (by omega)
 obtain ⟨d1, m, q1, q2, q3⟩ := (l4_ 5 e (b9_ h)).2 1 1 [] 0 n (by omega) (by omega) (by omega) he ⟨by simp, fun w hw => by simp at hw⟩ (by omega) (by simp; omega)
 rw [List.append_nil] at q3
 exact ⟨d1, by rw [q3, hz_ fun w hw => by simp at hw]⟩
end
section
theorem nl_ (c : UInt8) : de_ c = true ↔ gg_ c := ki_ c
theorem xr_ (l : Str) : ((i0_ l).2 && (decide (0 ≤ (i0_ l).1) && decide ((i0_ l).1 ≤ 1000000))) = do_ l ∧ (do_ l = true → (i0_ l).1 = cp_ l) := by
 have key : do_ l = true → (i0_ l).2 = true ∧ (i0_ l).1 = cp_ l := fun h => by
  obtain ⟨n, hn, rfl⟩ := ed_.1 h
  have hd := d5_ n
  have hlen := k7_ hn
  have hh : (Go.Lib.decDigits n).head? ≠ some 45 := fun e => by
   have := hd 45 (List.mem_of_mem_head? (by rw [e]; rfl)); unfold gg_ at this; revert this; decide
  have hz : (Go.Lib.decDigits n).head? = some 48 → (Go.Lib.decDigits n).length ≤ 1 := fun e => by
   by_cases h : n < 10
   ·rw [Go.Lib.decDigits_one h]; simp
   ·exfalso; exact dec_lead n (by omega) e
  have hne : (Go.Lib.decDigits n).length ≠ 0 := fun e => fi_ n (List.eq_nil_of_length_eq_zero e)
  unfold i0_
  simp only [show ((Go.Lib.decDigits n).head? == some 45) = false by simpa using hh, Bool.false_eq_true, if_false, or_false]
  rw [if_neg (by rintro (h | h | ⟨h1, h2⟩); exact hne h; omega; have := hz h1; omega), if_pos (List.all_eq_true.2 fun c hc => (nl_ c).2 (hd c hc))]
  exact ⟨rfl, rfl⟩
 refine ⟨?_, fun h => (key h).2⟩
 cases h : do_ l with
 | true =>
  obtain ⟨h1, h2⟩ := key h
  obtain ⟨n, hn, rfl⟩ := ed_.1 h
  rw [h1, h2, em_]; simp; omega
 | false =>
  rw [Bool.eq_false_iff]
  intro hh
  rw [Bool.eq_false_iff] at h
  apply h
  simp only [T5_, T3_] at hh
  obtain ⟨h1, h2, h3⟩ := hh
  unfold i0_ at h1 h2 h3
  cases hneg : (l.head? == some 45) with
  | true =>
   exfalso
   simp only [hneg, if_true] at h1 h2 h3
   split at h1
   ·cases h1
   ·rename_i hc
    rw [if_neg hc] at h2 h3
    split at h1
    ·rename_i hall
     rw [if_pos hall] at h2 h3
     have hd : ∀ c ∈ l.tail, gg_ c := fun c hc => (nl_ c).1 (List.all_eq_true.1 hall c hc)
     have hne : l.tail ≠ [] := fun e => hc (.inl (by rw [e]; rfl))
     have := (lead hne hd (fun e => hc (.inr (.inr ⟨e, .inr trivial⟩)))).1
     omega
    ·cases h1
  | false =>
   simp only [hneg, Bool.false_eq_true, if_false, or_false] at h1 h2 h3
   split at h1
   ·cases h1
   ·rename_i hc
    rw [if_neg hc] at h2 h3
    split at h1
    ·rename_i hall
     rw [if_pos hall] at h2 h3
     have hd : ∀ c ∈ l, gg_ c := fun c hc => (nl_ c).1 (List.all_eq_true.1 hall c hc)
     have hne : l ≠ [] := fun e => hc (.inl (by rw [e]; rfl))
     refine ed_.2 ⟨cp_ l, by omega, ?_⟩
     by_cases h0 : l.head? = some 48
     ·have : ¬ 1 < l.length := fun h => hc (.inr (.inr ⟨h0, h⟩))
      match l, h0, this, hne with
      | [c], h0, _, _ => simp at h0; subst h0; rw [show cp_ [48] = 0 from rfl, Go.Lib.decDigits_one (by decide)]; rfl
      | _ :: _ :: _, _, h, _ => simp at h
     ·exact (lead hne hd h0).2.symm
    ·cases h1
where
 dec_lead (n : Nat) (h : 1 ≤ n) : (Go.Lib.decDigits n).head? ≠ some 48 := by
  induction n using Nat.strongRecOn with
  | ind n ih =>
   by_cases h1 : n < 10
   ·rw [Go.Lib.decDigits_one h1]
    simp only [List.head?_cons, ne_eq, Option.some.injEq]
    intro e
    have := q7_ h1
    rw [e] at this
    have e2 : (48 : UInt8).toNat = 48 := rfl
    omega
   ·rw [d8_ h1]
    have := ih (n / 10) (by omega) (by omega)
    cases hl : Go.Lib.decDigits (n / 10) with
    | nil => exact absurd hl (fi_ _)
    | cons c r => rw [hl] at this; simpa using this
def sAs : Nat → List Str → Nat → E → E × Option Nat
 | 0, _, _, e => (e, none)
 | n + 1, w, k, e => if w.getD k [] = wAs then (if fp_ (w.getD (k + 1) []) then sAs n w (k + 2) (.mk 4 0 (w.getD (k + 1) []) [e]) else (e, none)) else (e, some k)
mutual
def e5_ : Nat → List Str → Nat → Int → E × Option Nat
 | 0, _, _, _ => (E0, none)
 | n + 1, w, k, deep =>
  if do_ (w.getD k []) then sAs n w (k + 1) (.mk 1 (cp_ (w.getD k [])) [] [])
  else if g8_ (w.getD k []) then sAs n w (k + 1) (.mk 2 0 (w.getD k []) [])
  else if w.getD k [] = [40] ∧ 0 < deep then
   match (sL1 n w (k + 1) (deep - 1)).2 with
   | none => ((sL1 n w (k + 1) (deep - 1)).1, none)
   | some b => if w.getD b [] = [41] then sAs n w (b + 1) (sL1 n w (k + 1) (deep - 1)).1 else ((sL1 n w (k + 1) (deep - 1)).1, none)
  else (E0, none)
def sLp : Nat → List Str → Nat → Nat → Int → E × Option Nat
 | 0, _, _, _, _ => (E0, none)
 | n + 1, w, k, t, deep => if 3 < t then e5_ n w k deep else ff_ n w t deep (sLp n w k (t + 1) deep).1 (sLp n w k (t + 1) deep).2
def ff_ : Nat → List Str → Nat → Int → E → Option Nat → E × Option Nat
 | 0, _, _, _, e, _ => (e, none)
 | _ + 1, _, _, _, e, none => (e, none)
 | n + 1, w, t, deep, e, some k => if bt_ (w.getD k []) = t then ff_ n w t deep (.mk 3 0 (w.getD k []) [e, (sLp n w (k + 1) (t + 1) deep).1]) (sLp n w (k + 1) (t + 1) deep).2 else (e, some k)
def sL1 : Nat → List Str → Nat → Int → E × Option Nat
 | 0, _, _, _ => (E0, none)
 | n + 1, w, k, deep =>
  match (sLp n w k 2 deep).2 with
  | none => ((sLp n w k 2 deep).1, none)
  | some b => if w.getD b [] = [60] then (.mk 3 0 [60] [(sLp n w k 2 deep).1, (sLp n w (b + 1) 2 deep).1], (sLp n w (b + 1) 2 deep).2) else ((sLp n w k 2 deep).1, some b)
end
theorem hk_ {w l : List Str} {k : Nat} {s : Str} (h : w.drop k = s :: l) : w.getD k [] = s ∧ w.drop (k + 1) = l := by
 have hk : k < w.length := by
  rcases Nat.lt_or_ge k w.length with h1 | h1
  ·exact h1
  ·rw [List.drop_of_length_le h1] at h; cases h
 rw [List.drop_eq_getElem_cons hk] at h
 injection h with h1 h2
 exact ⟨by rw [T8_, T6_ hk]; exact h1, h2⟩
theorem tk_ {w l : List Str} {k : Nat} (h : w.drop k = l) : w.getD k [] = l.headD [] := by
 cases l with
 | nil =>
  have : w.length ≤ k := by simpa using h
  simp [T8_, List.getElem?_eq_none this]
 | cons s l => exact (hk_ h).1
theorem ee_ {w a l : List Str} {k : Nat} (h : w.drop k = a ++ l) : w.drop (k + a.length) = l := by
 rw [← List.drop_drop, h]; simp
theorem wk_ {n : Nat} {w : List Str} {k : Nat} {e : E} {rest : List Str} (hk : w.drop k = rest) (h : rest.head? ≠ some wAs) : sAs (n + 1) w k e = (e, some k) := by
 simp only [sAs]
 rw [if_neg]
 rw [tk_ hk]
 cases rest with
 | nil => decide
 | cons a r => simpa using h
theorem fz_ {w : List Str} {k : Nat} {rest : List Str} (hk : w.drop k = rest) {P : Int → Prop} (h0 : P 0) (h : ∀ x, rest.head? = some x → P (bt_ x)) : P (bt_ (w.getD k [])) := by
 rw [tk_ hk]
 cases rest with
 | nil => exact h0
 | cons a r => exact h a rfl
theorem fb_ {n : Nat} {w : List Str} {t : Nat} {deep : Int} {e : E} {k : Nat} (h : bt_ (w.getD k []) ≠ t) : ff_ (n + 1) w t deep e (some k) = (e, some k) := by
 simp only [ff_]; rw [if_neg h]
theorem abj_ {s : Str} (h : bt_ s = 1) : s = [60] := by
 unfold bt_ at h
 by_cases h1 : s = [60]
 ·exact h1
 ·by_cases h2 : s = [43] ∨ s = [45]
  ·rcases h2 with rfl | rfl <;> simp at h
  ·by_cases h3 : s = [42]
   ·subst h3; simp at h
   ·simp [h1, h3] at h; simp_all
theorem yj_ {e : E} {d must : Int} (h : form e d = true) : eff e must ≤ 4 := by
 unfold eff; split
 ·rename_i hh; rcases (b0_ h).2 with ⟨k, _⟩ | ⟨k, _⟩ | ⟨k, _, hk, _⟩ | ⟨k, _⟩
  ·omega
  ·omega
  ·have := da_ hk; omega
  ·omega
 ·omega
theorem kj_ {n : Nat} {w : List Str} {k : Nat} {deep : Int} (h : do_ (w.getD k []) = true) : e5_ (n + 1) w k deep = sAs n w (k + 1) (.mk 1 (cp_ (w.getD k [])) [] []) := by simp only [e5_, h, if_true]
theorem jm_ {n : Nat} {w : List Str} {k : Nat} {deep : Int} (h : do_ (w.getD k []) = false) (h2 : g8_ (w.getD k []) = true) : e5_ (n + 1) w k deep = sAs n w (k + 1) (.mk 2 0 (w.getD k []) []) := by simp only [e5_, h, h2, if_true, Bool.false_eq_true, if_false]
theorem kh_ {n : Nat} {w : List Str} {k b : Nat} {deep : Int} {x : E} (h : w.getD k [] = [40]) (hd : 0 < deep) (hx : sL1 n w (k + 1) (deep - 1) = (x, some b)) (hb : w.getD b [] = [41]) : e5_ (n + 1) w k deep = sAs n w (b + 1) x := by
 have h1 : do_ [40] = false := by
  rw [Bool.eq_false_iff]; intro h
  obtain ⟨n, hn, h⟩ := ed_.1 h
  exact (kq_ hn).2.2 h.symm
 have h2 : g8_ [40] = false := by decide
 simp only [e5_, h, h1, h2, Bool.false_eq_true, if_false, hx, hb, if_true, true_and]
 rw [if_pos hd]
theorem kp_ (w : List Str) : ∀ (d : Nat) (e : E), form e d = true →
  (∀ (must : Int) (rest : List Str) (k : Nat) (deep : Int) (n : Nat), must ≤ 4 → eff e must = 4 → d ≤ deep → w.drop k = wds e must ++ rest → 10 * ((wds e must).length + rest.length) + 2 ≤ n →
   ∃ m, rest.length + 1 ≤ m ∧ e5_ n w k deep = sAs m w (k + (wds e must).length) e) ∧
  (∀ (must : Int) (t : Nat) (rest : List Str) (k : Nat) (deep : Int) (n : Nat), must ≤ 4 → 2 ≤ t → t < 4 → (t : Int) ≤ eff e must → okR t rest → d ≤ deep → w.drop k = wds e must ++ rest → 10 * ((wds e must).length + rest.length) + 7 ≤ n + t →
   ∃ m, 10 * rest.length + 1 ≤ m ∧ sLp n w k t deep = ff_ m w t deep e (some (k + (wds e must).length))) ∧
  (∀ (rest : List Str) (k : Nat) (deep : Int) (n : Nat), e.kind = 3 → okR 0 rest → (d : Int) ≤ deep + 1 → w.drop k = wds e 0 ++ rest → 10 * ((wds e 0).length + rest.length) + 7 ≤ n →
   sL1 n w k deep = (e, some (k + (wds e 0).length)))
 | 0, e, h => by have := (b0_ h).1; omega
 | d + 1, e, h => by
  have e1 : ((d + 1 : Nat) : Int) - 1 = (d : Int) := by omega
  have two : ∀ (must : Int) (t : Nat) (rest : List Str) (k : Nat) (deep : Int) (n : Nat), e.kind = 3 → ¬ bt_ e.s < must → bt_ e.s = t → 2 ≤ t → okR t rest → d ≤ deep → w.drop k = wds e must ++ rest → 10 * ((wds e must).length + rest.length) + 7 ≤ n + t →
    ∃ m, 10 * rest.length + 1 ≤ m ∧ sLp n w k t deep = ff_ m w t deep e (some (k + (wds e must).length)) := by
   intro must t rest k deep n k3 hb ht ht2 hr hd hk hn
   rcases (b0_ h).2 with ⟨k1, _⟩ | ⟨k1, _⟩ | ⟨k1, h1, h2, h3, h4, h5⟩ | ⟨k1, _⟩
   ·omega
   ·omega
   ·rw [e1] at h4 h5
    have A := (kp_ w d _ h4).2.1
    have B := kp_ w d _ h5
    have ht3 := da_ h2
    have hop := q6_ h2
    rw [ev_ k1 h3, if_neg hb] at hk hn ⊢
    rw [ht] at hk hn ⊢
    rw [show max 2 (t : Int) = t by omega] at hk hn ⊢
    simp only [T2_, T7_, List.length_nil] at hn ⊢
    simp only [List.append_assoc, List.cons_append, List.nil_append] at hk
    obtain ⟨m, g2, g3⟩ := A (t : Int) t (e.s :: (wds (e.kids.getD 1 E0) ((t : Int) + 1) ++ rest)) k deep n (by omega) (by omega) (by omega) (gh_ (e.kids.getD 0 E0) (t : Int) (by omega))
     ⟨by simp only [List.head?_cons, ne_eq, Option.some.injEq]; exact hop.1, fun w hw => by simp only [List.head?_cons, Option.some.injEq] at hw; subst hw; omega⟩ hd hk (by simp only [T2_, T7_]; omega)
    rw [g3]
    simp only [T2_, T7_] at g2
    obtain ⟨m, rfl⟩ : ∃ m', m = m' + 1 := ⟨m - 1, by omega⟩
    obtain ⟨q1, q2⟩ := hk_ (ee_ hk)
    have hmm : 10 * ((wds (e.kids.getD 1 E0) ((t : Int) + 1)).length + rest.length) + 10 ≤ m := by omega
    have hbk : sLp m w (k + (wds (e.kids.getD 0 E0) t).length + 1) (t + 1) deep = (e.kids.getD 1 E0, some (k + (wds (e.kids.getD 0 E0) t).length + 1 + (wds (e.kids.getD 1 E0) ((t : Int) + 1)).length)) := by
     by_cases h34 : t = 3
     ·subst h34
      obtain ⟨m', rfl⟩ : ∃ m', m = m' + 1 := ⟨m - 1, by omega⟩
      have ef : eff (e.kids.getD 1 E0) ((3 : Nat) + 1) = 4 := by
       have h1 := gh_ (e.kids.getD 1 E0) 4 (by omega)
       have h2 := yj_ (must := 4) h5
       show eff (e.kids.getD 1 E0) 4 = 4
       omega
      obtain ⟨m2, r1, r2⟩ := B.1 (((3 : Nat) : Int) + 1) rest _ deep m' (by omega) ef hd q2 (by omega)
      obtain ⟨m2, rfl⟩ : ∃ m', m2 = m' + 1 := ⟨m2 - 1, by omega⟩
      simp only [sLp]
      rw [if_pos (by omega), r2, wk_ (ee_ q2) hr.1]
     ·obtain ⟨m2, r1, r2⟩ := B.2.1 ((t : Int) + 1) (t + 1) rest _ deep m (by omega) (by omega) (by omega) (by have := gh_ (e.kids.getD 1 E0) ((t : Int) + 1) (by omega); omega) ⟨hr.1, fun w hw => by have := hr.2 w hw; omega⟩ hd q2 (by omega)
      obtain ⟨m2, rfl⟩ : ∃ m', m2 = m' + 1 := ⟨m2 - 1, by omega⟩
      rw [r2, fb_]
      exact fz_ (P := fun x => x ≠ ((t + 1 : Nat) : Int)) (ee_ q2) (by omega) fun x hx => by have := hr.2 x hx; omega
    refine ⟨m, by omega, ?_⟩
    have he : e = .mk 3 0 e.s [e.kids.getD 0 E0, e.kids.getD 1 E0] := by
     rw [← i2_ h3, ← h1, ← k1, E.eta]
    simp only [ff_]
    rw [q1, if_pos ht, hbk, ← he]
    exact congrArg (fun x => ff_ m w t deep e (some x)) (by omega)
   ·omega
  -- level 1, without brackets
  have one : ∀ (rest : List Str) (k : Nat) (deep : Int) (n : Nat), e.kind = 3 → okR 0 rest → d ≤ deep → w.drop k = wds e 0 ++ rest → 10 * ((wds e 0).length + rest.length) + 7 ≤ n →
    sL1 n w k deep = (e, some (k + (wds e 0).length)) := by
   intro rest k deep n k3 hr hd hk hn
   rcases (b0_ h).2 with ⟨k1, _⟩ | ⟨k1, _⟩ | ⟨k1, h1, h2, h3, h4, h5⟩ | ⟨k1, _⟩
   ·omega
   ·omega
   ·have ht3 := da_ h2
    obtain ⟨n, rfl⟩ : ∃ n', n = n' + 1 := ⟨n - 1, by omega⟩
    by_cases ht1 : bt_ e.s = 1
    ·rw [e1] at h4 h5
     have A := (kp_ w d _ h4).2.1
     have B := (kp_ w d _ h5).2.1
     have hs := abj_ ht1
     rw [ev_ k1 h3, if_neg (by omega), ht1] at hk hn ⊢
     simp only [T2_, T7_, List.length_nil] at hn ⊢
     simp only [List.append_assoc, List.cons_append, List.nil_append] at hk
     obtain ⟨m, g2, g3⟩ := A 2 2 (e.s :: (wds (e.kids.getD 1 E0) (1 + 1) ++ rest)) k deep n (by omega) (by omega) (by omega) (gh_ (e.kids.getD 0 E0) 2 (by omega))
      ⟨by simp only [List.head?_cons, ne_eq, Option.some.injEq]; exact (q6_ h2).1, fun w hw => by simp only [List.head?_cons, Option.some.injEq] at hw; subst hw; omega⟩ hd hk (by
       simp only [T2_, T7_]
       have : max 2 (1 : Int) = 2 := rfl
       rw [this] at hn; omega)
     have e3 : max 2 (1 : Int) = 2 := rfl
     rw [e3] at hk ⊢
     obtain ⟨m, rfl⟩ : ∃ m', m = m' + 1 := ⟨m - 1, by omega⟩
     obtain ⟨q1, q2⟩ := hk_ (ee_ hk)
     rw [fb_ (by rw [q1]; omega)] at g3
     obtain ⟨m2, r1, r2⟩ := B 2 2 rest _ deep n (by omega) (by omega) (by omega) (gh_ (e.kids.getD 1 E0) 2 (by omega)) ⟨hr.1, fun w hw => by have := hr.2 w hw; omega⟩ hd q2 (by rw [e3] at hn; have : (wds (e.kids.getD 1 E0) 2).length = (wds (e.kids.getD 1 E0) (1 + 1)).length := rfl; omega)
     obtain ⟨m2, rfl⟩ : ∃ m', m2 = m' + 1 := ⟨m2 - 1, by omega⟩
     have hstop : bt_ (w.getD (k + (wds (e.kids.getD 0 E0) 2).length + 1 + (wds (e.kids.getD 1 E0) 2).length) []) ≠ ((2 : Nat) : Int) :=
      fz_ (P := fun x => x ≠ ((2 : Nat) : Int)) (ee_ q2) (by omega) fun x hx => by have := hr.2 x hx; omega
     rw [fb_ hstop] at r2
     have he : e = .mk 3 0 [60] [e.kids.getD 0 E0, e.kids.getD 1 E0] := by
      rw [← i2_ h3, ← hs, ← h1, ← k1, E.eta]
     simp only [sL1, g3, q1, hs, if_true, r2, ← he]
     exact congrArg (fun x => (e, some x)) (by show k + (wds (e.kids.getD 0 E0) 2).length + 1 + (wds (e.kids.getD 1 E0) 2).length = k + ((wds (e.kids.getD 0 E0) 2).length + (0 + 1) + (wds (e.kids.getD 1 E0) 2).length); omega)
    · -- level 2 or 3
     obtain ⟨t, ht⟩ : ∃ t : Nat, bt_ e.s = t := ⟨(bt_ e.s).toNat, by omega⟩
     have h20 : ∃ m, 1 ≤ m ∧ sLp n w k 2 deep = ff_ m w 2 deep e (some (k + (wds e 0).length)) := by
      by_cases h2t : t = 2
      ·subst h2t
       obtain ⟨m, r1, r2⟩ := two 0 2 rest k deep n k1 (by omega) ht (by omega) ⟨hr.1, fun w hw => by have := hr.2 w hw; omega⟩ hd hk (by omega)
       exact ⟨m, by omega, r2⟩
      ·have h3t : t = 3 := by omega
       subst h3t
       obtain ⟨n, rfl⟩ : ∃ n', n = n' + 1 := ⟨n - 1, by omega⟩
       obtain ⟨m, r1, r2⟩ := two 0 3 rest k deep n k1 (by omega) ht (by omega) ⟨hr.1, fun w hw => by have := hr.2 w hw; omega⟩ hd hk (by omega)
       obtain ⟨m, rfl⟩ : ∃ m', m = m' + 1 := ⟨m - 1, by omega⟩
       refine ⟨n, by omega, ?_⟩
       simp only [sLp]
       rw [if_neg (by omega), r2, fb_]
       exact fz_ (P := fun x => x ≠ ((3 : Nat) : Int)) (ee_ hk) (by omega) fun x hx => by have := hr.2 x hx; omega
     obtain ⟨m, r1, r2⟩ := h20
     obtain ⟨m, rfl⟩ : ∃ m', m = m' + 1 := ⟨m - 1, by omega⟩
     rw [fb_ (fz_ (P := fun x => x ≠ ((2 : Nat) : Int)) (ee_ hk) (by omega) fun x hx => by have := hr.2 x hx; omega)] at r2
     have hlt : w.getD (k + (wds e 0).length) [] ≠ [60] := fun e60 => by
      have := fz_ (P := fun x => x ≤ 0) (ee_ hk) (by omega) fun x hx => by have := hr.2 x hx; omega
      rw [e60] at this; revert this; decide
     simp only [sL1, r2, hlt, if_false]
   ·omega
  have h4_ : ∀ (must : Int) (rest : List Str) (k : Nat) (deep : Int) (n : Nat), must ≤ 4 → eff e must = 4 → ((d + 1 : Nat) : Int) ≤ deep → w.drop k = wds e must ++ rest → 10 * ((wds e must).length + rest.length) + 2 ≤ n →
    ∃ m, rest.length + 1 ≤ m ∧ e5_ n w k deep = sAs m w (k + (wds e must).length) e := by
   intro must rest k deep n hm he hd hk hn
   rcases (b0_ h).2 with ⟨k1, h1, h2, h3, h4⟩ | ⟨k1, h1, h2, h3⟩ | ⟨k1, h1, h2, h3, h4, h5⟩ | ⟨k1, h1, h2, h3, h4⟩
   ·rw [ef_ k1] at hk hn ⊢
    obtain ⟨n, rfl⟩ : ∃ n', n = n' + 1 := ⟨n - 1, by omega⟩
    obtain ⟨g1, g2, g3⟩ := kq_ (n := e.n.toNat) (by omega)
    obtain ⟨q1, q2⟩ := hk_ hk
    refine ⟨n, by simp at hn; omega, ?_⟩
    have : (.mk 1 (cp_ (Go.Lib.decDigits e.n.toNat) : Int) [] [] : E) = e := by
     rw [g2, Int.toNat_of_nonneg h1]; conv => rhs; rw [← E.eta e, h3, h4, k1]
    rw [kj_ (by rw [q1]; exact g1), q1, this]; rfl
   ·rw [ds_ k1] at hk hn ⊢
    obtain ⟨n, rfl⟩ : ∃ n', n = n' + 1 := ⟨n - 1, by omega⟩
    obtain ⟨g1, g2⟩ := wp_ h2
    obtain ⟨q1, q2⟩ := hk_ hk
    refine ⟨n, by simp at hn; omega, ?_⟩
    have : (.mk 2 0 e.s [] : E) = e := by conv => rhs; rw [← E.eta e, h3, h1, k1]
    rw [jm_ (by rw [q1]; exact g2) (by rw [q1]; exact h2), q1, this]; rfl
   ·have ht3 := da_ h2
    have hb : bt_ e.s < must := by
     by_cases hh : bt_ e.s < must
     ·exact hh
     ·unfold eff at he; rw [if_pos ⟨k1, hh⟩] at he; omega
    rw [zo_ k1 h3 hb] at hk hn ⊢
    simp only [T7_, T2_, List.length_nil] at hn ⊢
    obtain ⟨n, rfl⟩ : ∃ n', n = n' + 1 := ⟨n - 1, by omega⟩
    rw [List.cons_append, List.append_assoc] at hk
    obtain ⟨q1, q2⟩ := hk_ hk
    have inner := one ([[41]] ++ rest) (k + 1) (deep - 1) n k1 ⟨by simp [wAs], fun w hw => by simp at hw; subst hw; simp [bt_]⟩ (by omega) q2 (by simp; omega)
    obtain ⟨q3, q4⟩ := hk_ (ee_ q2)
    refine ⟨n, by omega, ?_⟩
    rw [kh_ q1 (by omega) inner q3]
    congr 1; omega
   ·rw [e1] at h4
    have A := (kp_ w d _ h4).1
    have ef : eff (e.kids.getD 0 E0) 4 = 4 := by
     have h1 := gh_ (e.kids.getD 0 E0) 4 (by omega)
     have h2 := yj_ (must := 4) h4
     omega
    rw [hy_ k1 h3] at hk hn ⊢
    simp only [T7_, T2_, List.length_nil] at hn ⊢
    rw [List.append_assoc] at hk
    obtain ⟨m, r1, r2⟩ := A 4 ([[97, 115], e.s] ++ rest) k deep n (by omega) ef (by omega) hk (by simp only [T7_, T2_, List.length_nil]; omega)
    simp only [T7_, T2_, List.length_nil] at r1
    obtain ⟨m, rfl⟩ : ∃ m', m = m' + 1 := ⟨m - 1, by omega⟩
    obtain ⟨q1, q2⟩ := hk_ (ee_ hk)
    obtain ⟨q3, q4⟩ := hk_ q2
    refine ⟨m, by omega, ?_⟩
    have hE : (.mk 4 0 e.s [e.kids.getD 0 E0] : E) = e := by conv => rhs; rw [← E.eta e, po_ h3, h1, k1]
    rw [r2]
    simp only [sAs]
    rw [q1, if_pos (by rfl), q3, if_pos h2, hE]; rfl
  refine ⟨h4_, ?_, fun rest k deep n h1 h2 h3 h4 h5 => one rest k deep n h1 h2 (by omega) h4 h5⟩
  intro must t rest k deep n hm ht1 ht4 ht hr hd hk hn
  have hkk : ∀ j : Nat, t + j ≤ 4 → ((t + j : Nat) : Int) = eff e must → ∃ m, 10 * rest.length + 1 ≤ m ∧ sLp n w k t deep = ff_ m w t deep e (some (k + (wds e must).length)) := by
   intro j
   induction j generalizing t n with
   | zero =>
    intro _ hef
    rcases (b0_ h).2 with ⟨k1, _⟩ | ⟨k1, _⟩ | ⟨k1, h1, h2, h3, h4, h5⟩ | ⟨k1, _⟩
    ·unfold eff at hef; rw [if_neg (by omega)] at hef; omega
    ·unfold eff at hef; rw [if_neg (by omega)] at hef; omega
    ·unfold eff at hef
     by_cases hb : bt_ e.s < must
     ·rw [if_neg (by omega)] at hef; omega
     ·rw [if_pos ⟨k1, hb⟩] at hef
      exact two must t rest k deep n k1 hb (by omega) ht1 hr (by omega) hk hn
    ·unfold eff at hef; rw [if_neg (by omega)] at hef; omega
   | succ j ih =>
    intro h4 hef
    obtain ⟨n, rfl⟩ : ∃ n', n = n' + 1 := ⟨n - 1, by omega⟩
    by_cases h34 : t = 3
    ·subst h34
     obtain ⟨n, rfl⟩ : ∃ n', n = n' + 1 := ⟨n - 1, by omega⟩
     obtain ⟨m, q1, q2⟩ := h4_ must rest k deep n hm (by omega) hd hk (by omega)
     obtain ⟨m, rfl⟩ : ∃ m', m = m' + 1 := ⟨m - 1, by omega⟩
     refine ⟨n + 1, by omega, ?_⟩
     have e4 : sLp (n + 1) w k (3 + 1) deep = (e, some (k + (wds e must).length)) := by
      simp only [sLp]; rw [if_pos (by omega), q2, wk_ (ee_ hk) hr.1]
     rw [sLp, if_neg (by omega), e4]
    ·obtain ⟨m, q1, q2⟩ := ih (t + 1) n (by omega) (by omega) (by omega) ⟨hr.1, fun w hw => by have := hr.2 w hw; omega⟩ (by omega) (by omega) (by omega)
     obtain ⟨m, rfl⟩ : ∃ m', m = m' + 1 := ⟨m - 1, by omega⟩
     refine ⟨n, by omega, ?_⟩
     rw [fb_ (fz_ (P := fun x => x ≠ ((t + 1 : Nat) : Int)) (ee_ hk) (by omega) fun x hx => by have := hr.2 x hx; omega)] at q2
     rw [sLp, if_neg (by omega), q2]
  have heff := yj_ (must := must) h
  exact hkk (eff e must - t).toNat (by omega) (by omega)
theorem ak8_ {e : E} (h : eok e = true) (hl : (wds e 1).length ≤ 40) {n : Nat} (hn : 410 ≤ n) : sL1 n (wds e 1) 0 5 = (e, some (wds e 1).length) := by
 have A := kp_ (wds e 1) 5 e (b9_ h)
 have hk : (wds e 1).drop 0 = wds e 1 ++ [] := by simp
 obtain ⟨n, rfl⟩ : ∃ n', n = n' + 1 := ⟨n - 1, by omega⟩
 by_cases he : 2 ≤ eff e 1
 ·obtain ⟨m, q1, q2⟩ := A.2.1 1 2 [] 0 5 n (by omega) (by omega) (by omega) he ⟨by simp, fun w hw => by simp at hw⟩ (by omega) hk (by simp; omega)
  obtain ⟨m, rfl⟩ : ∃ m', m = m' + 1 := ⟨m - 1, by omega⟩
  rw [fb_ (fz_ (P := fun x => x ≠ ((2 : Nat) : Int)) (ee_ hk) (by omega) fun x hx => by simp at hx)] at q2
  have hlt : (wds e 1).getD (0 + (wds e 1).length) [] ≠ [60] := by rw [tk_ (ee_ hk)]; decide
  rw [Nat.zero_add] at q2 hlt
  simp only [sL1, q2, hlt, if_false]
 ·have k3 : e.kind = 3 ∧ ¬ bt_ e.s < 1 := by unfold eff at he; by_cases hh : e.kind = 3 ∧ ¬ bt_ e.s < 1; exact hh; rw [if_neg hh] at he; omega
  have := A.2.2 [] 0 5 (n + 1) k3.1 ⟨by simp, fun w hw => by simp at hw⟩ (by omega) (by rw [fg_ (b9_ h)]; exact hk) (by rw [fg_ (b9_ h)]; simp; omega)
  rw [fg_ (b9_ h)] at this; rw [this]; simp
end
section
def marks : Str := [43, 45, 42, 60, 40, 41, 58, 61]
def fq_ (s : Str) : Bool := s.length == 1 && marks.contains (s.headD 0)
def dt_ (s : Str) : Int := if fe_ s then 1 else if do_ s then 2 else if fq_ s then 3 else 0
structure Tk where
 kind : Int
 s : Str
 col : Int
def er_ (l : Str) : Nat := max 1 (max (l.takeWhile dj_).length (l.takeWhile de_).length)
def ft_ : Nat → Str → Int → Option (List Tk)
 | 0, _, _ => some []
 | _ + 1, [], _ => some []
 | n + 1, c :: l, col =>
  if c = 32 then ft_ n l (col + 1)
  else if dt_ ((c :: l).take (er_ (c :: l))) = 0 then none
  else (ft_ n ((c :: l).drop (er_ (c :: l))) (col + er_ (c :: l))).map (⟨dt_ ((c :: l).take (er_ (c :: l))), (c :: l).take (er_ (c :: l)), col⟩ :: ·)
def c0_ (l : Str) : Option (List Tk) := if 120 < l.length then none else ft_ l.length l 0
theorem mm_ (l : Str) : 1 ≤ er_ l := by unfold er_; omega
theorem akk_ (p : UInt8 → Bool) (l : Str) : (l.takeWhile p).length ≤ l.length := (List.takeWhile_prefix p).length_le
theorem akd_ {l : Str} (h : l ≠ []) : er_ l ≤ l.length := by
 have h1 := akk_ dj_ l
 have h2 := akk_ de_ l
 have h3 := List.length_pos_iff.2 h
 unfold er_; omega
theorem nx_ : ∀ (n m : Nat) (l : Str) (col : Int), l.length ≤ n → l.length ≤ m → ft_ n l col = ft_ m l col
 | 0, m, l, col, hn, hm => by
  have : l = [] := List.eq_nil_of_length_eq_zero (by omega)
  subst this
  cases m <;> rfl
 | n + 1, 0, l, col, hn, hm => by
  have : l = [] := List.eq_nil_of_length_eq_zero (by omega)
  subst this
  rfl
 | n + 1, m + 1, [], col, _, _ => rfl
 | n + 1, m + 1, c :: l, col, hn, hm => by
  simp only [T7_] at hn hm
  have h1 := mm_ (c :: l)
  simp only [ft_]
  rw [nx_ n m l (col + 1) (by omega) (by omega), nx_ n m ((c :: l).drop (er_ (c :: l))) _ (by simp; omega) (by simp; omega)]
theorem kn_ (c : UInt8) (l : Str) (col : Int) : ft_ (c :: l).length (c :: l) col =
  if c = 32 then ft_ l.length l (col + 1)
  else if dt_ ((c :: l).take (er_ (c :: l))) = 0 then none
  else (ft_ ((c :: l).drop (er_ (c :: l))).length ((c :: l).drop (er_ (c :: l))) (col + er_ (c :: l))).map (⟨dt_ ((c :: l).take (er_ (c :: l))), (c :: l).take (er_ (c :: l)), col⟩ :: ·) := by
 have h1 := mm_ (c :: l)
 have h2 := nx_ l.length ((c :: l).drop (er_ (c :: l))).length ((c :: l).drop (er_ (c :: l))) (col + er_ (c :: l)) (by simp; omega) (Nat.le_refl _)
 simp only [T7_, ft_]
 rw [h2]
def tkOf : Int → List Str → List Tk
 | _, [] => []
 | c, w :: r => ⟨dt_ w, w, c⟩ :: tkOf (c + w.length + 1) r
def df_ : Int → List Str → List Int
 | _, [] => []
 | c, w :: r => c :: df_ (c + w.length + 1) r
theorem yf_ : ∀ (c : Int) (l : List Str), (tkOf c l).map (·.s) = l
 | _, [] => rfl
 | c, w :: r => by simp only [tkOf, List.map_cons, yf_]
def et_ (w : Str) : Prop := dt_ w ≠ 0
theorem adi_ {p : UInt8 → Bool} {w r : Str} (h : w.all p = true) (hr : ∀ c, r.head? = some c → p c = false) : (w ++ r).takeWhile p = w := by
 induction w with
 | nil =>
  cases r with
  | nil => rfl
  | cons c r => simp [List.takeWhile, hr c rfl]
 | cons c w ih =>
  simp only [List.all_cons, T5_] at h
  simp [List.takeWhile, h.1, ih h.2]
theorem li_ {p : UInt8 → Bool} {c : UInt8} {l : Str} (h : p c = false) : (c :: l).takeWhile p = [] := by simp [List.takeWhile, h]
theorem hc_ {c : UInt8} (h : dj_ c = true) : de_ c = false := by
 rw [Bool.eq_false_iff]; intro h2
 simp only [dj_, de_, T5_, T3_] at h h2; omega
theorem or_ {c : UInt8} (h : de_ c = true) : dj_ c = false := by
 rw [Bool.eq_false_iff]; intro h2
 simp only [dj_, de_, T5_, T3_] at h h2; omega
theorem lb_ {w : Str} (h : et_ w) : (w ≠ [] ∧ w.all dj_ = true) ∨ (w ≠ [] ∧ w.all de_ = true) ∨ (∃ c, w = [c] ∧ dj_ c = false ∧ de_ c = false ∧ c ≠ 32) := by
 unfold et_ dt_ at h
 by_cases h1 : fe_ w = true
 ·left
  simp only [fe_, T5_, T3_] at h1
  exact ⟨fun e => by subst e; simp at h1, h1.1.1⟩
 rw [if_neg h1] at h
 by_cases h2 : do_ w = true
 ·right; left
  obtain ⟨n, hn, rfl⟩ := ed_.1 h2
  exact ⟨fi_ n, List.all_eq_true.2 fun c hc => (ki_ c).2 (d5_ n c hc)⟩
 rw [if_neg h2] at h
 by_cases h3 : fq_ w = true
 ·right; right
  simp only [fq_, T5_, beq_iff_eq] at h3
  match w, h3 with
  | [c], h3 =>
   have h4 := h3.2
   refine ⟨c, rfl, ?_⟩
   simp [marks] at h4
   rcases h4 with h4 | h4 | h4 | h4 | h4 | h4 | h4 | h4 <;> subst h4 <;> decide
 ·rw [if_neg h3] at h; exact absurd rfl h
theorem v8_ {w : Str} (h : et_ w) : w ≠ [] := by
 rcases lb_ h with h | h | ⟨c, rfl, _⟩
 ·exact h.1
 ·exact h.1
 ·simp
theorem ql_ {c : UInt8} {w : Str} (h : et_ (c :: w)) : c ≠ 32 := by
 rcases lb_ h with h | h | ⟨d, e, h1, h2, h3⟩
 ·intro e; subst e; have := h.2; simp [dj_] at this
 ·intro e; subst e; have := h.2; simp [de_] at this
 ·injection e with e1 e2; subst e1; exact h3
theorem sx_ {w r : Str} (h : et_ w) (hr : r = [] ∨ ∃ r', r = 32 :: r') : er_ (w ++ r) = w.length := by
 have hl : ∀ c, r.head? = some c → dj_ c = false := fun c hc => by
  rcases hr with rfl | ⟨r', rfl⟩
  ·simp at hc
  ·simp at hc; subst hc; decide
 have hd : ∀ c, r.head? = some c → de_ c = false := fun c hc => by
  rcases hr with rfl | ⟨r', rfl⟩
  ·simp at hc
  ·simp at hc; subst hc; decide
 unfold er_
 rcases lb_ h with h | h | ⟨c, rfl, h1, h2, h3⟩
 ·rw [adi_ h.2 hl]
  cases w with
  | nil => exact absurd rfl h.1
  | cons c w =>
   have := h.2
   simp only [List.all_cons, T5_] at this
   rw [List.cons_append, li_ (hc_ this.1)]; simp
 ·rw [adi_ h.2 hd]
  cases w with
  | nil => exact absurd rfl h.1
  | cons c w =>
   have := h.2
   simp only [List.all_cons, T5_] at this
   rw [List.cons_append, li_ (or_ this.1)]; simp
 ·rw [List.cons_append, li_ h1, li_ h2]; rfl
theorem qu_ : ∀ (l : List Str) (col : Int), (∀ w ∈ l, et_ w) → ft_ (ch_ l).length (ch_ l) col = some (tkOf col l)
 | [], col, _ => rfl
 | [w], col, h => by
  have hw := h w (by simp)
  rw [gb_]
  have hl := sx_ (r := []) hw (.inl rfl)
  rw [List.append_nil] at hl
  cases hc : w with
  | nil => exact absurd hc (v8_ hw)
  | cons c v =>
   rw [← hc, show w.length = (c :: v).length by rw [hc], hc, kn_, ← hc, hl]
   have : c ≠ 32 := ql_ (by rw [← hc]; exact hw)
   rw [if_neg this, List.take_length, if_neg hw, List.drop_length]
   rfl
 | w :: x :: l, col, h => by
  have hw := h w (by simp)
  have ih := qu_ (x :: l) (col + w.length + 1) (fun y hy => h y (by simp [hy]))
  rw [fh_]
  have hl := sx_ (r := 32 :: ch_ (x :: l)) hw (.inr ⟨_, rfl⟩)
  cases hc : w with
  | nil => exact absurd hc (v8_ hw)
  | cons c v =>
   have h32 : c ≠ 32 := ql_ (by rw [← hc]; exact hw)
   have e1 : c :: v ++ 32 :: ch_ (x :: l) = c :: (v ++ 32 :: ch_ (x :: l)) := rfl
   have e2 : c :: (v ++ 32 :: ch_ (x :: l)) = w ++ 32 :: ch_ (x :: l) := by rw [hc]; rfl
   rw [e1, kn_, if_neg h32, e2, hl, List.take_left, List.drop_left, if_neg hw, kn_, if_pos rfl, ih, ← hc]
   rfl
theorem ru_ {l : List Str} (h : ∀ w ∈ l, et_ w) (hl : (ch_ l).length ≤ 120) : c0_ (ch_ l) = some (tkOf 0 l) := by
 unfold c0_; rw [if_neg (by omega)]; exact qu_ l 0 h
theorem p7_ {s : Str} (h : g8_ s = true) : et_ s := by
 simp only [g8_, T5_] at h
 unfold et_ dt_; rw [if_pos h.1]; decide
theorem abr_ {n : Nat} (h : n ≤ 1000000) : et_ (Go.Lib.decDigits n) := by
 unfold et_ dt_
 split
 ·decide
 ·rw [if_pos (kq_ h).1]; decide
theorem hw_ {s : Str} (h : fq_ s = true) : et_ s := by
 unfold et_ dt_
 split
 ·decide
 ·split
  ·decide
  ·try rw [if_pos h]
   decide
theorem eu_ {s : Str} (h : fe_ s = true) : et_ s := by unfold et_ dt_; rw [if_pos h]; decide
theorem ac1_ {s : Str} (h : go_ s = true) : et_ s := by
 simp only [go_, Bool.or_eq_true, beq_iff_eq] at h; rcases h with ((h | h) | h) | h <;> subst h <;> exact hw_ (by decide)
theorem s8_ {s : Str} (h : fp_ s = true) : et_ s := by
 simp only [fp_, Bool.or_eq_true, beq_iff_eq] at h; rcases h with h | h <;> subst h <;> exact eu_ (by decide)
theorem eq_ : ∀ (d : Nat) (e : E) (must : Int), form e d = true → ∀ s ∈ wds e must, et_ s
 | 0, e, must, h => by have := (b0_ h).1; omega
 | d + 1, e, must, h => by
  have e1 : ((d + 1 : Nat) : Int) - 1 = (d : Int) := by omega
  intro s hs
  rcases (b0_ h).2 with ⟨k1, h1, h2, h3, h4⟩ | ⟨k1, h1, h2, h3⟩ | ⟨k1, h1, h2, h3, h4, h5⟩ | ⟨k1, h1, h2, h3, h4⟩
  ·rw [ef_ k1] at hs; simp at hs; subst hs; exact abr_ (by omega)
  ·rw [ds_ k1] at hs; simp at hs; subst hs; exact p7_ h2
  ·rw [e1] at h4 h5
   rw [ev_ k1 h3] at hs
   have A := eq_ d _ (max 2 (bt_ e.s)) h4
   have B := eq_ d _ (bt_ e.s + 1) h5
   have key : s ∈ wds (e.kids.getD 0 E0) (max 2 (bt_ e.s)) ++ [e.s] ++ wds (e.kids.getD 1 E0) (bt_ e.s + 1) → et_ s := fun hs => by
    simp only [List.mem_append, List.mem_singleton] at hs
    rcases hs with (hs | hs) | hs
    ·exact A s hs
    ·rw [hs]; exact ac1_ h2
    ·exact B s hs
   split at hs
   ·rcases List.mem_append.1 hs with hs | hs
    ·rcases List.mem_append.1 hs with hs | hs
     ·simp at hs; subst hs; exact hw_ (by decide)
     ·exact key hs
    ·simp at hs; subst hs; exact hw_ (by decide)
   ·exact key hs
  ·rw [e1] at h4
   rw [hy_ k1 h3] at hs
   simp only [List.mem_append, List.mem_cons, List.not_mem_nil, or_false] at hs
   rcases hs with hs | hs | hs
   ·exact eq_ d _ 4 h4 s hs
   ·subst hs; exact eu_ (by decide)
   ·subst hs; exact s8_ h2
end
section
def f5_ (w : List Str) : Option E :=
 if w.length ≤ 40 then
  (if ((dg_ 500 1 ⟨w, false, 0⟩).2.bad || !(dg_ 500 1 ⟨w, false, 0⟩).2.left.isEmpty || !eok (dg_ 500 1 ⟨w, false, 0⟩).1 || !(wds (dg_ 500 1 ⟨w, false, 0⟩).1 1 == w)) then none else some (dg_ 500 1 ⟨w, false, 0⟩).1)
 else none
def uu_ (w : List Str) : Option E :=
 if w.length ≤ 40 then
  (if (!((sL1 500 w 0 5).2 == some w.length) || !eok (sL1 500 w 0 5).1 || !(wds (sL1 500 w 0 5).1 1 == w)) then none else some (sL1 500 w 0 5).1)
 else none
theorem kt_ {w : List Str} {e : E} : f5_ w = some e ↔ eok e = true ∧ wds e 1 = w := by
 unfold f5_
 constructor
 ·intro h
  split at h
  ·split at h
   ·cases h
   ·rename_i hh
    simp only [Option.some.injEq] at h
    subst h
    simp only [Bool.or_eq_true, Bool.not_eq_true', not_or, Bool.not_eq_true, Bool.not_eq_false, beq_eq_false_iff_ne, ne_eq, Decidable.not_not] at hh
    exact ⟨hh.1.2, hh.2⟩
  ·cases h
 ·rintro ⟨h1, rfl⟩
  have := (c8_ h1 1).2.1
  obtain ⟨d, hd⟩ := ame_ h1 (by omega) (n := 500) (by omega)
  rw [if_pos (by omega), hd]
  simp [h1]
theorem px_ {w : List Str} {e : E} : uu_ w = some e ↔ eok e = true ∧ wds e 1 = w := by
 unfold uu_
 constructor
 ·intro h
  split at h
  ·split at h
   ·cases h
   ·rename_i hh
    simp only [Option.some.injEq] at h
    subst h
    simp only [Bool.or_eq_true, Bool.not_eq_true', not_or, Bool.not_eq_true, Bool.not_eq_false, beq_eq_false_iff_ne, ne_eq, Decidable.not_not] at hh
    exact ⟨hh.1.2, hh.2⟩
  ·cases h
 ·rintro ⟨h1, rfl⟩
  have := (c8_ h1 1).2.1
  have hd := ak8_ h1 (by omega) (n := 500) (by omega)
  rw [if_pos (by omega), hd]
  simp [h1]
theorem ahf_ (w : List Str) : f5_ w = uu_ w := by
 cases h : uu_ w with
 | some e => rw [kt_, ← px_, h]
 | none =>
  cases h2 : f5_ w with
  | none => rfl
  | some e => rw [kt_, ← px_, h] at h2; cases h2
theorem o6_ : ∀ (d : Nat) (e : E) (must : Int), form e d = true → ∀ s ∈ wds e must, s ≠ b7_ ∧ s ≠ h7_ ∧ s ≠ fs_ ∧ s ≠ wIf ∧ s ≠ ea_ ∧ s ≠ ik_ ∧ s ≠ wEq
 | 0, e, must, h => by have := (b0_ h).1; omega
 | d + 1, e, must, h => by
  have e1 : ((d + 1 : Nat) : Int) - 1 = (d : Int) := by omega
  intro s hs
  rcases (b0_ h).2 with ⟨k1, h1, h2, h3, h4⟩ | ⟨k1, h1, h2, h3⟩ | ⟨k1, h1, h2, h3, h4, h5⟩ | ⟨k1, h1, h2, h3, h4⟩
  ·rw [ef_ k1] at hs; simp at hs; subst hs
   have hd := d5_ e.n.toNat
   have hne := fi_ e.n.toNat
   have key : ∀ c r, ¬ gg_ c → Go.Lib.decDigits e.n.toNat ≠ c :: r := fun c r hc he => hc (hd c (by rw [he]; simp))
   refine ⟨key _ _ ?_, key _ _ ?_, key _ _ ?_, key _ _ ?_, key _ _ ?_, key _ _ ?_, key _ _ ?_⟩ <;> unfold gg_ <;> decide
  ·rw [ds_ k1] at hs; simp at hs; subst hs
   simp only [g8_, h4_, T5_, Bool.not_eq_true', Bool.or_eq_false_iff, beq_eq_false_iff_ne, ne_eq] at h2
   obtain ⟨hw, hh⟩ := h2
   refine ⟨fun e => hh.1.1.1.1.1.2 e, fun e => ?_, fun e => hh.1.1.2 e, fun e => hh.1.2 e, fun e => hh.1.1.1.1.2 e, fun e => hh.1.1.1.1.1.1 e, fun e => ?_⟩ <;> rw [e] at hw <;> exact absurd hw (by decide)
  ·rw [e1] at h4 h5
   rw [ev_ k1 h3] at hs
   have A := o6_ d _ (max 2 (bt_ e.s)) h4
   have B := o6_ d _ (bt_ e.s + 1) h5
   have key : s ∈ wds (e.kids.getD 0 E0) (max 2 (bt_ e.s)) ++ [e.s] ++ wds (e.kids.getD 1 E0) (bt_ e.s + 1) → s ≠ b7_ ∧ s ≠ h7_ ∧ s ≠ fs_ ∧ s ≠ wIf ∧ s ≠ ea_ ∧ s ≠ ik_ ∧ s ≠ wEq := fun hs => by
    simp only [List.mem_append, List.mem_singleton] at hs
    rcases hs with (hs | hs) | hs
    ·exact A s hs
    ·rw [hs]
     simp only [go_, Bool.or_eq_true, beq_iff_eq] at h2; rcases h2 with ((h | h) | h) | h <;> rw [h] <;> decide
    ·exact B s hs
   split at hs
   ·rcases List.mem_append.1 hs with hs | hs
    ·rcases List.mem_append.1 hs with hs | hs
     ·simp at hs; subst hs; decide
     ·exact key hs
    ·simp at hs; subst hs; decide
   ·exact key hs
  ·rw [e1] at h4
   rw [hy_ k1 h3] at hs
   simp only [List.mem_append, List.mem_cons, List.not_mem_nil, or_false] at hs
   rcases hs with hs | hs | hs
   ·exact o6_ d _ 4 h4 s hs
   ·subst hs; decide
   ·subst hs; simp only [fp_, Bool.or_eq_true, beq_iff_eq] at h2; rcases h2 with h | h <;> rw [h] <;> decide
theorem ac0_ {a b : List Str} {s : Str} (h : ∀ x ∈ a, x ≠ s) : ej_ (a ++ s :: b) s = a.length := by
 unfold ej_
 rw [if_pos (by simp), List.idxOf_append, if_neg (fun hm => h s hm rfl)]
 simp
def ex (w : List Str) : E := (f5_ w).getD E0
theorem jt_ {e : E} (h : eok e = true) : ex (wds e 1) = e := by unfold ex; rw [kt_.2 ⟨h, rfl⟩]; rfl
def rdS (w : List Str) : Sl :=
 if 5 < w.length ∧ w.getD 0 [] = ik_ then ⟨1, w.getD 1 [], w.getD 3 [], ex (w.drop 5), E0⟩
 else if 0 < w.length ∧ w.getD 0 [] = b7_ then ⟨2, [], [], ex (w.drop 1), E0⟩
 else if 0 < w.length ∧ w.getD 0 [] = ea_ then
  (if 0 < ej_ w b7_ then ⟨3, [], [], ex ((w.take (ej_ w b7_).toNat).drop 1), ex (w.drop ((ej_ w b7_).toNat + 1))⟩ else ⟨3, [], [], E0, E0⟩)
 else S0
def wl_ (s : Sl) : Str := ch_ (sw' s)
def ahp_ (b : Bl) : Str := ch_ (bw b)
def d4_ (line : Str) : Option Sl :=
 match c0_ line with
 | none => none
 | some ts => if sok (rdS (ts.map (·.s))) = true ∧ wl_ (rdS (ts.map (·.s))) = line then some (rdS (ts.map (·.s))) else none
def fm_ (w : List Str) : Sl × Bool :=
 if w.length = 0 then (S0, true)
 else if w.getD 0 [] = ik_ ∧ 5 < w.length ∧ w.getD 2 [] = h7_ ∧ w.getD 4 [] = wEq then (⟨1, w.getD 1 [], w.getD 3 [], ex (w.drop 5), E0⟩, (f5_ (w.drop 5)).isSome)
 else if w.getD 0 [] = b7_ then (⟨2, [], [], ex (w.drop 1), E0⟩, (f5_ (w.drop 1)).isSome)
 else if w.getD 0 [] = ea_ ∧ 0 < ej_ w b7_ then
  (⟨3, [], [], ex ((w.take (ej_ w b7_).toNat).drop 1), ex (w.drop ((ej_ w b7_).toNat + 1))⟩, (f5_ ((w.take (ej_ w b7_).toNat).drop 1)).isSome && (f5_ (w.drop ((ej_ w b7_).toNat + 1))).isSome)
 else (S0, false)
def lh_ (line : Str) : Option Sl :=
 match c0_ line with
 | none => none
 | some ts => if (fm_ (ts.map (·.s))).2 = true ∧ sok (fm_ (ts.map (·.s))).1 = true ∧ wl_ (fm_ (ts.map (·.s))).1 = line then some (fm_ (ts.map (·.s))).1 else none
theorem m4_ {s : Sl} (h : sok s = true) : (ch_ (sw' s)).length ≤ 116 ∧
  (s = S0 ∨ (s.kind = 1 ∧ g8_ s.name = true ∧ fp_ s.type = true ∧ eok s.expr = true ∧ s.thn = E0) ∨ (s.kind = 2 ∧ s.name = [] ∧ s.type = [] ∧ eok s.expr = true ∧ s.thn = E0) ∨ (s.kind = 3 ∧ s.name = [] ∧ s.type = [] ∧ eok s.expr = true ∧ eok s.thn = true)) := by
 simp only [sok, T5_, T3_] at h
 refine ⟨h.2, ?_⟩
 have h := h.1
 unfold di_ at h
 by_cases k0 : s.kind = 0
 ·simp [k0, d6_] at h
  left; cases s; simp_all [S0]
 by_cases k1 : s.kind = 1
 ·simp [k1, d6_] at h; exact .inr (.inl ⟨k1, h.1.1.1, h.1.1.2, h.1.2, h.2⟩)
 by_cases k2 : s.kind = 2
 ·simp [k2, d6_] at h; exact .inr (.inr (.inl ⟨k2, h.1.1.1, h.1.1.2, h.1.2, h.2⟩))
 by_cases k3 : s.kind = 3
 ·simp [k3] at h; exact .inr (.inr (.inr ⟨k3, h.1.1.1, h.1.1.2, h.1.2, h.2⟩))
 ·simp [k0, k1, k2, k3] at h
theorem vv_ {s : Bl} (h : bok s = true) : (ch_ (bw s)).length ≤ 120 ∧
  (s = B0 ∨ (s.kind = 1 ∧ g8_ s.name = true ∧ pe s.expr = true ∧ s.thn = E0) ∨ (s.kind = 2 ∧ s.name = [] ∧ pe s.expr = true ∧ s.thn = E0) ∨ (s.kind = 3 ∧ s.name = [] ∧ pe s.expr = true ∧ pe s.thn = true)) := by
 simp only [bok, T5_, T3_] at h
 refine ⟨h.2, ?_⟩
 have h := h.1
 unfold k0_ at h
 by_cases k0 : s.kind = 0
 ·simp [k0, d6_] at h
  left; cases s; simp_all [B0]
 by_cases k1 : s.kind = 1
 ·simp [k1, d6_] at h; exact .inr (.inl ⟨k1, h.1.1, h.1.2, h.2⟩)
 by_cases k2 : s.kind = 2
 ·simp [k2, d6_] at h; exact .inr (.inr (.inl ⟨k2, h.1.1, h.1.2, h.2⟩))
 by_cases k3 : s.kind = 3
 ·simp [k3] at h; exact .inr (.inr (.inr ⟨k3, h.1.1, h.1.2, h.2⟩))
 ·simp [k0, k1, k2, k3] at h
theorem su_ : et_ h7_ := hw_ (by decide)
theorem wa_ : et_ wEq := hw_ (by decide)
theorem af9_ {s : Sl} (h : sok s = true) : ∀ w ∈ sw' s, et_ w := by
 obtain ⟨_, h | ⟨k, h1, h2, h3, h4⟩ | ⟨k, h1, h2, h3, h4⟩ | ⟨k, h1, h2, h3, h4⟩⟩ := m4_ h
 ·subst h; intro w hw; simp [sw', S0] at hw
 ·intro w hw
  simp only [sw', k, if_true, List.mem_cons] at hw
  rcases hw with rfl | rfl | rfl | rfl | rfl | hw
  ·exact eu_ (by decide)
  ·exact p7_ h1
  ·exact su_
  ·exact s8_ h2
  ·exact wa_
  ·exact eq_ 5 _ 1 (b9_ h3) w hw
 ·intro w hw
  simp only [sw', k, show ¬ (2 : Int) = 1 by omega, if_false, if_true, List.mem_cons] at hw
  rcases hw with rfl | hw
  ·exact eu_ (by decide)
  ·exact eq_ 5 _ 1 (b9_ h3) w hw
 ·intro w hw
  simp only [sw', k, show ¬ (3 : Int) = 1 by omega, show ¬ (3 : Int) = 2 by omega, if_false, if_true, List.mem_cons, List.mem_append] at hw
  rcases hw with (rfl | hw) | rfl | hw
  ·exact eu_ (by decide)
  ·exact eq_ 5 _ 1 (b9_ h3) w hw
  ·exact eu_ (by decide)
  ·exact eq_ 5 _ 1 (b9_ h4) w hw
theorem ada_ {s : Bl} (h : bok s = true) : ∀ w ∈ bw s, et_ w := by
 obtain ⟨_, h | ⟨k, h1, h3, h4⟩ | ⟨k, h1, h3, h4⟩ | ⟨k, h1, h3, h4⟩⟩ := vv_ h
 ·subst h; intro w hw; simp [bw, B0] at hw
 ·intro w hw
  simp only [bw, k, if_true, List.mem_cons] at hw
  rcases hw with rfl | rfl | hw
  ·exact p7_ h1
  ·exact wa_
  ·exact eq_ 5 _ 1 (b9_ (hb_ h3)) w hw
 ·intro w hw
  simp only [bw, k, show ¬ (2 : Int) = 1 by omega, if_false, if_true, List.mem_cons] at hw
  rcases hw with rfl | hw
  ·exact eu_ (by decide)
  ·exact eq_ 5 _ 1 (b9_ (hb_ h3)) w hw
 ·intro w hw
  simp only [bw, k, show ¬ (3 : Int) = 1 by omega, show ¬ (3 : Int) = 2 by omega, if_false, if_true, List.mem_cons, List.mem_append] at hw
  rcases hw with (rfl | hw) | rfl | rfl | hw
  ·exact eu_ (by decide)
  ·exact eq_ 5 _ 1 (b9_ (hb_ h3)) w hw
  ·exact su_
  ·exact eu_ (by decide)
  ·exact eq_ 5 _ 1 (b9_ (hb_ h4)) w hw
theorem st_ {s : Sl} (h : sok s = true) : c0_ (wl_ s) = some (tkOf 0 (sw' s)) := ru_ (af9_ h) (by have := (m4_ h).1; omega)
theorem sb_ {e : E} {d : Nat} {r : List Str} (h : form e d = true) (must : Int) : ej_ (ea_ :: wds e must ++ b7_ :: r) b7_ = (wds e must).length + 1 := by
 rw [ac0_]
 ·simp
 ·intro x hx
  rcases List.mem_cons.1 hx with rfl | hx
  ·decide
  ·exact (o6_ d e must h x hx).1
theorem mr_ {e : E} (h : eok e = true) : f5_ (wds e 1) = some e := kt_.2 ⟨h, rfl⟩
theorem cut1 {a : Str} {l r : List Str} {x : Str} : ((a :: l ++ x :: r).take (l.length + 1)).drop 1 = l := by simp
theorem cut2 {a : Str} {l r : List Str} {x : Str} : (a :: l ++ x :: r).drop (l.length + 1 + 1) = r := by simp
theorem alp_ {s : Sl} (h : sok s = true) : rdS (sw' s) = s := by
 obtain ⟨_, h | ⟨k, h1, h2, h3, h4⟩ | ⟨k, h1, h2, h3, h4⟩ | ⟨k, h1, h2, h3, h4⟩⟩ := m4_ h
 ·subst h; rfl
 ·have hw : sw' s = ik_ :: s.name :: h7_ :: s.type :: wEq :: wds s.expr 1 := by simp only [sw', k, if_true]
  have := (c8_ h3 1).1
  rw [hw, rdS, if_pos ⟨by simp; omega, rfl⟩]
  simp only [List.getD_cons_succ, List.getD_cons_zero, List.drop_succ_cons, List.drop_zero, jt_ h3]
  cases s; simp_all
 ·have hw : sw' s = b7_ :: wds s.expr 1 := by simp [sw', k]
  rw [hw, rdS, if_neg (fun hh => absurd (show b7_ = ik_ from hh.2) (by decide)), if_pos ⟨by simp, rfl⟩]
  simp only [List.drop_succ_cons, List.drop_zero, jt_ h3]
  cases s; simp_all
 ·have hw : sw' s = ea_ :: wds s.expr 1 ++ b7_ :: wds s.thn 1 := by simp [sw', k]
  rw [hw, rdS, if_neg (fun hh => absurd (show ea_ = ik_ from hh.2) (by decide)), if_neg (fun hh => absurd (show ea_ = b7_ from hh.2) (by decide)), if_pos ⟨by simp, rfl⟩, sb_ (b9_ h3) 1, if_pos (by omega),
   show ((wds s.expr 1).length + 1 : Int).toNat = (wds s.expr 1).length + 1 by omega, cut1, cut2, jt_ h3, jt_ h4]
  cases s; simp_all
theorem akb_ {s : Sl} (h : sok s = true) : fm_ (sw' s) = (s, true) := by
 obtain ⟨_, h | ⟨k, h1, h2, h3, h4⟩ | ⟨k, h1, h2, h3, h4⟩ | ⟨k, h1, h2, h3, h4⟩⟩ := m4_ h
 ·subst h; rfl
 ·have hw : sw' s = ik_ :: s.name :: h7_ :: s.type :: wEq :: wds s.expr 1 := by simp only [sw', k, if_true]
  have := (c8_ h3 1).1
  rw [hw, fm_, if_neg (by simp), if_pos ⟨rfl, by simp; omega, rfl, rfl⟩]
  simp only [List.getD_cons_succ, List.getD_cons_zero, List.drop_succ_cons, List.drop_zero, jt_ h3, mr_ h3]
  cases s; simp_all
 ·have hw : sw' s = b7_ :: wds s.expr 1 := by simp [sw', k]
  rw [hw, fm_, if_neg (by simp), if_neg (fun hh => absurd (show b7_ = ik_ from hh.1) (by decide)), if_pos (show (b7_ :: wds s.expr 1).getD 0 [] = b7_ from rfl)]
  simp only [List.drop_succ_cons, List.drop_zero, jt_ h3, mr_ h3]
  cases s; simp_all
 ·have hw : sw' s = ea_ :: wds s.expr 1 ++ b7_ :: wds s.thn 1 := by simp [sw', k]
  rw [hw, fm_, if_neg (by simp), if_neg (fun hh => absurd (show ea_ = ik_ from hh.1) (by decide)), if_neg (show ¬ (ea_ :: wds s.expr 1 ++ b7_ :: wds s.thn 1).getD 0 [] = b7_ from fun hh => absurd (show ea_ = b7_ from hh) (by decide)), sb_ (b9_ h3) 1, if_pos ⟨rfl, by omega⟩,
   show ((wds s.expr 1).length + 1 : Int).toNat = (wds s.expr 1).length + 1 by omega, cut1, cut2, jt_ h3, jt_ h4, mr_ h3, mr_ h4]
  cases s; simp_all
theorem nr_ {line : Str} {s : Sl} : d4_ line = some s ↔ sok s = true ∧ wl_ s = line := by
 unfold d4_
 constructor
 ·intro h
  split at h
  ·cases h
  ·split at h
   ·rename_i hh; cases h; exact hh
   ·cases h
 ·rintro ⟨h1, rfl⟩
  rw [st_ h1]
  simp only [yf_, alp_ h1, h1, and_self, if_true]
theorem yi_ {line : Str} {s : Sl} : lh_ line = some s ↔ sok s = true ∧ wl_ s = line := by
 unfold lh_
 constructor
 ·intro h
  split at h
  ·cases h
  ·split at h
   ·rename_i hh; cases h; exact hh.2
   ·cases h
 ·rintro ⟨h1, rfl⟩
  rw [st_ h1]
  simp only [yf_, akb_ h1, h1, and_self, if_true]
theorem ajz_ {α : Type} {x y : Option α} (h : ∀ a, x = some a ↔ y = some a) : x = y := by
 cases x with
 | some a => exact ((h a).1 rfl).symm
 | none =>
  cases y with
  | none => rfl
  | some b => exact (h b).2 rfl
theorem agl_ (line : Str) : d4_ line = lh_ line := ajz_ fun s => by rw [nr_, yi_]
end
section
mutual
theorem td_ : ∀ (e : E) (d k : Nat), form e d = true → form e ((d + k : Nat) : Int) = true ∧ many e ((d + k : Nat) : Int) = many e d
 | .mk kd n s kids, d, k, h => by
  have hd : 1 ≤ d := by have := (b0_ h).1; omega
  obtain ⟨d, rfl⟩ : ∃ d', d = d' + 1 := ⟨d - 1, by omega⟩
  have e1 : ((d + 1 : Nat) : Int) - 1 = (d : Int) := by omega
  have e2 : ((d + 1 + k : Nat) : Int) - 1 = ((d + k : Nat) : Int) := by omega
  simp only [form, T5_, T3_] at h ⊢
  rw [e1] at h
  have := pz_ kids d k h.2
  rw [e2]
  refine ⟨⟨⟨by omega, h.1.2⟩, this.1⟩, ?_⟩
  simp only [many]
  rw [if_pos (by omega), if_pos (by omega), e1, e2, this.2]
theorem pz_ : ∀ (l : List E) (d k : Nat), d1_ l d = true → d1_ l ((d + k : Nat) : Int) = true ∧ dq_ l ((d + k : Nat) : Int) = dq_ l d
 | [], d, k, _ => by simp [d1_, dq_]
 | e :: r, d, k, h => by
  simp only [d1_, T5_] at h ⊢
  have h1 := td_ e d k h.1
  have h2 := pz_ r d k h.2
  simp only [dq_]
  exact ⟨⟨h1.1, h2.1⟩, by rw [h1.2, h2.2]⟩
end
def wid (l : List Str) : Nat := (l.map fun s => s.length + 1).sum
theorem u1_ : wid [] = 0 := rfl
theorem i6_ (s : Str) (l : List Str) : wid (s :: l) = s.length + 1 + wid l := rfl
theorem jc_ (a b : List Str) : wid (a ++ b) = wid a + wid b := by simp [wid, List.sum_append]
theorem z2_ (l : List Str) : wid l = (l.map List.length).sum + l.length := by
 induction l with
 | nil => rfl
 | cons s l ih => rw [i6_, ih, List.map_cons, List.sum_cons, T7_]; omega
theorem u3_ {l : List Str} (h : l ≠ []) : (ch_ l).length + 1 = wid l := by rw [g3_ l h, z2_]
theorem E.ext4 {e : E} {k n : Int} {s : Str} {l : List E} (h1 : e.kind = k) (h2 : e.n = n) (h3 : e.s = s) (h4 : e.kids = l) : e = .mk k n s l := by cases e; simp only [E.kind, E.n, E.s, E.kids] at *; subst h1 h2 h3 h4; rfl
theorem f9_ {e : E} (k : e.kind ≠ 4) (hl : e.kids = []) : bare e = e := by
 rw [ni_ k, hl]; simp only [fo_]; exact (E.ext4 rfl rfl rfl hl).symm
theorem ls_ {e : E} (k : e.kind = 3) (hl : e.kids.length = 2) : bare e = .mk 3 e.n e.s [bare (e.kids.getD 0 E0), bare (e.kids.getD 1 E0)] := by
 rw [ni_ (by omega), k]; conv => lhs; rw [i2_ hl]
 simp only [fo_]
theorem o2_ {e : E} (k : e.kind = 4) (hl : e.kids.length = 1) : bare e = bare (e.kids.getD 0 E0) := sw_ k (by omega)
theorem ga_ : ∀ (d : Nat) (e : E), form e d = true → form (bare e) d = true ∧ many (bare e) d ≤ many e d
 | 0, e, h => by have := (b0_ h).1; omega
 | d + 1, e, h => by
  have e1 : ((d + 1 : Nat) : Int) - 1 = (d : Int) := by omega
  obtain ⟨h0, h1 | h1 | h1 | h1⟩ := b0_ h
  ·rw [f9_ (by omega) h1.2.2.2.2]; exact ⟨h, Int.le_refl _⟩
  ·rw [f9_ (by omega) h1.2.2.2]; exact ⟨h, Int.le_refl _⟩
  ·obtain ⟨k, hn, ho, hl, ha, hb⟩ := h1
   rw [e1] at ha hb
   obtain ⟨a1, a2⟩ := ga_ d _ ha
   obtain ⟨b1, b2⟩ := ga_ d _ hb
   rw [ls_ k hl, iy_ h0 hl, e1]
   refine ⟨?_, ?_⟩
   ·simp only [form, d1_, e1, a1, b1, Bool.and_true, T5_, T3_]
    exact ⟨h0, by simp [shape, hn, ho]⟩
   ·rw [iy_ (e := .mk 3 e.n e.s [_, _]) h0 rfl, e1]
    show 1 + many (bare (e.kids.getD 0 E0)) d + many (bare (e.kids.getD 1 E0)) d ≤ _
    omega
  ·obtain ⟨k, hn, ho, hl, ha⟩ := h1
   rw [e1] at ha
   obtain ⟨a1, a2⟩ := ga_ d _ ha
   rw [o2_ k hl, kc_ h0 hl, e1]
   obtain ⟨m1, m2⟩ := td_ _ d 1 a1
   exact ⟨m1, by rw [m2]; omega⟩
theorem o8_ {e : E} (h : eok e = true) : pe (bare e) = true := by
 have h1 := ga_ 5 e (b9_ h)
 have h2 := iv_ h
 simp only [pe, eok, T5_, T3_]
 exact ⟨⟨h1.1, Int.le_trans h1.2 h2⟩, m0_ e (no_ h)⟩
theorem aes_ {e : E} {d : Nat} (h : form e d = true) {a b : Int} (hab : a ≤ b) : wid (wds e a) ≤ wid (wds e b) := by
 obtain ⟨h0, h1 | h1 | h1 | h1⟩ := b0_ h
 ·rw [ef_ h1.1, ef_ h1.1]; exact Nat.le_refl _
 ·rw [ds_ h1.1, ds_ h1.1]; exact Nat.le_refl _
 ·rw [ev_ h1.1 h1.2.2.2.1, ev_ h1.1 h1.2.2.2.1]
  split <;> split
  ·exact Nat.le_refl _
  ·omega
  ·simp only [jc_]; omega
  ·exact Nat.le_refl _
 ·rw [hy_ h1.1 h1.2.2.2.1, hy_ h1.1 h1.2.2.2.1]; exact Nat.le_refl _
theorem l1_ : ∀ (d : Nat) (e : E) (must : Int), must ≤ 4 → form e d = true → wid (wds (bare e) must) ≤ wid (wds e must)
 | 0, e, must, _, h => by have := (b0_ h).1; omega
 | d + 1, e, must, hm, h => by
  have e1 : ((d + 1 : Nat) : Int) - 1 = (d : Int) := by omega
  obtain ⟨h0, h1 | h1 | h1 | h1⟩ := b0_ h
  ·rw [f9_ (by omega) h1.2.2.2.2]; exact Nat.le_refl _
  ·rw [f9_ (by omega) h1.2.2.2]; exact Nat.le_refl _
  ·obtain ⟨k, hn, ho, hl, ha, hb⟩ := h1
   rw [e1] at ha hb
   have ht := da_ ho
   have A := l1_ d _ (max 2 (bt_ e.s)) (by omega) ha
   have B := l1_ d _ (bt_ e.s + 1) (by omega) hb
   rw [ls_ k hl, ev_ k hl, ev_ (e := .mk 3 e.n e.s [_, _]) rfl rfl]
   show wid (if bt_ e.s < must then [[40]] ++ (wds (bare (e.kids.getD 0 E0)) (max 2 (bt_ e.s)) ++ [e.s] ++ wds (bare (e.kids.getD 1 E0)) (bt_ e.s + 1)) ++ [[41]] else wds (bare (e.kids.getD 0 E0)) (max 2 (bt_ e.s)) ++ [e.s] ++ wds (bare (e.kids.getD 1 E0)) (bt_ e.s + 1)) ≤ _
   split <;> simp only [jc_] <;> omega
  ·obtain ⟨k, hn, ho, hl, ha⟩ := h1
   rw [e1] at ha
   have A := l1_ d _ 4 (by omega) ha
   have M := aes_ (ga_ d _ ha).1 hm
   rw [o2_ k hl, hy_ k hl, jc_]; omega
def offW (w : Str) : Prop := w ≠ wAs ∧ w ≠ [105, 110, 116] ∧ w ≠ [98, 111, 111, 108] ∧ w ≠ ik_ ∧ w ≠ b7_ ∧ w ≠ ea_
instance (w : Str) : Decidable (offW w) := by unfold offW; exact inferInstance
theorem ait_ {s : Sl} (h : di_ s = true) : wid (bw (bof s)) ≤ wid (sw' s) + 2 := by
 unfold di_ at h
 by_cases k0 : s.kind = 0
 ·simp [bw, sw', bof, k0, u1_]
 have hb : ∀ e : E, eok e = true → wid (wds (bare e) 1) ≤ wid (wds e 1) := fun e he => l1_ 5 e 1 (by decide) (b9_ he)
 by_cases k1 : s.kind = 1
 ·simp [k1] at h
  have := hb _ h.1.2
  simp [bw, sw', bof, k1, i6_, wEq, ik_, h7_]; omega
 by_cases k2 : s.kind = 2
 ·simp [k2] at h
  have := hb _ h.1.2
  simp [bw, sw', bof, k2, i6_, fs_, b7_]; omega
 by_cases k3 : s.kind = 3
 ·simp [k3] at h
  have h1 := hb _ h.1.2
  have h2 := hb _ h.2
  simp [bw, sw', bof, k3, i6_, jc_, fs_, b7_, wIf, ea_, h7_]; omega
 ·simp [k0, k1, k2, k3] at h
theorem hu_ {s : Sl} (h : di_ s = true) : k0_ (bof s) = true := by
 unfold di_ at h
 by_cases k0 : s.kind = 0
 ·simp [k0, d6_] at h; simp [k0_, bof, k0, h, q9_]
 by_cases k1 : s.kind = 1
 ·simp [k1, d6_] at h; simp [k0_, bof, k1, h, q9_, o8_ h.1.2]
 by_cases k2 : s.kind = 2
 ·simp [k2, d6_] at h; simp [k0_, bof, k2, h, q9_, o8_ h.1.2]
 by_cases k3 : s.kind = 3
 ·simp [k3] at h; simp [k0_, bof, k3, h, o8_ h.1.2, o8_ h.2]
 ·simp [k0, k1, k2, k3] at h
theorem anx_ {s : Sl} (h : s.kind = 1 ∨ s.kind = 2 ∨ s.kind = 3) : sw' s ≠ [] ∧ bw (bof s) ≠ [] := by
 rcases h with k | k | k <;> simp [sw', bw, bof, k]
theorem ad6_ {s : Sl} (h : di_ s = true) : (ch_ (bw (bof s))).length ≤ (ch_ (sw' s)).length + 2 := by
 have h1 := ait_ h
 by_cases hk : s.kind = 1 ∨ s.kind = 2 ∨ s.kind = 3
 ·obtain ⟨n1, n2⟩ := anx_ hk
  have t1 := u3_ n1
  have t2 := u3_ n2
  omega
 ·have : bw (bof s) = [] := by
   simp only [not_or] at hk
   simp [bw, bof, hk]
  rw [this]; simp [f4_]
theorem akh_ {s : Sl} (h : sok s = true) : di_ s = true ∧ (ch_ (sw' s)).length ≤ 116 := by
 simpa [sok] using h
theorem ai8_ {s : Sl} (h : sok s = true) : bok (bof s) = true := by
 obtain ⟨h1, h2⟩ := akh_ h
 have h3 := ad6_ h1
 simp only [bok, hu_ h1, Bool.true_and, T3_]; omega
end
section
def shf (k : Int) (l : Wd) : Wd := l.map fun p => if 0 ≤ p.2 then (p.1, p.2 + k) else p
theorem aiy_ (k : Int) (a b : Wd) : shf k (a ++ b) = shf k a ++ shf k b := by simp [shf]
theorem bg_ (k : Int) (a : Wd) : (shf k a).length = a.length := by simp [shf]
theorem mg_ (a : Wd) : shf 0 a = a := by
 unfold shf
 conv => rhs; rw [← List.map_id a]
 congr 1; funext p
 split <;> simp
theorem ux_ (k : Int) (a : Wd) : (shf k a).map (·.1) = a.map (·.1) := by
 unfold shf; rw [List.map_map]; congr 1; funext p; simp only [Function.comp]; split <;> rfl
mutual
def l8 : E → Int → Int → Wd
 | .mk k n s kids, t, b =>
  if k = 1 then [(Go.Lib.decDigits n.toNat, 0)]
  else if k = 2 then [(s, 0)]
  else if k = 3 then brk (decide (bt_ s < b)) (shf (if bt_ s < t then 1 else 0) (l8A kids (max 2 (bt_ s)) (max 2 (bt_ s)) ++ (s, wlA kids (max 2 (bt_ s))) :: shf (wlA kids (max 2 (bt_ s)) + 1) (l8B kids (bt_ s + 1))))
  else if k = 4 then l8A kids 4 b
  else []
def l8A : List E → Int → Int → Wd
 | [], _, _ => []
 | e :: _, t, b => l8 e t b
def l8B : List E → Int → Wd
 | [], _ => []
 | _ :: r, t => l8A r t t
def wlA : List E → Int → Int
 | [], _ => 0
 | e :: _, t => (wds e t).length
end
theorem ac3_ {e : E} (h : e.kind = 1) (t b : Int) : l8 e t b = [(Go.Lib.decDigits e.n.toNat, 0)] := by
 cases e; simp only [E.kind] at h; subst h; simp [l8, E.n]
theorem aau_ {e : E} (h : e.kind = 2) (t b : Int) : l8 e t b = [(e.s, 0)] := by
 cases e; simp only [E.kind] at h; subst h; simp [l8, E.s]
theorem afq_ {e : E} (h : e.kind = 3) (hl : e.kids.length = 2) (t b : Int) : l8 e t b = brk (decide (bt_ e.s < b)) (shf (if bt_ e.s < t then 1 else 0) (l8 (e.kids.getD 0 E0) (max 2 (bt_ e.s)) (max 2 (bt_ e.s)) ++ (e.s, ((wds (e.kids.getD 0 E0) (max 2 (bt_ e.s))).length : Int)) :: shf ((wds (e.kids.getD 0 E0) (max 2 (bt_ e.s))).length + 1) (l8 (e.kids.getD 1 E0) (bt_ e.s + 1) (bt_ e.s + 1)))) := by
 cases e with
 | mk k n s kids =>
  simp only [E.kind] at h; subst h
  simp only [E.kids] at hl
  match kids, hl with
  | [x, y], _ => simp [l8, l8A, l8B, wlA, E.s, E.kids]; rfl
theorem akw_ {e : E} (h : e.kind = 4) (hl : e.kids.length = 1) (t b : Int) : l8 e t b = l8 (e.kids.getD 0 E0) 4 b := by
 cases e with
 | mk k n s kids =>
  simp only [E.kind] at h; subst h
  simp only [E.kids] at hl
  match kids, hl with
  | [a], _ => simp [l8, l8A, E.kids]
def Trc (L : Wd) : Wd → Wd → Prop
 | [], [] => True
 | w :: B, c :: C => c.1 = w.1 ∧ ((w.2 = -1 ∧ c.2 = -1) ∨ (0 ≤ w.2 ∧ 0 ≤ c.2 ∧ L[c.2.toNat]? = some w)) ∧ Trc L B C
 | _, _ => False
theorem Trc.app {L : Wd} : ∀ {B C B' C' : Wd}, Trc L B C → Trc L B' C' → Trc L (B ++ B') (C ++ C')
 | [], [], _, _, _, h => h
 | [], _ :: _, _, _, h, _ => by simp [Trc] at h
 | _ :: _, [], _, _, h, _ => by simp [Trc] at h
 | w :: B, c :: C, B', C', h, k => by
  simp only [Trc] at h
  simp only [List.cons_append, Trc]
  exact ⟨h.1, h.2.1, h.2.2.app k⟩
theorem Trc.shf {L P : Wd} : ∀ {B C : Wd}, Trc L B C → Trc (P ++ L) B (Go.Proofs.YtefmbmafdgedmaaGreatDoor.shf P.length C)
 | [], [], _ => by simp [Go.Proofs.YtefmbmafdgedmaaGreatDoor.shf, Trc]
 | [], _ :: _, h => by simp [Trc] at h
 | _ :: _, [], h => by simp [Trc] at h
 | w :: B, c :: C, h => by
  simp only [Trc] at h
  have ih := h.2.2.shf (P := P)
  simp only [Go.Proofs.YtefmbmafdgedmaaGreatDoor.shf, List.map_cons, Trc] at ih ⊢
  rcases h.2.1 with ⟨h1, h2⟩ | ⟨h1, h2, h3⟩
  ·rw [if_neg (by omega)]; exact ⟨h.1, .inl ⟨h1, h2⟩, ih⟩
  ·rw [if_pos h2]
   refine ⟨h.1, .inr ⟨h1, by dsimp only; omega, ?_⟩, ih⟩
   dsimp only
   rw [show (c.2 + (P.length : Int)).toNat = P.length + c.2.toNat by omega, List.getElem?_append_right (by omega), Nat.add_sub_cancel_left]
   exact h3
theorem Trc.right {L Q : Wd} : ∀ {B C : Wd}, Trc L B C → Trc (L ++ Q) B C
 | [], [], _ => by simp [Trc]
 | [], _ :: _, h => by simp [Trc] at h
 | _ :: _, [], h => by simp [Trc] at h
 | w :: B, c :: C, h => by
  simp only [Trc] at h ⊢
  refine ⟨h.1, ?_, h.2.2.right⟩
  rcases h.2.1 with h1 | ⟨h1, h2, h3⟩
  ·exact .inl h1
  ·exact .inr ⟨h1, h2, by rw [List.getElem?_append_left (List.getElem?_eq_some_iff.1 h3).1]; exact h3⟩
theorem Trc.brk {L B C : Wd} (b : Bool) (h : Trc L B C) : Trc L (Go.Proofs.YtefmbmafdgedmaaGreatDoor.brk b B) (Go.Proofs.YtefmbmafdgedmaaGreatDoor.brk b C) := by
 cases b with
 | false => exact h
 | true =>
  simp only [Go.Proofs.YtefmbmafdgedmaaGreatDoor.brk, if_true, Trc]
  refine ⟨trivial, .inl ⟨trivial, trivial⟩, h.app ?_⟩
  simp [Trc]
theorem xx_ {e : E} (h : e.kind = 1 ∨ e.kind = 2) (hl : e.kids = []) : cnt e = 1 := by
 cases e; simp only [E.kind, E.kids] at h hl; subst hl; rcases h with h | h <;> subst h <;> simp [cnt, rt_]
theorem j4_ : ∀ (d : Nat) (e : E), form e d = true → cnt (bare e) = cnt e
 | 0, e, h => by have := (b0_ h).1; omega
 | d + 1, e, h => by
  have e1 : ((d + 1 : Nat) : Int) - 1 = (d : Int) := by omega
  obtain ⟨h0, h1 | h1 | h1 | h1⟩ := b0_ h
  ·rw [f9_ (by omega) h1.2.2.2.2]
  ·rw [f9_ (by omega) h1.2.2.2]
  ·obtain ⟨k, hn, ho, hl, ha, hb⟩ := h1
   rw [e1] at ha hb
   rw [ls_ k hl, mz_ (e := .mk 3 e.n e.s [_, _]) rfl rfl, mz_ k hl]
   show 1 + cnt (bare (e.kids.getD 0 E0)) + cnt (bare (e.kids.getD 1 E0)) = _
   rw [j4_ d _ ha, j4_ d _ hb]
  ·obtain ⟨k, hn, ho, hl, ha⟩ := h1
   rw [e1] at ha
   rw [o2_ k hl, un_ k hl, j4_ d _ ha]
theorem o7_ {e : E} (h : e.kind = 1) (must nx : Int) : src e must nx = [(Go.Lib.decDigits e.n.toNat, nx)] := by
 cases e; simp only [E.kind] at h; subst h; simp [src, E.n]
theorem mh_ {e : E} (h : e.kind = 2) (must nx : Int) : src e must nx = [(e.s, nx)] := by
 cases e; simp only [E.kind] at h; subst h; simp [src, E.s]
theorem ng_ (e : E) (must nx : Int) : (src e must nx).length = (wds e must).length := by
 rw [← e9_ e must nx, List.length_map]
theorem jj_ : ∀ (d : Nat) (e : E) (t b nx : Int), form e d = true → t ≤ 4 → b ≤ 4 → 0 ≤ nx → Trc (src e t nx) (src (bare e) b nx) (l8 e t b)
 | 0, e, t, b, nx, h, _, _, _ => by have := (b0_ h).1; omega
 | d + 1, e, t, b, nx, h, ht, hb4, hn0 => by
  have e1 : ((d + 1 : Nat) : Int) - 1 = (d : Int) := by omega
  obtain ⟨h0, h1 | h1 | h1 | h1⟩ := b0_ h
  ·rw [f9_ (by omega) h1.2.2.2.2, o7_ h1.1, o7_ h1.1, ac3_ h1.1]
   simp [Trc, hn0]
  ·rw [f9_ (by omega) h1.2.2.2, mh_ h1.1, mh_ h1.1, aau_ h1.1]
   simp [Trc, hn0]
  ·obtain ⟨k, hn, ho, hl, ha, hb⟩ := h1
   rw [e1] at ha hb
   have htt := da_ ho
   have A := jj_ d _ (max 2 (bt_ e.s)) (max 2 (bt_ e.s)) (nx + 1) ha (by omega) (by omega) (by omega)
   have hc := dw_ d _ 0 ha
   have B := jj_ d _ (bt_ e.s + 1) (bt_ e.s + 1) (nx + 1 + cnt (e.kids.getD 0 E0)) hb (by omega) (by omega) (by omega)
   rw [ls_ k hl, ic_ k hl, ic_ (e := .mk 3 e.n e.s [_, _]) rfl rfl, afq_ k hl]
   refine Trc.brk _ ?_
   show Trc _ (src (bare (e.kids.getD 0 E0)) (max 2 (bt_ e.s)) (nx + 1) ++ (e.s, nx) :: src (bare (e.kids.getD 1 E0)) (bt_ e.s + 1) (nx + 1 + cnt (bare (e.kids.getD 0 E0)))) _
   rw [j4_ d _ ha]
   have core : Trc (src (e.kids.getD 0 E0) (max 2 (bt_ e.s)) (nx + 1) ++ (e.s, nx) :: src (e.kids.getD 1 E0) (bt_ e.s + 1) (nx + 1 + cnt (e.kids.getD 0 E0)))
     (src (bare (e.kids.getD 0 E0)) (max 2 (bt_ e.s)) (nx + 1) ++ (e.s, nx) :: src (bare (e.kids.getD 1 E0)) (bt_ e.s + 1) (nx + 1 + cnt (e.kids.getD 0 E0)))
     (l8 (e.kids.getD 0 E0) (max 2 (bt_ e.s)) (max 2 (bt_ e.s)) ++ (e.s, ((wds (e.kids.getD 0 E0) (max 2 (bt_ e.s))).length : Int)) :: shf ((wds (e.kids.getD 0 E0) (max 2 (bt_ e.s))).length + 1) (l8 (e.kids.getD 1 E0) (bt_ e.s + 1) (bt_ e.s + 1))) := by
    refine A.right.app ?_
    have B2 := B.shf (P := src (e.kids.getD 0 E0) (max 2 (bt_ e.s)) (nx + 1) ++ [(e.s, nx)])
    rw [T2_, ng_, List.length_singleton, List.append_assoc, List.singleton_append] at B2
    simp only [Trc]
    refine ⟨trivial, .inr ⟨hn0, by omega, ?_⟩, by simpa using B2⟩
    rw [Int.toNat_natCast, ← ng_ _ _ (nx + 1), List.getElem?_append_right (Nat.le_refl _), Nat.sub_self]; rfl
   cases hlt : decide (bt_ e.s < t) with
   | false =>
    simp only [T4_] at hlt
    rw [if_neg hlt, mg_]; exact core
   | true =>
    simp only [T3_] at hlt
    rw [if_pos hlt]
    have := (core.shf (P := [([40], -1)])).right (Q := [([41], -1)])
    simpa [brk] using this
  ·obtain ⟨k, hn, ho, hl, ha⟩ := h1
   rw [e1] at ha
   rw [o2_ k hl, n0_ k hl, akw_ k hl]
   exact (jj_ d _ 4 b nx ha (by omega) hb4 hn0).right
theorem Trc.fst {L : Wd} : ∀ {B C : Wd}, Trc L B C → C.map (·.1) = B.map (·.1)
 | [], [], _ => rfl
 | [], _ :: _, h => by simp [Trc] at h
 | _ :: _, [], h => by simp [Trc] at h
 | w :: B, c :: C, h => by
  simp only [Trc] at h
  simp only [List.map_cons, h.1, h.2.2.fst]
def ids (l : Wd) : List Int := (l.map (·.2)).filter fun k => decide (0 ≤ k)
theorem pd_ (a b : Wd) : ids (a ++ b) = ids a ++ ids b := by simp [ids]
theorem i3_ (p : Str × Int) (b : Wd) : ids (p :: b) = if 0 ≤ p.2 then p.2 :: ids b else ids b := by
 simp only [ids, List.map_cons, List.filter_cons, T3_]
theorem zp_ : ids [] = [] := rfl
theorem ajh_ (b : Bool) (l : Wd) : ids (brk b l) = ids l := by
 cases b <;> simp [brk, pd_, i3_, zp_]
theorem ph_ : ∀ (d : Nat) (e : E) (must nx : Int), form e d = true → 0 ≤ nx → (ids (src e must nx)).Nodup ∧ ∀ i ∈ ids (src e must nx), nx ≤ i ∧ i < nx + cnt e
 | 0, e, must, nx, h, _ => by have := (b0_ h).1; omega
 | d + 1, e, must, nx, h, hn0 => by
  have e1 : ((d + 1 : Nat) : Int) - 1 = (d : Int) := by omega
  obtain ⟨h0, h1 | h1 | h1 | h1⟩ := b0_ h
  ·rw [o7_ h1.1, xx_ (.inl h1.1) h1.2.2.2.2]; simp [ids, hn0]; omega
  ·rw [mh_ h1.1, xx_ (.inr h1.1) h1.2.2.2]; simp [ids, hn0]; omega
  ·obtain ⟨k, hn, ho, hl, ha, hb⟩ := h1
   rw [e1] at ha hb
   have hc := dw_ d _ 0 ha
   have hc2 := dw_ d _ 0 hb
   obtain ⟨a1, a2⟩ := ph_ d _ (max 2 (bt_ e.s)) (nx + 1) ha (by omega)
   obtain ⟨b1, b2⟩ := ph_ d _ (bt_ e.s + 1) (nx + 1 + cnt (e.kids.getD 0 E0)) hb (by omega)
   rw [ic_ k hl, ajh_, pd_, i3_, if_pos hn0, mz_ k hl]
   refine ⟨?_, fun i hi => ?_⟩
   ·rw [List.nodup_append]
    refine ⟨a1, List.nodup_cons.2 ⟨fun hm => by have := b2 _ hm; omega, b1⟩, fun x hx y hy => ?_⟩
    have q1 := a2 x hx
    rcases List.mem_cons.1 hy with rfl | hy
    ·omega
    ·have q2 := b2 y hy; omega
   ·rcases List.mem_append.1 hi with hi | hi
    ·have := a2 i hi; omega
    ·rcases List.mem_cons.1 hi with rfl | hi
     ·omega
     ·have := b2 i hi; omega
  ·obtain ⟨k, hn, ho, hl, ha⟩ := h1
   rw [e1] at ha
   rw [n0_ k hl, pd_, un_ k hl]
   have := ph_ d _ 4 nx ha hn0
   have e2 : ids [([97, 115], -1), (e.s, -1)] = [] := by simp [ids]
   rw [e2, List.append_nil]; exact this
def gk_ : Int → Wd → Int → Int
 | _, [], _ => -1
 | c, w :: r, i => if w.2 = i then c else gk_ (c + w.1.length + 1) r i
def g9_ (l : Wd) : Int := (wid (l.map (·.1)) : Int)
theorem s9_ (w : Str × Int) (l : Wd) : g9_ (w :: l) = w.1.length + 1 + g9_ l := by simp [g9_, i6_]
theorem m2_ (a b : Wd) : g9_ (a ++ b) = g9_ a + g9_ b := by simp [g9_, jc_]
theorem mj_ : g9_ [] = 0 := rfl
theorem p1_ (l : Wd) : 0 ≤ g9_ l := by unfold g9_; omega
theorem n2_ (i : Int) : ∀ (a b : Wd) (c : Int), gk_ c (a ++ b) i = if i ∈ a.map (·.2) then gk_ c a i else gk_ (c + g9_ a) b i
 | [], b, c => by simp [mj_]
 | w :: a, b, c => by
  have ih := n2_ i a b (c + w.1.length + 1)
  simp only [List.cons_append, gk_, List.map_cons, List.mem_cons]
  by_cases h : w.2 = i
  ·simp [h]
  ·have h' : ¬ i = w.2 := fun e => h e.symm
   simp only [h, if_false, h', false_or, ih, s9_]
   split
   ·rfl
   ·congr 1; omega
theorem m7_ (i : Int) (d : Int) : ∀ (a : Wd) (c : Int), i ∈ a.map (·.2) → gk_ (c + d) a i = gk_ c a i + d
 | [], c, h => by simp at h
 | w :: a, c, h => by
  simp only [gk_]
  by_cases e : w.2 = i
  ·rw [if_pos e, if_pos e]
  ·rw [if_neg e, if_neg e]
   simp only [List.map_cons, List.mem_cons] at h
   have := m7_ i d a (c + w.1.length + 1) (h.resolve_left fun q => e q.symm)
   rw [← this]; congr 1; omega
theorem t4_ {l : Wd} {i : Int} : i ∈ ids l ↔ i ∈ l.map (·.2) ∧ 0 ≤ i := by simp [ids]
theorem l0_ : ∀ {l : Wd} {j : Nat} {w : Str × Int} (c : Int), (ids l).Nodup → l[j]? = some w → 0 ≤ w.2 → (df_ c (l.map (·.1)))[j]? = some (gk_ c l w.2)
 | [], j, w, c, _, h, _ => by simp at h
 | v :: l, 0, w, c, _, h, _ => by
  simp only [List.getElem?_cons_zero, Option.some.injEq] at h; subst h
  simp [df_, gk_]
 | v :: l, j + 1, w, c, hn, h, h0 => by
  simp only [List.getElem?_cons_succ] at h
  have hm : w.2 ∈ ids l := t4_.2 ⟨List.mem_map.2 ⟨w, List.mem_of_getElem? h, rfl⟩, h0⟩
  rw [i3_] at hn
  have hne : v.2 ≠ w.2 := fun e => by
   rw [if_pos (by omega)] at hn
   exact (List.nodup_cons.1 hn).1 (by rw [e]; exact hm)
  have hn' : (ids l).Nodup := by
   split at hn
   ·exact (List.nodup_cons.1 hn).2
   ·exact hn
  simp only [List.map_cons, df_, List.getElem?_cons_succ, gk_, if_neg hne]
  exact l0_ _ hn' h h0
theorem sn_ : ∀ (M : List (Int × Int)) (k v i : Int), jw_ (kx_ M k v) i = if i = k then some v else jw_ M i
 | [], k, v, i => by simp [kx_, jw_]
 | (a, b) :: M, k, v, i => by
  have ih := sn_ M k v i
  simp only [kx_]
  by_cases h : k = a
  ·subst h
   simp only [if_true, jw_]
   split <;> rfl
  ·rw [if_neg h]
   simp only [jw_, ih]
   by_cases e : i = a
   ·rw [if_pos e, if_neg (fun q => h (q.symm.trans e)), if_pos e]
   ·rw [if_neg e, if_neg e]
def ou_ (l : Wd) (k : Nat) : List (Int × Int) := (((l.map (·.2)).zip (df_ 0 (l.map (·.1)))).take k).foldl (fun M p => kx_ M p.1 p.2) []
theorem bm_ : ∀ (c : Int) (l : List Str), (df_ c l).length = l.length
 | _, [] => rfl
 | c, w :: r => by simp only [df_, T7_, bm_]
theorem abl_ (l : Wd) : ou_ l 0 = [] := rfl
theorem acu_ {l : Wd} {k : Nat} (h : k < l.length) : ou_ l (k + 1) = kx_ (ou_ l k) (l.getD k ([], 0)).2 ((df_ 0 (l.map (·.1))).getD k 0) := by
 have h2 : k < ((l.map (·.2)).zip (df_ 0 (l.map (·.1)))).length := by rw [List.length_zip, List.length_map, bm_, List.length_map]; omega
 have h3 : k < (df_ 0 (l.map (·.1))).length := by rw [bm_, List.length_map]; exact h
 unfold ou_
 rw [List.take_add_one, T6_ h2, List.foldl_append]
 simp [T8_, T6_ h, T6_ h3]
theorem ss_ (i v : Int) : ∀ (Z M : List (Int × Int)), (∀ c, (i, c) ∈ Z → c = v) → ((i, v) ∈ Z ∨ jw_ M i = some v) → jw_ (Z.foldl (fun M p => kx_ M p.1 p.2) M) i = some v
 | [], M, _, h => by simpa using h
 | (a, b) :: Z, M, hu, h => by
  refine ss_ i v Z _ (fun c hc => hu c (List.mem_cons_of_mem _ hc)) ?_
  rw [sn_]
  by_cases e : i = a
  ·subst e
   have := hu b List.mem_cons_self
   subst this
   right; simp
  ·rw [if_neg e]
   rcases h with h | h
   ·rcases List.mem_cons.1 h with h | h
    ·simp only [Prod.mk.injEq] at h; exact absurd h.1 e
    ·exact .inl h
   ·exact .inr h
theorem ae4_ {l : Wd} (hn : (ids l).Nodup) {i : Int} (hi : i ∈ ids l) : jw_ (ou_ l l.length) i = some (gk_ 0 l i) := by
 obtain ⟨hm, h0⟩ := t4_.1 hi
 obtain ⟨w, hw, hwi⟩ := List.mem_map.1 hm
 have hz : ∀ c, (i, c) ∈ (l.map (·.2)).zip (df_ 0 (l.map (·.1))) → c = gk_ 0 l i := fun c hc => by
  obtain ⟨j, hj⟩ := List.mem_iff_getElem?.1 hc
  rw [List.getElem?_zip_eq_some] at hj
  obtain ⟨j1, j2⟩ := hj
  rw [List.getElem?_map] at j1
  obtain ⟨u, u1, u2⟩ := Option.map_eq_some_iff.1 j1
  have := l0_ 0 hn u1 (by rw [u2]; exact h0)
  rw [j2, u2] at this
  exact Option.some.inj this
 unfold ou_
 rw [T1_ (by rw [List.length_zip, List.length_map]; omega)]
 refine ss_ i _ _ _ hz (.inl ?_)
 obtain ⟨j, hj⟩ := List.mem_iff_getElem?.1 hw
 have := l0_ 0 hn hj (by rw [hwi]; exact h0)
 rw [hwi] at this
 refine List.mem_iff_getElem?.2 ⟨j, ?_⟩
 rw [List.getElem?_zip_eq_some]
 exact ⟨by rw [List.getElem?_map, hj]; simp [hwi], this⟩
theorem nh_ : ∀ (l : List Str) (c : Int) {k : Nat}, k < l.length → (df_ c l).getD k 0 = c + wid (l.take k)
 | [], c, k, h => by simp at h
 | w :: r, c, 0, _ => by simp [df_, u1_]
 | w :: r, c, k + 1, h => by
  have := nh_ r (c + w.length + 1) (k := k) (by simpa using h)
  simp only [df_, List.getD_cons_succ, List.take_succ_cons, i6_, this]
  omega
theorem aem_ {l : List Str} {k : Nat} (h : k < l.length) : wid (l.take (k + 1)) = wid (l.take k) + ((l.getD k []).length + 1) := by
 rw [List.take_add_one, T6_ h, jc_, T8_, T6_ h]; rfl
theorem ajq_ (l : List Str) (k : Nat) : wid (l.take k) ≤ wid l := by
 conv => rhs; rw [← List.take_append_drop k l]
 rw [jc_]; omega
theorem Trc.lt {L : Wd} : ∀ {B C : Wd}, Trc L B C → ∀ p ∈ C, -1 ≤ p.2 ∧ p.2 < (L.length : Int)
 | [], [], _ => by simp
 | [], _ :: _, h => by simp [Trc] at h
 | _ :: _, [], h => by simp [Trc] at h
 | w :: B, c :: C, h => by
  simp only [Trc] at h
  intro p hp
  rcases List.mem_cons.1 hp with rfl | hp
  ·rcases h.2.1 with ⟨_, h2⟩ | ⟨_, h2, h3⟩
   ·omega
   ·have := (List.getElem?_eq_some_iff.1 h3).1; omega
  ·exact h.2.2.lt p hp
theorem Trc.len {L : Wd} {B C : Wd} (h : Trc L B C) : C.length = B.length := by
 have := congrArg List.length h.fst; simpa using this
theorem ja_ (d : Nat) (e : E) (h : form e d = true) (hm : many e d ≤ 1000) (m : Int) : (wds e m).length ≤ 3000 := by
 have := dw_ d e m h; omega
theorem lu_ {d : Nat} {e : E} {t b : Int} (h : form e d = true) (hm : many e d ≤ 1000) (ht : t ≤ 4) (hb : b ≤ 4) : (l8 e t b).length ≤ 3000 ∧ ∀ p ∈ l8 e t b, -1 ≤ p.2 ∧ p.2 ≤ 3000 := by
 have T := jj_ d e t b 0 h ht hb (by decide)
 have h1 := ga_ d e h
 have q1 := ja_ d e h hm t
 have q2 := ja_ d (bare e) h1.1 (by omega) b
 refine ⟨by rw [T.len, ng_]; exact q2, fun p hp => ?_⟩
 have := T.lt p hp
 rw [ng_] at this
 omega
def l8c (e : E) : Wd :=
 if e.kind = 1 then [(Go.Lib.decDigits e.n.toNat, 0)]
 else if e.kind = 2 then [(e.s, 0)]
 else l8 (e.kids.getD 0 E0) (max 2 (bt_ e.s)) (max 2 (bt_ e.s)) ++ (e.s, ((wds (e.kids.getD 0 E0) (max 2 (bt_ e.s))).length : Int)) :: shf ((wds (e.kids.getD 0 E0) (max 2 (bt_ e.s))).length + 1) (l8 (e.kids.getD 1 E0) (bt_ e.s + 1) (bt_ e.s + 1))
theorem ajr_ {e : E} (hk : e.kind = 1 ∨ e.kind = 2 ∨ e.kind = 3 ∧ e.kids.length = 2) (t b : Int) : l8 e t b = brk (decide (e.kind = 3 ∧ bt_ e.s < b)) (shf (if e.kind = 3 ∧ bt_ e.s < t then 1 else 0) (l8c e)) := by
 rcases hk with hk | hk | ⟨hk, hl⟩
 ·rw [ac3_ hk]; simp [l8c, hk, mg_, brk]
 ·rw [aau_ hk]; simp [l8c, hk, mg_, brk]
 ·rw [afq_ hk hl]; simp [l8c, hk]
def l8L (s : Sl) : Wd :=
 if s.kind = 1 then (s.name, 1) :: (wEq, 4) :: shf 5 (l8 s.expr 1 1)
 else if s.kind = 2 then (fs_, 0) :: shf 1 (l8 s.expr 1 1)
 else if s.kind = 3 then ((wIf, 0) :: shf 1 (l8 s.expr 1 1) ++ [(h7_, -1), (fs_, ((wds s.expr 1).length : Int) + 1)]) ++ shf ((wds s.expr 1).length + 2) (l8 s.thn 1 1)
 else []
def ju_ (s : Sl) : List Int := (l8L s).map fun c => if c.2 < 0 then -1 else (df_ 0 (sw' s)).getD c.2.toNat 0
end
end Go.Proofs.YtefmbmafdgedmaaGreatDoor
