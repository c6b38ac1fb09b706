/- The program's reader of what is reckoned, as a plain function; it reads back what is written. Conditions: none. -/
import Derived.Test.YtefmbmafdgedmaaGreatDoorKc
import Derived.Test.YtefmbmafdgedmaaGreatDoorKb
set_option linter.unusedVariables false
set_option linter.unusedSimpArgs false
namespace Go.Proofs.YtefmbmafdgedmaaGreatDoor
section
structure RS where
 left : List Str
 bad : Bool
 deep : Int
def wAs : Str := [97, 115]
def b3_ (s : RS) : Str := match s.left with | [] => [] | x :: _ => x
def bq_ (s : RS) : RS := match s.left with | [] => { s with bad := true } | _ :: r => { s with left := r }
def asL : List Str → E → Int → E × RS
 | [], e, d => (e, ⟨[], false, d⟩)
 | [w], e, d => if w = wAs then (.mk 4 0 [] [e], ⟨[], true, d⟩) else (e, ⟨[w], false, d⟩)
 | w :: t :: r, e, d => if w = wAs then asL r (.mk 4 0 t [e]) d else (e, ⟨w :: t :: r, false, d⟩)
def asR (s : RS) (e : E) : E × RS := if s.bad then (e, s) else asL s.left e s.deep
mutual
def ce_ : Nat → Nat → RS → E × RS
 | 0, _, s => (E0, s)
 | n + 1, t, s => if t = 4 then dx_ n s else dd_ n t (ce_ n (t + 1) s).1 (ce_ n (t + 1) s).2
def dd_ : Nat → Nat → E → RS → E × RS
 | 0, _, e, s => (e, s)
 | n + 1, t, e, s => if s.bad = false ∧ s.left ≠ [] ∧ br_ (b3_ s) = t then
   dd_ n t (.mk 3 0 (b3_ s) [e, (ce_ n (t + 1) (bq_ s)).1]) (ce_ n (t + 1) (bq_ s)).2 else (e, s)
def dx_ : Nat → RS → E × RS
 | 0, s => (E0, s)
 | n + 1, s => asR (dw_ n (b3_ s) (bq_ s)).2 (dw_ n (b3_ s) (bq_ s)).1
def dw_ : Nat → Str → RS → E × RS
 | 0, _, s => (E0, s)
 | n + 1, w, s =>
  if w = [40] then
   if s.bad = true ∨ 40 < s.deep + 1 then (E0, { s with deep := s.deep + 1, bad := true })
   else
    let p := ce_ n 1 { s with deep := s.deep + 1 }
    (p.1, if p.2.bad then p.2 else { bq_ p.2 with bad := !(b3_ p.2 == [41]) })
  else if cw_ w then (.mk 1 (b9_ w) [] [], s)
  else if f3_ w then (.mk 2 0 w [], s)
  else (E0, { s with bad := true })
end
theorem cv_ (s : RS) : (bq_ s).left.length ≤ s.left.length := by
 unfold bq_; split <;> simp_all
theorem qp_ : ∀ (l : List Str) (e : E) (d : Int), (asL l e d).2.left.length ≤ l.length ∧ (asL l e d).2.deep = d
 | [], e, d => by simp [asL]
 | [w], e, d => by simp only [asL]; split <;> simp
 | w :: t :: r, e, d => by
  simp only [asL]
  split
  ·have := qp_ r (.mk 4 0 t [e]) d; simp only [T7_]; omega
  ·simp
theorem vk_ (s : RS) (e : E) : (asR s e).2.left.length ≤ s.left.length := by
 unfold asR; split
 ·exact Nat.le_refl _
 ·exact (qp_ s.left e s.deep).1
theorem zk_ (s : RS) (e : E) : (asR s e).2.deep = s.deep := by
 unfold asR; split
 ·rfl
 ·exact (qp_ s.left e s.deep).2
theorem jm_ (s : RS) : (bq_ s).deep = s.deep := by unfold bq_; split <;> rfl
theorem o7_ : ∀ (n : Nat), (∀ t s, (ce_ n t s).2.left.length ≤ s.left.length) ∧ (∀ t e s, (dd_ n t e s).2.left.length ≤ s.left.length) ∧ (∀ s, (dx_ n s).2.left.length ≤ s.left.length) ∧ (∀ w s, (dw_ n w s).2.left.length ≤ s.left.length)
 | 0 => by simp [ce_, dd_, dx_, dw_]
 | n + 1 => by
  obtain ⟨h1, h2, h3, h4⟩ := o7_ n
  refine ⟨fun t s => ?_, fun t e s => ?_, fun s => ?_, fun w s => ?_⟩
  ·simp only [ce_]; split
   ·exact h3 s
   ·exact Nat.le_trans (h2 _ _ _) (h1 _ _)
  ·simp only [dd_]; split
   ·exact Nat.le_trans (h2 _ _ _) (Nat.le_trans (h1 _ _) (cv_ s))
   ·exact Nat.le_refl _
  ·simp only [dx_]; exact Nat.le_trans (vk_ _ _) (Nat.le_trans (h4 _ _) (cv_ s))
  ·simp only [dw_]
   split
   ·split
    ·exact Nat.le_refl _
    ·dsimp only
     split
     ·exact h1 _ _
     ·exact Nat.le_trans (cv_ _) (h1 _ _)
   ·split
    ·exact Nat.le_refl _
    ·split <;> exact Nat.le_refl _
def okR (t : Nat) (l : List Str) : Prop := l.head? ≠ some wAs ∧ ∀ w, l.head? = some w → br_ w ≤ t
theorem tn_ {l : List Str} {e : E} {d : Int} (h : l.head? ≠ some wAs) : asL l e d = (e, ⟨l, false, d⟩) := by
 match l, h with
 | [], _ => rfl
 | [w], h => simp only [asL]; rw [if_neg (fun e => h (by rw [e]; rfl))]
 | w :: t :: r, h => simp only [asL]; rw [if_neg (fun e => h (by rw [e]; rfl))]
theorem gu_ {n t : Nat} {e : E} {l : List Str} {d : Int} (h : ∀ w, l.head? = some w → br_ w ≠ t) : dd_ n t e ⟨l, false, d⟩ = (e, ⟨l, false, d⟩) := by
 cases n with
 | zero => rfl
 | succ n =>
  simp only [dd_]
  rw [if_neg]
  rintro ⟨_, h1, h2⟩
  cases l with
  | nil => exact h1 rfl
  | cons w r => exact h w rfl h2
def eff (e : E) (must : Int) : Int := if e.kind = 3 ∧ ¬ br_ e.s < must then br_ e.s else 4
theorem nt_ {s : Str} (h : fp_ s = true) : s ≠ wAs ∧ s ≠ [41] := by
 simp only [fp_, Bool.or_eq_true, beq_iff_eq] at h; rcases h with ((h | h) | h) | h <;> subst h <;> decide
theorem tk_ {s : Str} (h : f3_ s = true) : s ≠ [40] ∧ cw_ s = false := by
 have h1 : s.all cz_ = true ∧ 1 ≤ s.length := by simp only [f3_, e6_, T5_, T3_] at h; exact ⟨h.1.1.1, h.1.1.2⟩
 refine ⟨fun e => by subst e; exact absurd h1.1 (by decide), ?_⟩
 rw [Bool.eq_false_iff]; intro hn
 obtain ⟨n, _, rfl⟩ := d5_.1 hn
 have hd := d1_ n
 cases hl : Go.Lib.decDigits n with
 | nil => rw [hl] at h1; simp at h1
 | cons c r =>
  rw [hl] at h1 hd
  have h2 := hd c (by simp)
  simp only [List.all_cons, T5_, cz_, T3_] at h1
  unfold fh_ at h2; omega
theorem i4_ {n : Nat} (h : n ≤ 1000000) : cw_ (Go.Lib.decDigits n) = true ∧ b9_ (Go.Lib.decDigits n) = n ∧ Go.Lib.decDigits n ≠ [40] := by
 refine ⟨d5_.2 ⟨n, h, rfl⟩, d7_ n, fun e => ?_⟩
 have := d1_ n 40 (by rw [e]; simp)
 unfold fh_ at this; revert this; decide
theorem vr_ {e : E} {must : Int} (h : e.kind = 3) (hl : e.kids.length = 2) (ht : br_ e.s < must) : wds e must = [40] :: (wds e 0 ++ [[41]]) := by
 rw [fi_ h hl, if_pos ht, fi_ h hl, if_neg (by have := tight_nn e.s; omega)]; simp
where
 tight_nn (s : Str) : 0 ≤ br_ s := by unfold br_; split; decide; split; decide; split <;> decide
theorem fl_ (e : E) (must : Int) (h : must ≤ 4) : must ≤ eff e must := by unfold eff; split <;> omega
theorem mr_ {n : Nat} {t : Nat} {s : RS} (h : t ≠ 4) : ce_ (n + 1) t s = dd_ n t (ce_ n (t + 1) s).1 (ce_ n (t + 1) s).2 := by simp only [ce_]; rw [if_neg h]
theorem jb_ {n : Nat} {s : RS} : ce_ (n + 1) 4 s = dx_ n s := by simp only [ce_, if_true]
theorem d9_ {n : Nat} {w : Str} {s : RS} (h : w ≠ [40]) (h1 : cw_ w = true) : dw_ (n + 1) w s = (.mk 1 (b9_ w) [] [], s) := by simp [dw_, h, h1]
theorem dv_ {n : Nat} {w : Str} {s : RS} (h : w ≠ [40]) (h1 : cw_ w = false) (h2 : f3_ w = true) : dw_ (n + 1) w s = (.mk 2 0 w [], s) := by simp [dw_, h, h1, h2]
theorem wj_ {n : Nat} {s : RS} (h : s.bad = false) (h1 : s.deep + 1 ≤ 40) {e : E} {p : RS} (hp : ce_ n 1 { s with deep := s.deep + 1 } = (e, p)) (hb : p.bad = false) : dw_ (n + 1) [40] s = (e, { bq_ p with bad := !(b3_ p == [41]) }) := by
 simp only [dw_, if_true]; rw [if_neg (by rw [h]; simp; omega)]; simp only [hp, hb]; rfl
theorem jv_ {n : Nat} {w : Str} {r : List Str} {d : Int} : dx_ (n + 1) ⟨w :: r, false, d⟩ = asR (dw_ n w ⟨r, false, d⟩).2 (dw_ n w ⟨r, false, d⟩).1 := by simp only [dx_, b3_, bq_]
theorem kr_ : ∀ (d : Nat) (e : E), form e d = true →
  (∀ (must : Int) (rest : List Str) (deep : Int) (n : Nat), must ≤ 4 → eff e must = 4 → deep + (wds e must).length ≤ 40 → 10 * ((wds e must).length + rest.length) + 2 ≤ n →
   ∃ deep', deep' ≤ deep + (wds e must).length ∧ dx_ n ⟨wds e must ++ rest, false, deep⟩ = asL rest e deep') ∧
  (∀ (must : Int) (t : Nat) (rest : List Str) (deep : Int) (n : Nat), must ≤ 4 → 1 ≤ t → t < 4 → (t : Int) ≤ eff e must → okR t rest → deep + (wds e must).length ≤ 40 → 10 * ((wds e must).length + rest.length) + 7 ≤ n + t →
   ∃ deep' m, deep' ≤ deep + (wds e must).length ∧ 10 * rest.length + 1 ≤ m ∧ ce_ n t ⟨wds e must ++ rest, false, deep⟩ = dd_ m t e ⟨rest, false, deep'⟩)
 | 0, e, h => by have := (b1_ h).1; omega
 | d + 1, e, h => by
  have e1 : ((d + 1 : Nat) : Int) - 1 = (d : Int) := by omega
  -- an unbracketed Two, at its own level
  have two : ∀ (must : Int) (t : Nat) (rest : List Str) (deep : Int) (n : Nat), e.kind = 3 → ¬ br_ e.s < must → br_ e.s = t → okR t rest → deep + (wds e must).length ≤ 40 → 10 * ((wds e must).length + rest.length) + 7 ≤ n + t →
    ∃ deep' m, deep' ≤ deep + (wds e must).length ∧ 10 * rest.length + 1 ≤ m ∧ ce_ n t ⟨wds e must ++ rest, false, deep⟩ = dd_ m t e ⟨rest, false, deep'⟩ := by
   intro must t rest deep n k3 hb ht hr hd hn
   rcases (b1_ h).2 with ⟨k1, _⟩ | ⟨k1, _⟩ | ⟨k1, h1, h2, h3, h4, h5⟩ | ⟨k1, _⟩
   ·omega
   ·omega
   ·rw [e1] at h4 h5
    obtain ⟨_, A⟩ := kr_ d _ h4
    obtain ⟨_, B⟩ := kr_ d _ h5
    have ht3 := c1_ h2
    have hop := nt_ h2
    rw [fi_ k1 h3, if_neg hb] at hd hn ⊢
    rw [ht] at hd hn ⊢
    simp only [T2_, T7_, List.length_nil] at hd hn
    simp only [List.append_assoc, List.cons_append, List.nil_append]
    obtain ⟨d1, m, g1, g2, g3⟩ := A (max 2 (t : Int)) t (e.s :: (wds (e.kids.getD 1 E0) ((t : Int) + 1) ++ rest)) deep n (by omega) (by omega) (by omega) (by have := fl_ (e.kids.getD 0 E0) (max 2 (t : Int)) (by omega); omega)
     ⟨by simp only [List.head?_cons, ne_eq, Option.some.injEq]; exact hop.1, fun w hw => by simp only [List.head?_cons, Option.some.injEq] at hw; subst hw; omega⟩ (by omega) (by simp only [T2_, T7_]; omega)
    rw [g3]
    simp only [T2_, T7_] at g2
    obtain ⟨m, rfl⟩ : ∃ m', m = m' + 1 := ⟨m - 1, by omega⟩
    have lp : dd_ (m + 1) t (e.kids.getD 0 E0) ⟨e.s :: (wds (e.kids.getD 1 E0) ((t : Int) + 1) ++ rest), false, d1⟩ = dd_ m t (.mk 3 0 e.s [e.kids.getD 0 E0, (ce_ m (t + 1) ⟨wds (e.kids.getD 1 E0) ((t : Int) + 1) ++ rest, false, d1⟩).1]) (ce_ m (t + 1) ⟨wds (e.kids.getD 1 E0) ((t : Int) + 1) ++ rest, false, d1⟩).2 := by
     simp only [dd_, b3_, bq_]; rw [if_pos ⟨trivial, by simp, ht⟩]
    rw [lp]
    have hbk : ∃ deep', deep' ≤ d1 + (wds (e.kids.getD 1 E0) ((t : Int) + 1)).length ∧ ce_ m (t + 1) ⟨wds (e.kids.getD 1 E0) ((t : Int) + 1) ++ rest, false, d1⟩ = (e.kids.getD 1 E0, ⟨rest, false, deep'⟩) := by
     by_cases h34 : t = 3
     ·subst h34
      obtain ⟨Bh, _⟩ := kr_ d _ h5
      obtain ⟨m', rfl⟩ : ∃ m', m = m' + 1 := ⟨m - 1, by omega⟩
      have ef : eff (e.kids.getD 1 E0) ((3 : Nat) + 1) = 4 := by
       have := fl_ (e.kids.getD 1 E0) 4 (by omega)
       have h4 : eff (e.kids.getD 1 E0) 4 ≤ 4 := by
        unfold eff; split
        ·rename_i hh; rcases (b1_ h5).2 with ⟨k, _⟩ | ⟨k, _⟩ | ⟨k, _, hk, _⟩ | ⟨k, _⟩
         ·omega
         ·omega
         ·have := c1_ hk; omega
         ·omega
        ·omega
       show eff (e.kids.getD 1 E0) 4 = 4
       omega
      obtain ⟨d2, q1, q2⟩ := Bh (((3 : Nat) : Int) + 1) rest d1 m' (by omega) ef (by omega) (by omega)
      refine ⟨d2, q1, ?_⟩
      rw [jb_, q2, tn_ hr.1]
     ·obtain ⟨d2, m2, q1, q2, q3⟩ := B ((t : Int) + 1) (t + 1) rest d1 m (by omega) (by omega) (by omega) (by have := fl_ (e.kids.getD 1 E0) ((t : Int) + 1) (by omega); omega) ⟨hr.1, fun w hw => by have := hr.2 w hw; omega⟩ (by omega) (by omega)
      refine ⟨d2, q1, ?_⟩
      rw [q3, gu_ fun w hw => by have := hr.2 w hw; omega]
    obtain ⟨d2, q1, q2⟩ := hbk
    rw [q2]
    refine ⟨d2, m, ?_, by omega, ?_⟩
    ·simp only [T2_, T7_, List.length_nil]; omega
    ·have he : e = .mk 3 0 e.s [e.kids.getD 0 E0, e.kids.getD 1 E0] := by
      rw [← kb_ h3, ← h1, ← k1, E.eta]
     rw [← he]
   ·omega
  have gl_ : ∀ (must : Int) (rest : List Str) (deep : Int) (n : Nat), must ≤ 4 → eff e must = 4 → deep + (wds e must).length ≤ 40 → 10 * ((wds e must).length + rest.length) + 2 ≤ n →
    ∃ deep', deep' ≤ deep + (wds e must).length ∧ dx_ n ⟨wds e must ++ rest, false, deep⟩ = asL rest e deep' := by
   intro must rest deep n hm he hd hn
   rcases (b1_ h).2 with ⟨k1, h1, h2, h3, h4⟩ | ⟨k1, h1, h2, h3⟩ | ⟨k1, h1, h2, h3, h4, h5⟩ | ⟨k1, h1, h2, h3, h4⟩
   ·rw [ec_ k1] at hd hn ⊢
    obtain ⟨n, rfl⟩ : ∃ n', n = n' + 2 := ⟨n - 2, by omega⟩
    obtain ⟨g1, g2, g3⟩ := i4_ (n := e.n.toNat) (by omega)
    refine ⟨deep, by simp; omega, ?_⟩
    have : (.mk 1 (b9_ (Go.Lib.decDigits e.n.toNat) : Int) [] [] : E) = e := by
     rw [g2, Int.toNat_of_nonneg h1, ← h3, ← h4, ← k1, h3, h4]; conv => rhs; rw [← E.eta e, h3, h4]
    rw [List.cons_append, List.nil_append, jv_, d9_ g3 g1, this]
    rfl
   ·rw [du_ k1] at hd hn ⊢
    obtain ⟨n, rfl⟩ : ∃ n', n = n' + 2 := ⟨n - 2, by omega⟩
    obtain ⟨g1, g2⟩ := tk_ h2
    refine ⟨deep, by simp; omega, ?_⟩
    have : (.mk 2 0 e.s [] : E) = e := by conv => rhs; rw [← E.eta e, h3, h1, k1]
    rw [List.cons_append, List.nil_append, jv_, dv_ g1 g2 h2, this]
    rfl
   ·have ht3 := c1_ h2
    have hb : br_ e.s < must := by
     by_cases hh : br_ e.s < must
     ·exact hh
     ·unfold eff at he; rw [if_pos ⟨k1, hh⟩] at he; omega
    rw [vr_ k1 h3 hb] at hd hn ⊢
    simp only [T7_, T2_, List.length_nil] at hd hn
    obtain ⟨n, rfl⟩ : ∃ n', n = n' + 2 := ⟨n - 2, by omega⟩
    obtain ⟨t, ht⟩ : ∃ t : Nat, br_ e.s = t := ⟨(br_ e.s).toNat, by omega⟩
    -- level 1 inside
    have inner : ∃ d1 m, d1 ≤ deep + 1 + (wds e 0).length ∧ 1 ≤ m ∧ ce_ n 1 ⟨wds e 0 ++ [41] :: rest, false, deep + 1⟩ = dd_ m 1 e ⟨[41] :: rest, false, d1⟩ := by
     have hr : ∀ t, okR t ([41] :: rest) := fun t => ⟨by simp [wAs], fun w hw => by simp at hw; subst hw; simp [br_]⟩
     have up : ∀ k : Nat, k < t → ∀ n, 10 * ((wds e 0).length + (rest.length + 1)) + 7 ≤ n + (t - k) → ∃ d1 m, d1 ≤ deep + 1 + (wds e 0).length ∧ 1 ≤ m ∧ ce_ n (t - k) ⟨wds e 0 ++ [41] :: rest, false, deep + 1⟩ = dd_ m (t - k) e ⟨[41] :: rest, false, d1⟩ := by
      intro k
      induction k with
      | zero =>
       intro _ n hn
       obtain ⟨d1, m, q1, q2, q3⟩ := two 0 t ([41] :: rest) (deep + 1) n k1 (by omega) ht (hr t) (by omega) (by simp only [T7_]; omega)
       exact ⟨d1, m, q1, by simp only [T7_] at q2; omega, q3⟩
      | succ k ih =>
       intro hk n hn
       obtain ⟨n, rfl⟩ : ∃ n', n = n' + 1 := ⟨n - 1, by omega⟩
       obtain ⟨d1, m, q1, q2, q3⟩ := ih (by omega) n (by omega)
       refine ⟨d1, n, q1, by omega, ?_⟩
       rw [mr_ (by omega), show t - (k + 1) + 1 = t - k by omega, q3, gu_ fun w hw => by simp at hw; subst hw; simp [br_]; omega]
     have := up (t - 1) (by omega) n (by omega)
     rwa [show t - (t - 1) = 1 by omega] at this
    obtain ⟨d1, m, q1, q2, q3⟩ := inner
    rw [gu_ fun w hw => by simp at hw; subst hw; simp [br_]] at q3
    refine ⟨d1, by simp only [T7_, T2_, List.length_nil]; omega, ?_⟩
    rw [List.cons_append, jv_, List.append_assoc]
    rw [wj_ (s := ⟨wds e 0 ++ ([[41]] ++ rest), false, deep⟩) rfl (by dsimp only; omega) q3 rfl]
    rfl
   ·rw [e1] at h4
    obtain ⟨A, _⟩ := kr_ d _ h4
    have ef : eff (e.kids.getD 0 E0) 4 = 4 := by
     have := fl_ (e.kids.getD 0 E0) 4 (by omega)
     have h4' : eff (e.kids.getD 0 E0) 4 ≤ 4 := by
      unfold eff; split
      ·rename_i hh; rcases (b1_ h4).2 with ⟨k, _⟩ | ⟨k, _⟩ | ⟨k, _, hk, _⟩ | ⟨k, _⟩
       ·omega
       ·omega
       ·have := c1_ hk; omega
       ·omega
      ·omega
     omega
    rw [ie_ k1 h3] at hd hn ⊢
    simp only [T7_, T2_, List.length_nil] at hd hn
    obtain ⟨d1, q1, q2⟩ := A 4 (wAs :: e.s :: rest) deep n (by omega) ef (by omega) (by simp only [T7_]; omega)
    refine ⟨d1, by simp only [T7_, T2_, List.length_nil]; omega, ?_⟩
    rw [List.append_assoc]
    have hE : (.mk 4 0 e.s [e.kids.getD 0 E0] : E) = e := by conv => rhs; rw [← E.eta e, m9_ h3, h1, k1]
    refine q2.trans ?_
    simp only [asL, if_true]
    rw [hE]
  refine ⟨gl_, ?_⟩
  -- from the own level down to t
  intro must t rest deep n hm ht1 ht4 ht hr hd hn
  have hk : ∀ k : Nat, t + k ≤ 4 → ((t + k : Nat) : Int) = eff e must → ∃ deep' m, deep' ≤ deep + (wds e must).length ∧ 10 * rest.length + 1 ≤ m ∧ ce_ n t ⟨wds e must ++ rest, false, deep⟩ = dd_ m t e ⟨rest, false, deep'⟩ := by
   intro k
   induction k generalizing t n with
   | zero =>
    intro _ hef
    rcases (b1_ h).2 with ⟨k1, _⟩ | ⟨k1, _⟩ | ⟨k1, h1, h2, h3, h4, h5⟩ | ⟨k1, _⟩
    ·unfold eff at hef; rw [if_neg (by omega)] at hef; omega
    ·unfold eff at hef; rw [if_neg (by omega)] at hef; omega
    ·unfold eff at hef
     by_cases hb : br_ e.s < must
     ·rw [if_neg (by omega)] at hef; omega
     ·rw [if_pos ⟨k1, hb⟩] at hef
      exact two must t rest deep n k1 hb (by omega) hr hd hn
    ·unfold eff at hef; rw [if_neg (by omega)] at hef; omega
   | succ k ih =>
    intro h4 hef
    obtain ⟨n, rfl⟩ : ∃ n', n = n' + 1 := ⟨n - 1, by omega⟩
    by_cases h34 : t = 3
    ·subst h34
     obtain ⟨n, rfl⟩ : ∃ n', n = n' + 1 := ⟨n - 1, by omega⟩
     obtain ⟨d1, q1, q2⟩ := gl_ must rest deep n hm (by omega) hd (by omega)
     refine ⟨d1, n + 1, q1, by omega, ?_⟩
     rw [mr_ (by omega), jb_, q2, tn_ hr.1]
    ·obtain ⟨d1, m, q1, q2, q3⟩ := ih (t + 1) n (by omega) (by omega) (by omega) ⟨hr.1, fun w hw => by have := hr.2 w hw; omega⟩ (by omega) (by omega) (by omega)
     refine ⟨d1, n, q1, by omega, ?_⟩
     rw [mr_ (by omega), q3, gu_ fun w hw => by have := hr.2 w hw; omega]
  have heff : eff e must ≤ 4 := by
   unfold eff; split
   ·rename_i hh; rcases (b1_ h).2 with ⟨k, _⟩ | ⟨k, _⟩ | ⟨k, _, hk, _⟩ | ⟨k, _⟩
    ·omega
    ·omega
    ·have := c1_ hk; omega
    ·omega
   ·omega
  exact hk (eff e must - t).toNat (by omega) (by omega)
theorem ae0_ {e : E} (h : eok e = true) (hl : (wds e 1).length ≤ 40) {n : Nat} (hn : 410 ≤ n) : ∃ deep', ce_ n 1 ⟨wds e 1, false, 0⟩ = (e, ⟨[], false, deep'⟩) := by
 have he : 1 ≤ eff e 1 := fl_ e 1 (by omega)
 obtain ⟨d1, m, q1, q2, q3⟩ := (kr_ 5 e (cp_ h)).2 1 1 [] 0 n (by omega) (by omega) (by omega) he ⟨by simp, fun w hw => by simp at hw⟩ (by omega) (by simp; omega)
 rw [List.append_nil] at q3
 exact ⟨d1, by rw [q3, gu_ fun w hw => by simp at hw]⟩
end
section
theorem ln_ (c : UInt8) : ct_ c = true ↔ fh_ c := li_ c
theorem th_ (l : Str) : ((hs_ l).2 && (decide (0 ≤ (hs_ l).1) && decide ((hs_ l).1 ≤ 1000000))) = cw_ l ∧ (cw_ l = true → (hs_ l).1 = b9_ l) := by
 have key : cw_ l = true → (hs_ l).2 = true ∧ (hs_ l).1 = b9_ l := fun h => by
  obtain ⟨n, hn, rfl⟩ := d5_.1 h
  have hd := d1_ n
  have hlen := jd_ hn
  have hh : (Go.Lib.decDigits n).head? ≠ some 45 := fun e => by
   have := hd 45 (List.mem_of_mem_head? (by rw [e]; rfl)); unfold fh_ at this; revert this; decide
  have hz : (Go.Lib.decDigits n).head? = some 48 → (Go.Lib.decDigits n).length ≤ 1 := fun e => by
   by_cases h : n < 10
   ·rw [Go.Lib.decDigits_one h]; simp
   ·exfalso; exact dec_lead n (by omega) e
  have hne : (Go.Lib.decDigits n).length ≠ 0 := fun e => ez_ n (List.eq_nil_of_length_eq_zero e)
  unfold hs_
  simp only [show ((Go.Lib.decDigits n).head? == some 45) = false by simpa using hh, Bool.false_eq_true, if_false, or_false]
  rw [if_neg (by rintro (h | h | ⟨h1, h2⟩); exact hne h; omega; have := hz h1; omega), if_pos (List.all_eq_true.2 fun c hc => (ln_ c).2 (hd c hc))]
  exact ⟨rfl, rfl⟩
 refine ⟨?_, fun h => (key h).2⟩
 cases h : cw_ l with
 | true =>
  obtain ⟨h1, h2⟩ := key h
  obtain ⟨n, hn, rfl⟩ := d5_.1 h
  rw [h1, h2, d7_]; simp; omega
 | false =>
  rw [Bool.eq_false_iff]
  intro hh
  rw [Bool.eq_false_iff] at h
  apply h
  simp only [T5_, T3_] at hh
  obtain ⟨h1, h2, h3⟩ := hh
  unfold hs_ at h1 h2 h3
  cases hneg : (l.head? == some 45) with
  | true =>
   exfalso
   simp only [hneg, if_true] at h1 h2 h3
   split at h1
   ·cases h1
   ·rename_i hc
    rw [if_neg hc] at h2 h3
    split at h1
    ·rename_i hall
     rw [if_pos hall] at h2 h3
     have hd : ∀ c ∈ l.tail, fh_ c := fun c hc => (ln_ c).1 (List.all_eq_true.1 hall c hc)
     have hne : l.tail ≠ [] := fun e => hc (.inl (by rw [e]; rfl))
     have := (lead hne hd (fun e => hc (.inr (.inr ⟨e, .inr trivial⟩)))).1
     omega
    ·cases h1
  | false =>
   simp only [hneg, Bool.false_eq_true, if_false, or_false] at h1 h2 h3
   split at h1
   ·cases h1
   ·rename_i hc
    rw [if_neg hc] at h2 h3
    split at h1
    ·rename_i hall
     rw [if_pos hall] at h2 h3
     have hd : ∀ c ∈ l, fh_ c := fun c hc => (ln_ c).1 (List.all_eq_true.1 hall c hc)
     have hne : l ≠ [] := fun e => hc (.inl (by rw [e]; rfl))
     refine d5_.2 ⟨b9_ l, by omega, ?_⟩
     by_cases h0 : l.head? = some 48
     ·have : ¬ 1 < l.length := fun h => hc (.inr (.inr ⟨h0, h⟩))
      match l, h0, this, hne with
      | [c], h0, _, _ => simp at h0; subst h0; rw [show b9_ [48] = 0 from rfl, Go.Lib.decDigits_one (by decide)]; rfl
      | _ :: _ :: _, _, h, _ => simp at h
     ·exact (lead hne hd h0).2.symm
    ·cases h1
where
 dec_lead (n : Nat) (h : 1 ≤ n) : (Go.Lib.decDigits n).head? ≠ some 48 := by
  induction n using Nat.strongRecOn with
  | ind n ih =>
   by_cases h1 : n < 10
   ·rw [Go.Lib.decDigits_one h1]
    simp only [List.head?_cons, ne_eq, Option.some.injEq]
    intro e
    have := n3_ h1
    rw [e] at this
    have e2 : (48 : UInt8).toNat = 48 := rfl
    omega
   ·rw [dt_ h1]
    have := ih (n / 10) (by omega) (by omega)
    cases hl : Go.Lib.decDigits (n / 10) with
    | nil => exact absurd hl (ez_ _)
    | cons c r => rw [hl] at this; simpa using this
def sAs : Nat → List Str → Nat → E → E × Option Nat
 | 0, _, _, e => (e, none)
 | n + 1, w, k, e => if w.getD k [] = wAs then (if fd_ (w.getD (k + 1) []) then sAs n w (k + 2) (.mk 4 0 (w.getD (k + 1) []) [e]) else (e, none)) else (e, some k)
mutual
def eg_ : Nat → List Str → Nat → Int → E × Option Nat
 | 0, _, _, _ => (E0, none)
 | n + 1, w, k, deep =>
  if cw_ (w.getD k []) then sAs n w (k + 1) (.mk 1 (b9_ (w.getD k [])) [] [])
  else if f3_ (w.getD k []) then sAs n w (k + 1) (.mk 2 0 (w.getD k []) [])
  else if w.getD k [] = [40] ∧ 0 < deep then
   match (sL1 n w (k + 1) (deep - 1)).2 with
   | none => ((sL1 n w (k + 1) (deep - 1)).1, none)
   | some b => if w.getD b [] = [41] then sAs n w (b + 1) (sL1 n w (k + 1) (deep - 1)).1 else ((sL1 n w (k + 1) (deep - 1)).1, none)
  else (E0, none)
def sLp : Nat → List Str → Nat → Nat → Int → E × Option Nat
 | 0, _, _, _, _ => (E0, none)
 | n + 1, w, k, t, deep => if 3 < t then eg_ n w k deep else ev_ n w t deep (sLp n w k (t + 1) deep).1 (sLp n w k (t + 1) deep).2
def ev_ : Nat → List Str → Nat → Int → E → Option Nat → E × Option Nat
 | 0, _, _, _, e, _ => (e, none)
 | _ + 1, _, _, _, e, none => (e, none)
 | n + 1, w, t, deep, e, some k => if br_ (w.getD k []) = t then ev_ n w t deep (.mk 3 0 (w.getD k []) [e, (sLp n w (k + 1) (t + 1) deep).1]) (sLp n w (k + 1) (t + 1) deep).2 else (e, some k)
def sL1 : Nat → List Str → Nat → Int → E × Option Nat
 | 0, _, _, _ => (E0, none)
 | n + 1, w, k, deep =>
  match (sLp n w k 2 deep).2 with
  | none => ((sLp n w k 2 deep).1, none)
  | some b => if w.getD b [] = [60] then (.mk 3 0 [60] [(sLp n w k 2 deep).1, (sLp n w (b + 1) 2 deep).1], (sLp n w (b + 1) 2 deep).2) else ((sLp n w k 2 deep).1, some b)
end
theorem go_ {w l : List Str} {k : Nat} {s : Str} (h : w.drop k = s :: l) : w.getD k [] = s ∧ w.drop (k + 1) = l := by
 have hk : k < w.length := by
  rcases Nat.lt_or_ge k w.length with h1 | h1
  ·exact h1
  ·rw [List.drop_of_length_le h1] at h; cases h
 rw [List.drop_eq_getElem_cons hk] at h
 injection h with h1 h2
 exact ⟨by rw [T8_, T6_ hk]; exact h1, h2⟩
theorem qf_ {w l : List Str} {k : Nat} (h : w.drop k = l) : w.getD k [] = l.headD [] := by
 cases l with
 | nil =>
  have : w.length ≤ k := by simpa using h
  simp [T8_, List.getElem?_eq_none this]
 | cons s l => exact (go_ h).1
theorem d0_ {w a l : List Str} {k : Nat} (h : w.drop k = a ++ l) : w.drop (k + a.length) = l := by
 rw [← List.drop_drop, h]; simp
theorem re_ {n : Nat} {w : List Str} {k : Nat} {e : E} {rest : List Str} (hk : w.drop k = rest) (h : rest.head? ≠ some wAs) : sAs (n + 1) w k e = (e, some k) := by
 simp only [sAs]
 rw [if_neg]
 rw [qf_ hk]
 cases rest with
 | nil => decide
 | cons a r => simpa using h
theorem fb_ {w : List Str} {k : Nat} {rest : List Str} (hk : w.drop k = rest) {P : Int → Prop} (h0 : P 0) (h : ∀ x, rest.head? = some x → P (br_ x)) : P (br_ (w.getD k [])) := by
 rw [qf_ hk]
 cases rest with
 | nil => exact h0
 | cons a r => exact h a rfl
theorem es_ {n : Nat} {w : List Str} {t : Nat} {deep : Int} {e : E} {k : Nat} (h : br_ (w.getD k []) ≠ t) : ev_ (n + 1) w t deep e (some k) = (e, some k) := by
 simp only [ev_]; rw [if_neg h]
theorem xt_ {s : Str} (h : br_ s = 1) : s = [60] := by
 unfold br_ at h
 by_cases h1 : s = [60]
 ·exact h1
 ·by_cases h2 : s = [43] ∨ s = [45]
  ·rcases h2 with rfl | rfl <;> simp at h
  ·by_cases h3 : s = [42]
   ·subst h3; simp at h
   ·simp [h1, h3] at h; simp_all
theorem ut_ {e : E} {d must : Int} (h : form e d = true) : eff e must ≤ 4 := by
 unfold eff; split
 ·rename_i hh; rcases (b1_ h).2 with ⟨k, _⟩ | ⟨k, _⟩ | ⟨k, _, hk, _⟩ | ⟨k, _⟩
  ·omega
  ·omega
  ·have := c1_ hk; omega
  ·omega
 ·omega
theorem ir_ {n : Nat} {w : List Str} {k : Nat} {deep : Int} (h : cw_ (w.getD k []) = true) : eg_ (n + 1) w k deep = sAs n w (k + 1) (.mk 1 (b9_ (w.getD k [])) [] []) := by simp only [eg_, h, if_true]
theorem hy_ {n : Nat} {w : List Str} {k : Nat} {deep : Int} (h : cw_ (w.getD k []) = false) (h2 : f3_ (w.getD k []) = true) : eg_ (n + 1) w k deep = sAs n w (k + 1) (.mk 2 0 (w.getD k []) []) := by simp only [eg_, h, h2, if_true, Bool.false_eq_true, if_false]
theorem i1_ {n : Nat} {w : List Str} {k b : Nat} {deep : Int} {x : E} (h : w.getD k [] = [40]) (hd : 0 < deep) (hx : sL1 n w (k + 1) (deep - 1) = (x, some b)) (hb : w.getD b [] = [41]) : eg_ (n + 1) w k deep = sAs n w (b + 1) x := by
 have h1 : cw_ [40] = false := by
  rw [Bool.eq_false_iff]; intro h
  obtain ⟨n, hn, h⟩ := d5_.1 h
  exact (i4_ hn).2.2 h.symm
 have h2 : f3_ [40] = false := by decide
 simp only [eg_, h, h1, h2, Bool.false_eq_true, if_false, hx, hb, if_true, true_and]
 rw [if_pos hd]
theorem i0_ (w : List Str) : ∀ (d : Nat) (e : E), form e d = true →
  (∀ (must : Int) (rest : List Str) (k : Nat) (deep : Int) (n : Nat), must ≤ 4 → eff e must = 4 → d ≤ deep → w.drop k = wds e must ++ rest → 10 * ((wds e must).length + rest.length) + 2 ≤ n →
   ∃ m, rest.length + 1 ≤ m ∧ eg_ n w k deep = sAs m w (k + (wds e must).length) e) ∧
  (∀ (must : Int) (t : Nat) (rest : List Str) (k : Nat) (deep : Int) (n : Nat), must ≤ 4 → 2 ≤ t → t < 4 → (t : Int) ≤ eff e must → okR t rest → d ≤ deep → w.drop k = wds e must ++ rest → 10 * ((wds e must).length + rest.length) + 7 ≤ n + t →
   ∃ m, 10 * rest.length + 1 ≤ m ∧ sLp n w k t deep = ev_ m w t deep e (some (k + (wds e must).length))) ∧
  (∀ (rest : List Str) (k : Nat) (deep : Int) (n : Nat), e.kind = 3 → okR 0 rest → (d : Int) ≤ deep + 1 → w.drop k = wds e 0 ++ rest → 10 * ((wds e 0).length + rest.length) + 7 ≤ n →
   sL1 n w k deep = (e, some (k + (wds e 0).length)))
 | 0, e, h => by have := (b1_ h).1; omega
 | d + 1, e, h => by
  have e1 : ((d + 1 : Nat) : Int) - 1 = (d : Int) := by omega
  have two : ∀ (must : Int) (t : Nat) (rest : List Str) (k : Nat) (deep : Int) (n : Nat), e.kind = 3 → ¬ br_ e.s < must → br_ e.s = t → 2 ≤ t → okR t rest → d ≤ deep → w.drop k = wds e must ++ rest → 10 * ((wds e must).length + rest.length) + 7 ≤ n + t →
    ∃ m, 10 * rest.length + 1 ≤ m ∧ sLp n w k t deep = ev_ m w t deep e (some (k + (wds e must).length)) := by
   intro must t rest k deep n k3 hb ht ht2 hr hd hk hn
   rcases (b1_ h).2 with ⟨k1, _⟩ | ⟨k1, _⟩ | ⟨k1, h1, h2, h3, h4, h5⟩ | ⟨k1, _⟩
   ·omega
   ·omega
   ·rw [e1] at h4 h5
    have A := (i0_ w d _ h4).2.1
    have B := i0_ w d _ h5
    have ht3 := c1_ h2
    have hop := nt_ h2
    rw [fi_ k1 h3, if_neg hb] at hk hn ⊢
    rw [ht] at hk hn ⊢
    rw [show max 2 (t : Int) = t by omega] at hk hn ⊢
    simp only [T2_, T7_, List.length_nil] at hn ⊢
    simp only [List.append_assoc, List.cons_append, List.nil_append] at hk
    obtain ⟨m, g2, g3⟩ := A (t : Int) t (e.s :: (wds (e.kids.getD 1 E0) ((t : Int) + 1) ++ rest)) k deep n (by omega) (by omega) (by omega) (fl_ (e.kids.getD 0 E0) (t : Int) (by omega))
     ⟨by simp only [List.head?_cons, ne_eq, Option.some.injEq]; exact hop.1, fun w hw => by simp only [List.head?_cons, Option.some.injEq] at hw; subst hw; omega⟩ hd hk (by simp only [T2_, T7_]; omega)
    rw [g3]
    simp only [T2_, T7_] at g2
    obtain ⟨m, rfl⟩ : ∃ m', m = m' + 1 := ⟨m - 1, by omega⟩
    obtain ⟨q1, q2⟩ := go_ (d0_ hk)
    have hmm : 10 * ((wds (e.kids.getD 1 E0) ((t : Int) + 1)).length + rest.length) + 10 ≤ m := by omega
    have hbk : sLp m w (k + (wds (e.kids.getD 0 E0) t).length + 1) (t + 1) deep = (e.kids.getD 1 E0, some (k + (wds (e.kids.getD 0 E0) t).length + 1 + (wds (e.kids.getD 1 E0) ((t : Int) + 1)).length)) := by
     by_cases h34 : t = 3
     ·subst h34
      obtain ⟨m', rfl⟩ : ∃ m', m = m' + 1 := ⟨m - 1, by omega⟩
      have ef : eff (e.kids.getD 1 E0) ((3 : Nat) + 1) = 4 := by
       have h1 := fl_ (e.kids.getD 1 E0) 4 (by omega)
       have h2 := ut_ (must := 4) h5
       show eff (e.kids.getD 1 E0) 4 = 4
       omega
      obtain ⟨m2, r1, r2⟩ := B.1 (((3 : Nat) : Int) + 1) rest _ deep m' (by omega) ef hd q2 (by omega)
      obtain ⟨m2, rfl⟩ : ∃ m', m2 = m' + 1 := ⟨m2 - 1, by omega⟩
      simp only [sLp]
      rw [if_pos (by omega), r2, re_ (d0_ q2) hr.1]
     ·obtain ⟨m2, r1, r2⟩ := B.2.1 ((t : Int) + 1) (t + 1) rest _ deep m (by omega) (by omega) (by omega) (by have := fl_ (e.kids.getD 1 E0) ((t : Int) + 1) (by omega); omega) ⟨hr.1, fun w hw => by have := hr.2 w hw; omega⟩ hd q2 (by omega)
      obtain ⟨m2, rfl⟩ : ∃ m', m2 = m' + 1 := ⟨m2 - 1, by omega⟩
      rw [r2, es_]
      exact fb_ (P := fun x => x ≠ ((t + 1 : Nat) : Int)) (d0_ q2) (by omega) fun x hx => by have := hr.2 x hx; omega
    refine ⟨m, by omega, ?_⟩
    have he : e = .mk 3 0 e.s [e.kids.getD 0 E0, e.kids.getD 1 E0] := by
     rw [← kb_ h3, ← h1, ← k1, E.eta]
    simp only [ev_]
    rw [q1, if_pos ht, hbk, ← he]
    exact congrArg (fun x => ev_ m w t deep e (some x)) (by omega)
   ·omega
  -- level 1, without brackets
  have one : ∀ (rest : List Str) (k : Nat) (deep : Int) (n : Nat), e.kind = 3 → okR 0 rest → d ≤ deep → w.drop k = wds e 0 ++ rest → 10 * ((wds e 0).length + rest.length) + 7 ≤ n →
    sL1 n w k deep = (e, some (k + (wds e 0).length)) := by
   intro rest k deep n k3 hr hd hk hn
   rcases (b1_ h).2 with ⟨k1, _⟩ | ⟨k1, _⟩ | ⟨k1, h1, h2, h3, h4, h5⟩ | ⟨k1, _⟩
   ·omega
   ·omega
   ·have ht3 := c1_ h2
    obtain ⟨n, rfl⟩ : ∃ n', n = n' + 1 := ⟨n - 1, by omega⟩
    by_cases ht1 : br_ e.s = 1
    ·rw [e1] at h4 h5
     have A := (i0_ w d _ h4).2.1
     have B := (i0_ w d _ h5).2.1
     have hs := xt_ ht1
     rw [fi_ k1 h3, if_neg (by omega), ht1] at hk hn ⊢
     simp only [T2_, T7_, List.length_nil] at hn ⊢
     simp only [List.append_assoc, List.cons_append, List.nil_append] at hk
     obtain ⟨m, g2, g3⟩ := A 2 2 (e.s :: (wds (e.kids.getD 1 E0) (1 + 1) ++ rest)) k deep n (by omega) (by omega) (by omega) (fl_ (e.kids.getD 0 E0) 2 (by omega))
      ⟨by simp only [List.head?_cons, ne_eq, Option.some.injEq]; exact (nt_ h2).1, fun w hw => by simp only [List.head?_cons, Option.some.injEq] at hw; subst hw; omega⟩ hd hk (by
       simp only [T2_, T7_]
       have : max 2 (1 : Int) = 2 := rfl
       rw [this] at hn; omega)
     have e3 : max 2 (1 : Int) = 2 := rfl
     rw [e3] at hk ⊢
     obtain ⟨m, rfl⟩ : ∃ m', m = m' + 1 := ⟨m - 1, by omega⟩
     obtain ⟨q1, q2⟩ := go_ (d0_ hk)
     rw [es_ (by rw [q1]; omega)] at g3
     obtain ⟨m2, r1, r2⟩ := B 2 2 rest _ deep n (by omega) (by omega) (by omega) (fl_ (e.kids.getD 1 E0) 2 (by omega)) ⟨hr.1, fun w hw => by have := hr.2 w hw; omega⟩ hd q2 (by rw [e3] at hn; have : (wds (e.kids.getD 1 E0) 2).length = (wds (e.kids.getD 1 E0) (1 + 1)).length := rfl; omega)
     obtain ⟨m2, rfl⟩ : ∃ m', m2 = m' + 1 := ⟨m2 - 1, by omega⟩
     have hstop : br_ (w.getD (k + (wds (e.kids.getD 0 E0) 2).length + 1 + (wds (e.kids.getD 1 E0) 2).length) []) ≠ ((2 : Nat) : Int) :=
      fb_ (P := fun x => x ≠ ((2 : Nat) : Int)) (d0_ q2) (by omega) fun x hx => by have := hr.2 x hx; omega
     rw [es_ hstop] at r2
     have he : e = .mk 3 0 [60] [e.kids.getD 0 E0, e.kids.getD 1 E0] := by
      rw [← kb_ h3, ← hs, ← h1, ← k1, E.eta]
     simp only [sL1, g3, q1, hs, if_true, r2, ← he]
     exact congrArg (fun x => (e, some x)) (by show k + (wds (e.kids.getD 0 E0) 2).length + 1 + (wds (e.kids.getD 1 E0) 2).length = k + ((wds (e.kids.getD 0 E0) 2).length + (0 + 1) + (wds (e.kids.getD 1 E0) 2).length); omega)
    · -- level 2 or 3
     obtain ⟨t, ht⟩ : ∃ t : Nat, br_ e.s = t := ⟨(br_ e.s).toNat, by omega⟩
     have h20 : ∃ m, 1 ≤ m ∧ sLp n w k 2 deep = ev_ m w 2 deep e (some (k + (wds e 0).length)) := by
      by_cases h2t : t = 2
      ·subst h2t
       obtain ⟨m, r1, r2⟩ := two 0 2 rest k deep n k1 (by omega) ht (by omega) ⟨hr.1, fun w hw => by have := hr.2 w hw; omega⟩ hd hk (by omega)
       exact ⟨m, by omega, r2⟩
      ·have h3t : t = 3 := by omega
       subst h3t
       obtain ⟨n, rfl⟩ : ∃ n', n = n' + 1 := ⟨n - 1, by omega⟩
       obtain ⟨m, r1, r2⟩ := two 0 3 rest k deep n k1 (by omega) ht (by omega) ⟨hr.1, fun w hw => by have := hr.2 w hw; omega⟩ hd hk (by omega)
       obtain ⟨m, rfl⟩ : ∃ m', m = m' + 1 := ⟨m - 1, by omega⟩
       refine ⟨n, by omega, ?_⟩
       simp only [sLp]
       rw [if_neg (by omega), r2, es_]
       exact fb_ (P := fun x => x ≠ ((3 : Nat) : Int)) (d0_ hk) (by omega) fun x hx => by have := hr.2 x hx; omega
     obtain ⟨m, r1, r2⟩ := h20
     obtain ⟨m, rfl⟩ : ∃ m', m = m' + 1 := ⟨m - 1, by omega⟩
     rw [es_ (fb_ (P := fun x => x ≠ ((2 : Nat) : Int)) (d0_ hk) (by omega) fun x hx => by have := hr.2 x hx; omega)] at r2
     have hlt : w.getD (k + (wds e 0).length) [] ≠ [60] := fun e60 => by
      have := fb_ (P := fun x => x ≤ 0) (d0_ hk) (by omega) fun x hx => by have := hr.2 x hx; omega
      rw [e60] at this; revert this; decide
     simp only [sL1, r2, hlt, if_false]
   ·omega
  have gl_ : ∀ (must : Int) (rest : List Str) (k : Nat) (deep : Int) (n : Nat), must ≤ 4 → eff e must = 4 → ((d + 1 : Nat) : Int) ≤ deep → w.drop k = wds e must ++ rest → 10 * ((wds e must).length + rest.length) + 2 ≤ n →
    ∃ m, rest.length + 1 ≤ m ∧ eg_ n w k deep = sAs m w (k + (wds e must).length) e := by
   intro must rest k deep n hm he hd hk hn
   rcases (b1_ h).2 with ⟨k1, h1, h2, h3, h4⟩ | ⟨k1, h1, h2, h3⟩ | ⟨k1, h1, h2, h3, h4, h5⟩ | ⟨k1, h1, h2, h3, h4⟩
   ·rw [ec_ k1] at hk hn ⊢
    obtain ⟨n, rfl⟩ : ∃ n', n = n' + 1 := ⟨n - 1, by omega⟩
    obtain ⟨g1, g2, g3⟩ := i4_ (n := e.n.toNat) (by omega)
    obtain ⟨q1, q2⟩ := go_ hk
    refine ⟨n, by simp at hn; omega, ?_⟩
    have : (.mk 1 (b9_ (Go.Lib.decDigits e.n.toNat) : Int) [] [] : E) = e := by
     rw [g2, Int.toNat_of_nonneg h1]; conv => rhs; rw [← E.eta e, h3, h4, k1]
    rw [ir_ (by rw [q1]; exact g1), q1, this]; rfl
   ·rw [du_ k1] at hk hn ⊢
    obtain ⟨n, rfl⟩ : ∃ n', n = n' + 1 := ⟨n - 1, by omega⟩
    obtain ⟨g1, g2⟩ := tk_ h2
    obtain ⟨q1, q2⟩ := go_ hk
    refine ⟨n, by simp at hn; omega, ?_⟩
    have : (.mk 2 0 e.s [] : E) = e := by conv => rhs; rw [← E.eta e, h3, h1, k1]
    rw [hy_ (by rw [q1]; exact g2) (by rw [q1]; exact h2), q1, this]; rfl
   ·have ht3 := c1_ h2
    have hb : br_ e.s < must := by
     by_cases hh : br_ e.s < must
     ·exact hh
     ·unfold eff at he; rw [if_pos ⟨k1, hh⟩] at he; omega
    rw [vr_ k1 h3 hb] at hk hn ⊢
    simp only [T7_, T2_, List.length_nil] at hn ⊢
    obtain ⟨n, rfl⟩ : ∃ n', n = n' + 1 := ⟨n - 1, by omega⟩
    rw [List.cons_append, List.append_assoc] at hk
    obtain ⟨q1, q2⟩ := go_ hk
    have inner := one ([[41]] ++ rest) (k + 1) (deep - 1) n k1 ⟨by simp [wAs], fun w hw => by simp at hw; subst hw; simp [br_]⟩ (by omega) q2 (by simp; omega)
    obtain ⟨q3, q4⟩ := go_ (d0_ q2)
    refine ⟨n, by omega, ?_⟩
    rw [i1_ q1 (by omega) inner q3]
    congr 1; omega
   ·rw [e1] at h4
    have A := (i0_ w d _ h4).1
    have ef : eff (e.kids.getD 0 E0) 4 = 4 := by
     have h1 := fl_ (e.kids.getD 0 E0) 4 (by omega)
     have h2 := ut_ (must := 4) h4
     omega
    rw [ie_ k1 h3] at hk hn ⊢
    simp only [T7_, T2_, List.length_nil] at hn ⊢
    rw [List.append_assoc] at hk
    obtain ⟨m, r1, r2⟩ := A 4 ([[97, 115], e.s] ++ rest) k deep n (by omega) ef (by omega) hk (by simp only [T7_, T2_, List.length_nil]; omega)
    simp only [T7_, T2_, List.length_nil] at r1
    obtain ⟨m, rfl⟩ : ∃ m', m = m' + 1 := ⟨m - 1, by omega⟩
    obtain ⟨q1, q2⟩ := go_ (d0_ hk)
    obtain ⟨q3, q4⟩ := go_ q2
    refine ⟨m, by omega, ?_⟩
    have hE : (.mk 4 0 e.s [e.kids.getD 0 E0] : E) = e := by conv => rhs; rw [← E.eta e, m9_ h3, h1, k1]
    rw [r2]
    simp only [sAs]
    rw [q1, if_pos (by rfl), q3, if_pos h2, hE]; rfl
  refine ⟨gl_, ?_, fun rest k deep n h1 h2 h3 h4 h5 => one rest k deep n h1 h2 (by omega) h4 h5⟩
  intro must t rest k deep n hm ht1 ht4 ht hr hd hk hn
  have hkk : ∀ j : Nat, t + j ≤ 4 → ((t + j : Nat) : Int) = eff e must → ∃ m, 10 * rest.length + 1 ≤ m ∧ sLp n w k t deep = ev_ m w t deep e (some (k + (wds e must).length)) := by
   intro j
   induction j generalizing t n with
   | zero =>
    intro _ hef
    rcases (b1_ h).2 with ⟨k1, _⟩ | ⟨k1, _⟩ | ⟨k1, h1, h2, h3, h4, h5⟩ | ⟨k1, _⟩
    ·unfold eff at hef; rw [if_neg (by omega)] at hef; omega
    ·unfold eff at hef; rw [if_neg (by omega)] at hef; omega
    ·unfold eff at hef
     by_cases hb : br_ e.s < must
     ·rw [if_neg (by omega)] at hef; omega
     ·rw [if_pos ⟨k1, hb⟩] at hef
      exact two must t rest k deep n k1 hb (by omega) ht1 hr (by omega) hk hn
    ·unfold eff at hef; rw [if_neg (by omega)] at hef; omega
   | succ j ih =>
    intro h4 hef
    obtain ⟨n, rfl⟩ : ∃ n', n = n' + 1 := ⟨n - 1, by omega⟩
    by_cases h34 : t = 3
    ·subst h34
     obtain ⟨n, rfl⟩ : ∃ n', n = n' + 1 := ⟨n - 1, by omega⟩
     obtain ⟨m, q1, q2⟩ := gl_ must rest k deep n hm (by omega) hd hk (by omega)
     obtain ⟨m, rfl⟩ : ∃ m', m = m' + 1 := ⟨m - 1, by omega⟩
     refine ⟨n + 1, by omega, ?_⟩
     have e4 : sLp (n + 1) w k (3 + 1) deep = (e, some (k + (wds e must).length)) := by
      simp only [sLp]; rw [if_pos (by omega), q2, re_ (d0_ hk) hr.1]
     rw [sLp, if_neg (by omega), e4]
    ·obtain ⟨m, q1, q2⟩ := ih (t + 1) n (by omega) (by omega) (by omega) ⟨hr.1, fun w hw => by have := hr.2 w hw; omega⟩ (by omega) (by omega) (by omega)
     obtain ⟨m, rfl⟩ : ∃ m', m = m' + 1 := ⟨m - 1, by omega⟩
     refine ⟨n, by omega, ?_⟩
     rw [es_ (fb_ (P := fun x => x ≠ ((t + 1 : Nat) : Int)) (d0_ hk) (by omega) fun x hx => by have := hr.2 x hx; omega)] at q2
     rw [sLp, if_neg (by omega), q2]
  have heff := ut_ (must := must) h
  exact hkk (eff e must - t).toNat (by omega) (by omega)
theorem aeu_ {e : E} (h : eok e = true) (hl : (wds e 1).length ≤ 40) {n : Nat} (hn : 410 ≤ n) : sL1 n (wds e 1) 0 5 = (e, some (wds e 1).length) := by
 have A := i0_ (wds e 1) 5 e (cp_ h)
 have hk : (wds e 1).drop 0 = wds e 1 ++ [] := by simp
 obtain ⟨n, rfl⟩ : ∃ n', n = n' + 1 := ⟨n - 1, by omega⟩
 by_cases he : 2 ≤ eff e 1
 ·obtain ⟨m, q1, q2⟩ := A.2.1 1 2 [] 0 5 n (by omega) (by omega) (by omega) he ⟨by simp, fun w hw => by simp at hw⟩ (by omega) hk (by simp; omega)
  obtain ⟨m, rfl⟩ : ∃ m', m = m' + 1 := ⟨m - 1, by omega⟩
  rw [es_ (fb_ (P := fun x => x ≠ ((2 : Nat) : Int)) (d0_ hk) (by omega) fun x hx => by simp at hx)] at q2
  have hlt : (wds e 1).getD (0 + (wds e 1).length) [] ≠ [60] := by rw [qf_ (d0_ hk)]; decide
  rw [Nat.zero_add] at q2 hlt
  simp only [sL1, q2, hlt, if_false]
 ·have k3 : e.kind = 3 ∧ ¬ br_ e.s < 1 := by unfold eff at he; by_cases hh : e.kind = 3 ∧ ¬ br_ e.s < 1; exact hh; rw [if_neg hh] at he; omega
  have := A.2.2 [] 0 5 (n + 1) k3.1 ⟨by simp, fun w hw => by simp at hw⟩ (by omega) (by rw [gp_ (cp_ h)]; exact hk) (by rw [gp_ (cp_ h)]; simp; omega)
  rw [gp_ (cp_ h)] at this; rw [this]; simp
end
section
def marks : Str := [43, 45, 42, 60, 40, 41, 58, 61]
def fj_ (s : Str) : Bool := s.length == 1 && marks.contains (s.headD 0)
def dg_ (s : Str) : Int := if e6_ s then 1 else if cw_ s then 2 else if fj_ s then 3 else 0
structure Tk where
 kind : Int
 s : Str
 col : Int
def ea_ (l : Str) : Nat := max 1 (max (l.takeWhile cz_).length (l.takeWhile ct_).length)
def e5_ : Nat → Str → Int → Option (List Tk)
 | 0, _, _ => some []
 | _ + 1, [], _ => some []
 | n + 1, c :: l, col =>
  if c = 32 then e5_ n l (col + 1)
  else if dg_ ((c :: l).take (ea_ (c :: l))) = 0 then none
  else (e5_ n ((c :: l).drop (ea_ (c :: l))) (col + ea_ (c :: l))).map (⟨dg_ ((c :: l).take (ea_ (c :: l))), (c :: l).take (ea_ (c :: l)), col⟩ :: ·)
def ch_ (l : Str) : Option (List Tk) := if 120 < l.length then none else e5_ l.length l 0
theorem kj_ (l : Str) : 1 ≤ ea_ l := by unfold ea_; omega
theorem adv_ (p : UInt8 → Bool) (l : Str) : (l.takeWhile p).length ≤ l.length := (List.takeWhile_prefix p).length_le
theorem abj_ {l : Str} (h : l ≠ []) : ea_ l ≤ l.length := by
 have h1 := adv_ cz_ l
 have h2 := adv_ ct_ l
 have h3 := List.length_pos_iff.2 h
 unfold ea_; omega
theorem k4_ : ∀ (n m : Nat) (l : Str) (col : Int), l.length ≤ n → l.length ≤ m → e5_ n l col = e5_ m l col
 | 0, m, l, col, hn, hm => by
  have : l = [] := List.eq_nil_of_length_eq_zero (by omega)
  subst this
  cases m <;> rfl
 | n + 1, 0, l, col, hn, hm => by
  have : l = [] := List.eq_nil_of_length_eq_zero (by omega)
  subst this
  rfl
 | n + 1, m + 1, [], col, _, _ => rfl
 | n + 1, m + 1, c :: l, col, hn, hm => by
  simp only [T7_] at hn hm
  have h1 := kj_ (c :: l)
  simp only [e5_]
  rw [k4_ n m l (col + 1) (by omega) (by omega), k4_ n m ((c :: l).drop (ea_ (c :: l))) _ (by simp; omega) (by simp; omega)]
theorem i7_ (c : UInt8) (l : Str) (col : Int) : e5_ (c :: l).length (c :: l) col =
  if c = 32 then e5_ l.length l (col + 1)
  else if dg_ ((c :: l).take (ea_ (c :: l))) = 0 then none
  else (e5_ ((c :: l).drop (ea_ (c :: l))).length ((c :: l).drop (ea_ (c :: l))) (col + ea_ (c :: l))).map (⟨dg_ ((c :: l).take (ea_ (c :: l))), (c :: l).take (ea_ (c :: l)), col⟩ :: ·) := by
 have h1 := kj_ (c :: l)
 have h2 := k4_ l.length ((c :: l).drop (ea_ (c :: l))).length ((c :: l).drop (ea_ (c :: l))) (col + ea_ (c :: l)) (by simp; omega) (Nat.le_refl _)
 simp only [T7_, e5_]
 rw [h2]
def xi_ : Int → List Str → List Tk
 | _, [] => []
 | c, w :: r => ⟨dg_ w, w, c⟩ :: xi_ (c + w.length + 1) r
theorem uc_ : ∀ (c : Int) (l : List Str), (xi_ c l).map (·.s) = l
 | _, [] => rfl
 | c, w :: r => by simp only [xi_, List.map_cons, uc_]
def e2_ (w : Str) : Prop := dg_ w ≠ 0
theorem zg_ {p : UInt8 → Bool} {w r : Str} (h : w.all p = true) (hr : ∀ c, r.head? = some c → p c = false) : (w ++ r).takeWhile p = w := by
 induction w with
 | nil =>
  cases r with
  | nil => rfl
  | cons c r => simp [List.takeWhile, hr c rfl]
 | cons c w ih =>
  simp only [List.all_cons, T5_] at h
  simp [List.takeWhile, h.1, ih h.2]
theorem jw_ {p : UInt8 → Bool} {c : UInt8} {l : Str} (h : p c = false) : (c :: l).takeWhile p = [] := by simp [List.takeWhile, h]
theorem gc_ {c : UInt8} (h : cz_ c = true) : ct_ c = false := by
 rw [Bool.eq_false_iff]; intro h2
 simp only [cz_, ct_, T5_, T3_] at h h2; omega
theorem mg_ {c : UInt8} (h : ct_ c = true) : cz_ c = false := by
 rw [Bool.eq_false_iff]; intro h2
 simp only [cz_, ct_, T5_, T3_] at h h2; omega
theorem ju_ {w : Str} (h : e2_ w) : (w ≠ [] ∧ w.all cz_ = true) ∨ (w ≠ [] ∧ w.all ct_ = true) ∨ (∃ c, w = [c] ∧ cz_ c = false ∧ ct_ c = false ∧ c ≠ 32) := by
 unfold e2_ dg_ at h
 by_cases h1 : e6_ w = true
 ·left
  simp only [e6_, T5_, T3_] at h1
  exact ⟨fun e => by subst e; simp at h1, h1.1.1⟩
 rw [if_neg h1] at h
 by_cases h2 : cw_ w = true
 ·right; left
  obtain ⟨n, hn, rfl⟩ := d5_.1 h2
  exact ⟨ez_ n, List.all_eq_true.2 fun c hc => (li_ c).2 (d1_ n c hc)⟩
 rw [if_neg h2] at h
 by_cases h3 : fj_ w = true
 ·right; right
  simp only [fj_, T5_, beq_iff_eq] at h3
  match w, h3 with
  | [c], h3 =>
   have h4 := h3.2
   refine ⟨c, rfl, ?_⟩
   simp [marks] at h4
   rcases h4 with h4 | h4 | h4 | h4 | h4 | h4 | h4 | h4 <;> subst h4 <;> decide
 ·rw [if_neg h3] at h; exact absurd rfl h
theorem rc_ {w : Str} (h : e2_ w) : w ≠ [] := by
 rcases ju_ h with h | h | ⟨c, rfl, _⟩
 ·exact h.1
 ·exact h.1
 ·simp
theorem om_ {c : UInt8} {w : Str} (h : e2_ (c :: w)) : c ≠ 32 := by
 rcases ju_ h with h | h | ⟨d, e, h1, h2, h3⟩
 ·intro e; subst e; have := h.2; simp [cz_] at this
 ·intro e; subst e; have := h.2; simp [ct_] at this
 ·injection e with e1 e2; subst e1; exact h3
theorem o1_ {w r : Str} (h : e2_ w) (hr : r = [] ∨ ∃ r', r = 32 :: r') : ea_ (w ++ r) = w.length := by
 have hl : ∀ c, r.head? = some c → cz_ c = false := fun c hc => by
  rcases hr with rfl | ⟨r', rfl⟩
  ·simp at hc
  ·simp at hc; subst hc; decide
 have hd : ∀ c, r.head? = some c → ct_ c = false := fun c hc => by
  rcases hr with rfl | ⟨r', rfl⟩
  ·simp at hc
  ·simp at hc; subst hc; decide
 unfold ea_
 rcases ju_ h with h | h | ⟨c, rfl, h1, h2, h3⟩
 ·rw [zg_ h.2 hl]
  cases w with
  | nil => exact absurd rfl h.1
  | cons c w =>
   have := h.2
   simp only [List.all_cons, T5_] at this
   rw [List.cons_append, jw_ (gc_ this.1)]; simp
 ·rw [zg_ h.2 hd]
  cases w with
  | nil => exact absurd rfl h.1
  | cons c w =>
   have := h.2
   simp only [List.all_cons, T5_] at this
   rw [List.cons_append, jw_ (mg_ this.1)]; simp
 ·rw [List.cons_append, jw_ h1, jw_ h2]; rfl
theorem op_ : ∀ (l : List Str) (col : Int), (∀ w ∈ l, e2_ w) → e5_ (cg_ l).length (cg_ l) col = some (xi_ col l)
 | [], col, _ => rfl
 | [w], col, h => by
  have hw := h w (by simp)
  rw [ga_]
  have hl := o1_ (r := []) hw (.inl rfl)
  rw [List.append_nil] at hl
  cases hc : w with
  | nil => exact absurd hc (rc_ hw)
  | cons c v =>
   rw [← hc, show w.length = (c :: v).length by rw [hc], hc, i7_, ← hc, hl]
   have : c ≠ 32 := om_ (by rw [← hc]; exact hw)
   rw [if_neg this, List.take_length, if_neg hw, List.drop_length]
   rfl
 | w :: x :: l, col, h => by
  have hw := h w (by simp)
  have ih := op_ (x :: l) (col + w.length + 1) (fun y hy => h y (by simp [hy]))
  rw [fn_]
  have hl := o1_ (r := 32 :: cg_ (x :: l)) hw (.inr ⟨_, rfl⟩)
  cases hc : w with
  | nil => exact absurd hc (rc_ hw)
  | cons c v =>
   have h32 : c ≠ 32 := om_ (by rw [← hc]; exact hw)
   have e1 : c :: v ++ 32 :: cg_ (x :: l) = c :: (v ++ 32 :: cg_ (x :: l)) := rfl
   have e2 : c :: (v ++ 32 :: cg_ (x :: l)) = w ++ 32 :: cg_ (x :: l) := by rw [hc]; rfl
   rw [e1, i7_, if_neg h32, e2, hl, List.take_left, List.drop_left, if_neg hw, i7_, if_pos rfl, ih, ← hc]
   rfl
theorem ov_ {l : List Str} (h : ∀ w ∈ l, e2_ w) (hl : (cg_ l).length ≤ 120) : ch_ (cg_ l) = some (xi_ 0 l) := by
 unfold ch_; rw [if_neg (by omega)]; exact op_ l 0 h
theorem te_ {s : Str} (h : f3_ s = true) : e2_ s := by
 simp only [f3_, T5_] at h
 unfold e2_ dg_; rw [if_pos h.1]; decide
theorem w8_ {n : Nat} (h : n ≤ 1000000) : e2_ (Go.Lib.decDigits n) := by
 unfold e2_ dg_
 split
 ·decide
 ·rw [if_pos (i4_ h).1]; decide
theorem g2_ {s : Str} (h : fj_ s = true) : e2_ s := by
 unfold e2_ dg_
 split
 ·decide
 ·split
  ·decide
  ·try rw [if_pos h]
   decide
theorem gy_ {s : Str} (h : e6_ s = true) : e2_ s := by unfold e2_ dg_; rw [if_pos h]; decide
theorem z6_ {s : Str} (h : fp_ s = true) : e2_ s := by
 simp only [fp_, Bool.or_eq_true, beq_iff_eq] at h; rcases h with ((h | h) | h) | h <;> subst h <;> exact g2_ (by decide)
theorem xh_ {s : Str} (h : fd_ s = true) : e2_ s := by
 simp only [fd_, Bool.or_eq_true, beq_iff_eq] at h; rcases h with h | h <;> subst h <;> exact gy_ (by decide)
theorem fv_ : ∀ (d : Nat) (e : E) (must : Int), form e d = true → ∀ s ∈ wds e must, e2_ s
 | 0, e, must, h => by have := (b1_ h).1; omega
 | d + 1, e, must, h => by
  have e1 : ((d + 1 : Nat) : Int) - 1 = (d : Int) := by omega
  intro s hs
  rcases (b1_ h).2 with ⟨k1, h1, h2, h3, h4⟩ | ⟨k1, h1, h2, h3⟩ | ⟨k1, h1, h2, h3, h4, h5⟩ | ⟨k1, h1, h2, h3, h4⟩
  ·rw [ec_ k1] at hs; simp at hs; subst hs; exact w8_ (by omega)
  ·rw [du_ k1] at hs; simp at hs; subst hs; exact te_ h2
  ·rw [e1] at h4 h5
   rw [fi_ k1 h3] at hs
   have A := fv_ d _ (max 2 (br_ e.s)) h4
   have B := fv_ d _ (br_ e.s + 1) h5
   have key : s ∈ wds (e.kids.getD 0 E0) (max 2 (br_ e.s)) ++ [e.s] ++ wds (e.kids.getD 1 E0) (br_ e.s + 1) → e2_ s := fun hs => by
    simp only [List.mem_append, List.mem_singleton] at hs
    rcases hs with (hs | hs) | hs
    ·exact A s hs
    ·rw [hs]; exact z6_ h2
    ·exact B s hs
   split at hs
   ·rcases List.mem_append.1 hs with hs | hs
    ·rcases List.mem_append.1 hs with hs | hs
     ·simp at hs; subst hs; exact g2_ (by decide)
     ·exact key hs
    ·simp at hs; subst hs; exact g2_ (by decide)
   ·exact key hs
  ·rw [e1] at h4
   rw [ie_ k1 h3] at hs
   simp only [List.mem_append, List.mem_cons, List.not_mem_nil, or_false] at hs
   rcases hs with hs | hs | hs
   ·exact fv_ d _ 4 h4 s hs
   ·subst hs; exact gy_ (by decide)
   ·subst hs; exact xh_ h2
end
section
def df_ (w : List Str) : Option E :=
 if w.length ≤ 40 then
  (if ((ce_ 500 1 ⟨w, false, 0⟩).2.bad || !(ce_ 500 1 ⟨w, false, 0⟩).2.left.isEmpty || !eok (ce_ 500 1 ⟨w, false, 0⟩).1 || !(wds (ce_ 500 1 ⟨w, false, 0⟩).1 1 == w)) then none else some (ce_ 500 1 ⟨w, false, 0⟩).1)
 else none
def ra_ (w : List Str) : Option E :=
 if w.length ≤ 40 then
  (if (!((sL1 500 w 0 5).2 == some w.length) || !eok (sL1 500 w 0 5).1 || !(wds (sL1 500 w 0 5).1 1 == w)) then none else some (sL1 500 w 0 5).1)
 else none
theorem i5_ {w : List Str} {e : E} : df_ w = some e ↔ eok e = true ∧ wds e 1 = w := by
 unfold df_
 constructor
 ·intro h
  split at h
  ·split at h
   ·cases h
   ·rename_i hh
    simp only [Option.some.injEq] at h
    subst h
    simp only [Bool.or_eq_true, Bool.not_eq_true', not_or, Bool.not_eq_true, Bool.not_eq_false, beq_eq_false_iff_ne, ne_eq, Decidable.not_not] at hh
    exact ⟨hh.1.2, hh.2⟩
  ·cases h
 ·rintro ⟨h1, rfl⟩
  have := (db_ h1 1).2.1
  obtain ⟨d, hd⟩ := ae0_ h1 (by omega) (n := 500) (by omega)
  rw [if_pos (by omega), hd]
  simp [h1]
theorem nd_ {w : List Str} {e : E} : ra_ w = some e ↔ eok e = true ∧ wds e 1 = w := by
 unfold ra_
 constructor
 ·intro h
  split at h
  ·split at h
   ·cases h
   ·rename_i hh
    simp only [Option.some.injEq] at h
    subst h
    simp only [Bool.or_eq_true, Bool.not_eq_true', not_or, Bool.not_eq_true, Bool.not_eq_false, beq_eq_false_iff_ne, ne_eq, Decidable.not_not] at hh
    exact ⟨hh.1.2, hh.2⟩
  ·cases h
 ·rintro ⟨h1, rfl⟩
  have := (db_ h1 1).2.1
  have hd := aeu_ h1 (by omega) (n := 500) (by omega)
  rw [if_pos (by omega), hd]
  simp [h1]
theorem y3_ (w : List Str) : df_ w = ra_ w := by
 cases h : ra_ w with
 | some e => rw [i5_, ← nd_, h]
 | none =>
  cases h2 : df_ w with
  | none => rfl
  | some e => rw [i5_, ← nd_, h] at h2; cases h2
theorem mv_ : ∀ (d : Nat) (e : E) (must : Int), form e d = true → ∀ s ∈ wds e must, s ≠ wl_ ∧ s ≠ bi_ ∧ s ≠ cj_ ∧ s ≠ wIf ∧ s ≠ ps_ ∧ s ≠ wLet ∧ s ≠ wEq
 | 0, e, must, h => by have := (b1_ h).1; omega
 | d + 1, e, must, h => by
  have e1 : ((d + 1 : Nat) : Int) - 1 = (d : Int) := by omega
  intro s hs
  rcases (b1_ h).2 with ⟨k1, h1, h2, h3, h4⟩ | ⟨k1, h1, h2, h3⟩ | ⟨k1, h1, h2, h3, h4, h5⟩ | ⟨k1, h1, h2, h3, h4⟩
  ·rw [ec_ k1] at hs; simp at hs; subst hs
   have hd := d1_ e.n.toNat
   have hne := ez_ e.n.toNat
   have key : ∀ c r, ¬ fh_ c → Go.Lib.decDigits e.n.toNat ≠ c :: r := fun c r hc he => hc (hd c (by rw [he]; simp))
   refine ⟨key _ _ ?_, key _ _ ?_, key _ _ ?_, key _ _ ?_, key _ _ ?_, key _ _ ?_, key _ _ ?_⟩ <;> unfold fh_ <;> decide
  ·rw [du_ k1] at hs; simp at hs; subst hs
   simp only [f3_, gl_, T5_, Bool.not_eq_true', Bool.or_eq_false_iff, beq_eq_false_iff_ne, ne_eq] at h2
   obtain ⟨hw, hh⟩ := h2
   refine ⟨fun e => hh.1.1.1.1.1.2 e, fun e => ?_, fun e => hh.1.1.2 e, fun e => hh.1.2 e, fun e => hh.1.1.1.1.2 e, fun e => hh.1.1.1.1.1.1 e, fun e => ?_⟩ <;> rw [e] at hw <;> exact absurd hw (by decide)
  ·rw [e1] at h4 h5
   rw [fi_ k1 h3] at hs
   have A := mv_ d _ (max 2 (br_ e.s)) h4
   have B := mv_ d _ (br_ e.s + 1) h5
   have key : s ∈ wds (e.kids.getD 0 E0) (max 2 (br_ e.s)) ++ [e.s] ++ wds (e.kids.getD 1 E0) (br_ e.s + 1) → s ≠ wl_ ∧ s ≠ bi_ ∧ s ≠ cj_ ∧ s ≠ wIf ∧ s ≠ ps_ ∧ s ≠ wLet ∧ s ≠ wEq := fun hs => by
    simp only [List.mem_append, List.mem_singleton] at hs
    rcases hs with (hs | hs) | hs
    ·exact A s hs
    ·rw [hs]
     simp only [fp_, Bool.or_eq_true, beq_iff_eq] at h2; rcases h2 with ((h | h) | h) | h <;> rw [h] <;> decide
    ·exact B s hs
   split at hs
   ·rcases List.mem_append.1 hs with hs | hs
    ·rcases List.mem_append.1 hs with hs | hs
     ·simp at hs; subst hs; decide
     ·exact key hs
    ·simp at hs; subst hs; decide
   ·exact key hs
  ·rw [e1] at h4
   rw [ie_ k1 h3] at hs
   simp only [List.mem_append, List.mem_cons, List.not_mem_nil, or_false] at hs
   rcases hs with hs | hs | hs
   ·exact mv_ d _ 4 h4 s hs
   ·subst hs; decide
   ·subst hs; simp only [fd_, Bool.or_eq_true, beq_iff_eq] at h2; rcases h2 with h | h <;> rw [h] <;> decide
theorem zp_ {a b : List Str} {s : Str} (h : ∀ x ∈ a, x ≠ s) : co_ (a ++ s :: b) s = a.length := by
 unfold co_
 rw [if_pos (by simp), List.idxOf_append, if_neg (fun hm => h s hm rfl)]
 simp
def ex (w : List Str) : E := (df_ w).getD E0
theorem ic_ {e : E} (h : eok e = true) : ex (wds e 1) = e := by unfold ex; rw [i5_.2 ⟨h, rfl⟩]; rfl
def sk_ (b : Bl) : Str := cg_ (bw b)
theorem j5_ {s : Bl} (h : bok s = true) : (cg_ (bw s)).length ≤ 120 ∧
  (s = B0 ∨ (s.kind = 1 ∧ f3_ s.name = true ∧ pe s.expr = true ∧ s.thn = E0) ∨ (s.kind = 2 ∧ s.name = [] ∧ pe s.expr = true ∧ s.thn = E0) ∨ (s.kind = 3 ∧ s.name = [] ∧ pe s.expr = true ∧ pe s.thn = true)) := by
 simp only [bok, T5_, T3_] at h
 refine ⟨h.2, ?_⟩
 have h := h.1
 unfold eb_ at h
 by_cases k0 : s.kind = 0
 ·simp [k0, k1_] at h
  left; cases s; simp_all [B0]
 by_cases k1 : s.kind = 1
 ·simp [k1, k1_] at h; exact .inr (.inl ⟨k1, h.1.1, h.1.2, h.2⟩)
 by_cases k2 : s.kind = 2
 ·simp [k2, k1_] at h; exact .inr (.inr (.inl ⟨k2, h.1.1, h.1.2, h.2⟩))
 by_cases k3 : s.kind = 3
 ·simp [k3] at h; exact .inr (.inr (.inr ⟨k3, h.1.1, h.1.2, h.2⟩))
 ·simp [k0, k1, k2, k3] at h
theorem xs_ : e2_ bi_ := g2_ (by decide)
theorem aav_ : e2_ wEq := g2_ (by decide)
theorem z4_ {s : Bl} (h : bok s = true) : ∀ w ∈ bw s, e2_ w := by
 obtain ⟨_, h | ⟨k, h1, h3, h4⟩ | ⟨k, h1, h3, h4⟩ | ⟨k, h1, h3, h4⟩⟩ := j5_ h
 ·subst h; intro w hw; simp [bw, B0] at hw
 ·intro w hw
  simp only [bw, k, if_true, List.mem_cons] at hw
  rcases hw with rfl | rfl | hw
  ·exact te_ h1
  ·exact aav_
  ·exact fv_ 5 _ 1 (cp_ (c2_ h3)) w hw
 ·intro w hw
  simp only [bw, k, show ¬ (2 : Int) = 1 by omega, if_false, if_true, List.mem_cons] at hw
  rcases hw with rfl | hw
  ·exact gy_ (by decide)
  ·exact fv_ 5 _ 1 (cp_ (c2_ h3)) w hw
 ·intro w hw
  simp only [bw, k, show ¬ (3 : Int) = 1 by omega, show ¬ (3 : Int) = 2 by omega, if_false, if_true, List.mem_cons, List.mem_append] at hw
  rcases hw with (rfl | hw) | rfl | rfl | hw
  ·exact gy_ (by decide)
  ·exact fv_ 5 _ 1 (cp_ (c2_ h3)) w hw
  ·exact xs_
  ·exact gy_ (by decide)
  ·exact fv_ 5 _ 1 (cp_ (c2_ h4)) w hw
theorem p2_ {s : Bl} (h : bok s = true) : ch_ (sk_ s) = some (xi_ 0 (bw s)) := ov_ (z4_ h) (j5_ h).1
theorem uy_ {e : E} {d : Nat} {r : List Str} (h : form e d = true) (must : Int) : co_ (wIf :: wds e must ++ bi_ :: r) bi_ = (wds e must).length + 1 := by
 rw [zp_]
 ·simp
 ·intro x hx
  rcases List.mem_cons.1 hx with rfl | hx
  ·decide
  ·exact (mv_ d e must h x hx).2.1
theorem kp_ {e : E} (h : eok e = true) : df_ (wds e 1) = some e := i5_.2 ⟨h, rfl⟩
theorem cut1 {a : Str} {l r : List Str} {x : Str} : ((a :: l ++ x :: r).take (l.length + 1)).drop 1 = l := by simp
theorem cut3 {a : Str} {l r : List Str} {x y : Str} : (a :: l ++ x :: y :: r).drop (l.length + 1 + 2) = r := by simp [List.drop_append]
theorem acx_ {α : Type} {x y : Option α} (h : ∀ a, x = some a ↔ y = some a) : x = y := by
 cases x with
 | some a => exact ((h a).1 rfl).symm
 | none =>
  cases y with
  | none => rfl
  | some b => exact (h b).2 rfl
def c6_ (w : List Str) : Bl :=
 if 0 < w.length ∧ w.getD 0 [] = cj_ then ⟨2, [], ex (w.drop 1), E0⟩
 else if 0 < w.length ∧ w.getD 0 [] = wIf then
  (if 0 < co_ w bi_ ∧ co_ w bi_ + 2 ≤ w.length then ⟨3, [], ex ((w.take (co_ w bi_).toNat).drop 1), ex (w.drop ((co_ w bi_).toNat + 2))⟩ else ⟨3, [], E0, E0⟩)
 else if 2 < w.length then ⟨1, w.getD 0 [], ex (w.drop 2), E0⟩
 else B0
def em_ (line : Str) : Option Bl :=
 match ch_ line with
 | none => none
 | some ts => if bok (c6_ (ts.map (·.s))) = true ∧ sk_ (c6_ (ts.map (·.s))) = line then some (c6_ (ts.map (·.s))) else none
def ex_ (w : List Str) : Bl × Bool :=
 if w.length = 0 then (B0, true)
 else if w.getD 0 [] = cj_ then (⟨2, [], ex (w.drop 1), E0⟩, (df_ (w.drop 1)).isSome)
 else if w.getD 0 [] = wIf ∧ 0 < co_ w bi_ ∧ w.getD ((co_ w bi_).toNat + 1) [] = cj_ then
  (⟨3, [], ex ((w.take (co_ w bi_).toNat).drop 1), ex (w.drop ((co_ w bi_).toNat + 2))⟩, (df_ ((w.take (co_ w bi_).toNat).drop 1)).isSome && (df_ (w.drop ((co_ w bi_).toNat + 2))).isSome)
 else if w.getD 1 [] = wEq then (⟨1, w.getD 0 [], ex (w.drop 2), E0⟩, (df_ (w.drop 2)).isSome)
 else (B0, false)
def j0_ (line : Str) : Option Bl :=
 match ch_ line with
 | none => none
 | some ts => if (ex_ (ts.map (·.s))).2 = true ∧ bok (ex_ (ts.map (·.s))).1 = true ∧ sk_ (ex_ (ts.map (·.s))).1 = line then some (ex_ (ts.map (·.s))).1 else none
theorem u3_ {s : Str} (h : f3_ s = true) : s ≠ cj_ ∧ s ≠ wIf ∧ s ≠ wl_ ∧ s ≠ wLet ∧ s ≠ ps_ := by
 simp only [f3_, gl_, T5_, Bool.not_eq_true', Bool.or_eq_false_iff, beq_eq_false_iff_ne, ne_eq] at h
 obtain ⟨_, hh⟩ := h
 exact ⟨fun e => hh.1.1.2 e, fun e => hh.1.2 e, fun e => hh.1.1.1.1.1.2 e, fun e => hh.1.1.1.1.1.1 e, fun e => hh.1.1.1.1.2 e⟩
theorem acg_ {s : Bl} (h : bok s = true) : c6_ (bw s) = s := by
 obtain ⟨_, h | ⟨k, h1, h3, h4⟩ | ⟨k, h1, h3, h4⟩ | ⟨k, h1, h3, h4⟩⟩ := j5_ h
 ·subst h; rfl
 ·have hw : bw s = s.name :: wEq :: wds s.expr 1 := by simp only [bw, k, if_true]
  have := (db_ (c2_ h3) 1).1
  have hh := u3_ h1
  rw [hw, c6_, if_neg (fun h => hh.1 h.2), if_neg (fun h => hh.2.1 h.2), if_pos (by simp; omega)]
  simp only [List.getD_cons_succ, List.getD_cons_zero, List.drop_succ_cons, List.drop_zero, ic_ (c2_ h3)]
  cases s; simp_all
 ·have hw : bw s = cj_ :: wds s.expr 1 := by simp [bw, k]
  rw [hw, c6_, if_pos ⟨by simp, rfl⟩]
  simp only [List.drop_succ_cons, List.drop_zero, ic_ (c2_ h3)]
  cases s; simp_all
 ·have hw : bw s = wIf :: wds s.expr 1 ++ bi_ :: cj_ :: wds s.thn 1 := by simp [bw, k]
  rw [hw, c6_, if_neg (fun hh => absurd (show wIf = cj_ from hh.2) (by decide)), if_pos ⟨by simp, rfl⟩, uy_ (cp_ (c2_ h3)) 1, if_pos ⟨by omega, by simp; omega⟩,
   show ((wds s.expr 1).length + 1 : Int).toNat = (wds s.expr 1).length + 1 by omega, cut1, cut3, ic_ (c2_ h3), ic_ (c2_ h4)]
  cases s; simp_all
theorem y4_ {a : Str} {l r : List Str} {x y : Str} : (a :: l ++ x :: y :: r).getD (l.length + 1 + 1) [] = y := by
 simp [T8_]
theorem ado_ {s : Bl} (h : bok s = true) : ex_ (bw s) = (s, true) := by
 obtain ⟨_, h | ⟨k, h1, h3, h4⟩ | ⟨k, h1, h3, h4⟩ | ⟨k, h1, h3, h4⟩⟩ := j5_ h
 ·subst h; rfl
 ·have hw : bw s = s.name :: wEq :: wds s.expr 1 := by simp only [bw, k, if_true]
  have hh := u3_ h1
  rw [hw, ex_, if_neg (by simp), if_neg (show ¬ (s.name :: wEq :: wds s.expr 1).getD 0 [] = cj_ from hh.1), if_neg (fun h => hh.2.1 h.1), if_pos (show (s.name :: wEq :: wds s.expr 1).getD 1 [] = wEq from rfl)]
  simp only [List.getD_cons_succ, List.getD_cons_zero, List.drop_succ_cons, List.drop_zero, ic_ (c2_ h3), kp_ (c2_ h3)]
  cases s; simp_all
 ·have hw : bw s = cj_ :: wds s.expr 1 := by simp [bw, k]
  rw [hw, ex_, if_neg (by simp), if_pos (show (cj_ :: wds s.expr 1).getD 0 [] = cj_ from rfl)]
  simp only [List.drop_succ_cons, List.drop_zero, ic_ (c2_ h3), kp_ (c2_ h3)]
  cases s; simp_all
 ·have hw : bw s = wIf :: wds s.expr 1 ++ bi_ :: cj_ :: wds s.thn 1 := by simp [bw, k]
  rw [hw, ex_, if_neg (by simp), if_neg (show ¬ (wIf :: wds s.expr 1 ++ bi_ :: cj_ :: wds s.thn 1).getD 0 [] = cj_ from fun hh => absurd (show wIf = cj_ from hh) (by decide)), uy_ (cp_ (c2_ h3)) 1,
   show ((wds s.expr 1).length + 1 : Int).toNat = (wds s.expr 1).length + 1 by omega, if_pos ⟨rfl, by omega, y4_⟩, cut1, cut3, ic_ (c2_ h3), ic_ (c2_ h4), kp_ (c2_ h3), kp_ (c2_ h4)]
  cases s; simp_all
theorem xg_ {line : Str} {s : Bl} : em_ line = some s ↔ bok s = true ∧ sk_ s = line := by
 unfold em_
 constructor
 ·intro h
  split at h
  ·cases h
  ·split at h
   ·rename_i hh; cases h; exact hh
   ·cases h
 ·rintro ⟨h1, rfl⟩
  rw [p2_ h1]
  simp only [uc_, acg_ h1, h1, and_self, if_true]
theorem um_ {line : Str} {s : Bl} : j0_ line = some s ↔ bok s = true ∧ sk_ s = line := by
 unfold j0_
 constructor
 ·intro h
  split at h
  ·cases h
  ·split at h
   ·rename_i hh; cases h; exact hh.2
   ·cases h
 ·rintro ⟨h1, rfl⟩
  rw [p2_ h1]
  simp only [uc_, ado_ h1, h1, and_self, if_true]
theorem aan_ (line : Str) : em_ line = j0_ line := acx_ fun s => by rw [xg_, um_]
end
section
def wid (l : List Str) : Nat := (l.map fun s => s.length + 1).sum
theorem abd_ (s : Str) (l : List Str) : wid (s :: l) = s.length + 1 + wid l := rfl
theorem ab4_ (a b : List Str) : wid (a ++ b) = wid a + wid b := by simp [wid, List.sum_append]
def offW (w : Str) : Prop := w ≠ wAs ∧ w ≠ [105, 110, 116] ∧ w ≠ [98, 111, 111, 108] ∧ w ≠ wLet ∧ w ≠ wl_ ∧ w ≠ ps_
instance (w : Str) : Decidable (offW w) := by unfold offW; exact inferInstance
end
section
def shf (k : Int) (l : Wd) : Wd := l.map fun p => if 0 ≤ p.2 then (p.1, p.2 + k) else p
def Trc (L : Wd) : Wd → Wd → Prop
 | [], [] => True
 | w :: B, c :: C => c.1 = w.1 ∧ ((w.2 = -1 ∧ c.2 = -1) ∨ (0 ≤ w.2 ∧ 0 ≤ c.2 ∧ L[c.2.toNat]? = some w)) ∧ Trc L B C
 | _, _ => False
theorem Trc.app {L : Wd} : ∀ {B C B' C' : Wd}, Trc L B C → Trc L B' C' → Trc L (B ++ B') (C ++ C')
 | [], [], _, _, _, h => h
 | [], _ :: _, _, _, h, _ => by simp [Trc] at h
 | _ :: _, [], _, _, h, _ => by simp [Trc] at h
 | w :: B, c :: C, B', C', h, k => by
  simp only [Trc] at h
  simp only [List.cons_append, Trc]
  exact ⟨h.1, h.2.1, h.2.2.app k⟩
theorem Trc.shf {L P : Wd} : ∀ {B C : Wd}, Trc L B C → Trc (P ++ L) B (Go.Proofs.YtefmbmafdgedmaaGreatDoor.shf P.length C)
 | [], [], _ => by simp [Go.Proofs.YtefmbmafdgedmaaGreatDoor.shf, Trc]
 | [], _ :: _, h => by simp [Trc] at h
 | _ :: _, [], h => by simp [Trc] at h
 | w :: B, c :: C, h => by
  simp only [Trc] at h
  have ih := h.2.2.shf (P := P)
  simp only [Go.Proofs.YtefmbmafdgedmaaGreatDoor.shf, List.map_cons, Trc] at ih ⊢
  rcases h.2.1 with ⟨h1, h2⟩ | ⟨h1, h2, h3⟩
  ·rw [if_neg (by omega)]; exact ⟨h.1, .inl ⟨h1, h2⟩, ih⟩
  ·rw [if_pos h2]
   refine ⟨h.1, .inr ⟨h1, by dsimp only; omega, ?_⟩, ih⟩
   dsimp only
   rw [show (c.2 + (P.length : Int)).toNat = P.length + c.2.toNat by omega, List.getElem?_append_right (by omega), Nat.add_sub_cancel_left]
   exact h3
theorem Trc.right {L Q : Wd} : ∀ {B C : Wd}, Trc L B C → Trc (L ++ Q) B C
 | [], [], _ => by simp [Trc]
 | [], _ :: _, h => by simp [Trc] at h
 | _ :: _, [], h => by simp [Trc] at h
 | w :: B, c :: C, h => by
  simp only [Trc] at h ⊢
  refine ⟨h.1, ?_, h.2.2.right⟩
  rcases h.2.1 with h1 | ⟨h1, h2, h3⟩
  ·exact .inl h1
  ·exact .inr ⟨h1, h2, by rw [List.getElem?_append_left (List.getElem?_eq_some_iff.1 h3).1]; exact h3⟩
theorem Trc.brk {L B C : Wd} (b : Bool) (h : Trc L B C) : Trc L (Go.Proofs.YtefmbmafdgedmaaGreatDoor.brk b B) (Go.Proofs.YtefmbmafdgedmaaGreatDoor.brk b C) := by
 cases b with
 | false => exact h
 | true =>
  simp only [Go.Proofs.YtefmbmafdgedmaaGreatDoor.brk, if_true, Trc]
  refine ⟨trivial, .inl ⟨trivial, trivial⟩, h.app ?_⟩
  simp [Trc]
theorem Trc.fst {L : Wd} : ∀ {B C : Wd}, Trc L B C → C.map (·.1) = B.map (·.1)
 | [], [], _ => rfl
 | [], _ :: _, h => by simp [Trc] at h
 | _ :: _, [], h => by simp [Trc] at h
 | w :: B, c :: C, h => by
  simp only [Trc] at h
  simp only [List.map_cons, h.1, h.2.2.fst]
def ji_ : Int → Wd → Int → Int
 | _, [], _ => -1
 | c, w :: r, i => if w.2 = i then c else ji_ (c + w.1.length + 1) r i
def jn_ (l : Wd) : Int := (wid (l.map (·.1)) : Int)
theorem w7_ (w : Str × Int) (l : Wd) : jn_ (w :: l) = w.1.length + 1 + jn_ l := by simp [jn_, abd_]
theorem tj_ (a b : Wd) : jn_ (a ++ b) = jn_ a + jn_ b := by simp [jn_, ab4_]
theorem sq_ : jn_ [] = 0 := rfl
theorem x6_ (l : Wd) : 0 ≤ jn_ l := by unfold jn_; omega
theorem k2_ (i : Int) : ∀ (a b : Wd) (c : Int), ji_ c (a ++ b) i = if i ∈ a.map (·.2) then ji_ c a i else ji_ (c + jn_ a) b i
 | [], b, c => by simp [sq_]
 | w :: a, b, c => by
  have ih := k2_ i a b (c + w.1.length + 1)
  simp only [List.cons_append, ji_, List.map_cons, List.mem_cons]
  by_cases h : w.2 = i
  ·simp [h]
  ·have h' : ¬ i = w.2 := fun e => h e.symm
   simp only [h, if_false, h', false_or, ih, w7_]
   split
   ·rfl
   ·congr 1; omega
theorem lh_ (i : Int) (d : Int) : ∀ (a : Wd) (c : Int), i ∈ a.map (·.2) → ji_ (c + d) a i = ji_ c a i + d
 | [], c, h => by simp at h
 | w :: a, c, h => by
  simp only [ji_]
  by_cases e : w.2 = i
  ·rw [if_pos e, if_pos e]
  ·rw [if_neg e, if_neg e]
   simp only [List.map_cons, List.mem_cons] at h
   have := lh_ i d a (c + w.1.length + 1) (h.resolve_left fun q => e q.symm)
   rw [← this]; congr 1; omega
theorem Trc.lt {L : Wd} : ∀ {B C : Wd}, Trc L B C → ∀ p ∈ C, -1 ≤ p.2 ∧ p.2 < (L.length : Int)
 | [], [], _ => by simp
 | [], _ :: _, h => by simp [Trc] at h
 | _ :: _, [], h => by simp [Trc] at h
 | w :: B, c :: C, h => by
  simp only [Trc] at h
  intro p hp
  rcases List.mem_cons.1 hp with rfl | hp
  ·rcases h.2.1 with ⟨_, h2⟩ | ⟨_, h2, h3⟩
   ·omega
   ·have := (List.getElem?_eq_some_iff.1 h3).1; omega
  ·exact h.2.2.lt p hp
theorem Trc.len {L : Wd} {B C : Wd} (h : Trc L B C) : C.length = B.length := by
 have := congrArg List.length h.fst; simpa using this
end
end Go.Proofs.YtefmbmafdgedmaaGreatDoor
