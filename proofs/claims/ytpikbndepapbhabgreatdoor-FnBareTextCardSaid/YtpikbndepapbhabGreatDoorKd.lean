/- The program's reader of what is reckoned, as a plain function; it reads back what is written. Conditions: none. -/
import Derived.Test.YtpikbndepapbhabGreatDoorKc
import Derived.Test.YtpikbndepapbhabGreatDoorKb
set_option linter.unusedVariables false
set_option linter.unusedSimpArgs false
namespace Go.Proofs.YtpikbndepapbhabGreatDoor
section
structure RS where
 left : List Str
 bad : Bool
 deep : Int
def wAs : Str := [97, 115]
def b6_ (s : RS) : Str := match s.left with | [] => [] | x :: _ => x
def bw_ (s : RS) : RS := match s.left with | [] => { s with bad := true } | _ :: r => { s with left := r }
def asL : List Str → E → Int → E × RS
 | [], e, d => (e, ⟨[], false, d⟩)
 | [w], e, d => if w = wAs then (.mk 4 0 [] [e], ⟨[], true, d⟩) else (e, ⟨[w], false, d⟩)
 | w :: t :: r, e, d => if w = wAs then asL r (.mk 4 0 t [e]) d else (e, ⟨w :: t :: r, false, d⟩)
def asR (s : RS) (e : E) : E × RS := if s.bad then (e, s) else asL s.left e s.deep
mutual
def cf_ : Nat → Nat → RS → E × RS
 | 0, _, s => (E0, s)
 | n + 1, t, s => if t = 4 then eh_ n s else dg_ n t (cf_ n (t + 1) s).1 (cf_ n (t + 1) s).2
def dg_ : Nat → Nat → E → RS → E × RS
 | 0, _, e, s => (e, s)
 | n + 1, t, e, s => if s.bad = false ∧ s.left ≠ [] ∧ bk_ (b6_ s) = t then
   dg_ n t (.mk 3 0 (b6_ s) [e, (cf_ n (t + 1) (bw_ s)).1]) (cf_ n (t + 1) (bw_ s)).2 else (e, s)
def eh_ : Nat → RS → E × RS
 | 0, s => (E0, s)
 | n + 1, s => asR (dy_ n (b6_ s) (bw_ s)).2 (dy_ n (b6_ s) (bw_ s)).1
def dy_ : Nat → Str → RS → E × RS
 | 0, _, s => (E0, s)
 | n + 1, w, s =>
  if w = [40] then
   if s.bad = true ∨ 40 < s.deep + 1 then (E0, { s with deep := s.deep + 1, bad := true })
   else
    let p := cf_ n 1 { s with deep := s.deep + 1 }
    (p.1, if p.2.bad then p.2 else { bw_ p.2 with bad := !(b6_ p.2 == [41]) })
  else if cq_ w then (.mk 1 (by_ w) [] [], s)
  else if fd_ w then (.mk 2 0 w [], s)
  else (E0, { s with bad := true })
end
theorem ga_ (s : RS) : (bw_ s).left.length ≤ s.left.length := by
 unfold bw_; split <;> simp_all
theorem r9_ : ∀ (l : List Str) (e : E) (d : Int), (asL l e d).2.left.length ≤ l.length ∧ (asL l e d).2.deep = d
 | [], e, d => by simp [asL]
 | [w], e, d => by simp only [asL]; split <;> simp
 | w :: t :: r, e, d => by
  simp only [asL]
  split
  ·have := r9_ r (.mk 4 0 t [e]) d; simp only [T7_]; omega
  ·simp
theorem wt_ (s : RS) (e : E) : (asR s e).2.left.length ≤ s.left.length := by
 unfold asR; split
 ·exact Nat.le_refl _
 ·exact (r9_ s.left e s.deep).1
theorem aad_ (s : RS) (e : E) : (asR s e).2.deep = s.deep := by
 unfold asR; split
 ·rfl
 ·exact (r9_ s.left e s.deep).2
theorem n3_ (s : RS) : (bw_ s).deep = s.deep := by unfold bw_; split <;> rfl
theorem xe_ : ∀ (n : Nat), (∀ t s, (cf_ n t s).2.left.length ≤ s.left.length) ∧ (∀ t e s, (dg_ n t e s).2.left.length ≤ s.left.length) ∧ (∀ s, (eh_ n s).2.left.length ≤ s.left.length) ∧ (∀ w s, (dy_ n w s).2.left.length ≤ s.left.length)
 | 0 => by simp [cf_, dg_, eh_, dy_]
 | n + 1 => by
  obtain ⟨h1, h2, h3, h4⟩ := xe_ n
  refine ⟨fun t s => ?_, fun t e s => ?_, fun s => ?_, fun w s => ?_⟩
  ·simp only [cf_]; split
   ·exact h3 s
   ·exact Nat.le_trans (h2 _ _ _) (h1 _ _)
  ·simp only [dg_]; split
   ·exact Nat.le_trans (h2 _ _ _) (Nat.le_trans (h1 _ _) (ga_ s))
   ·exact Nat.le_refl _
  ·simp only [eh_]; exact Nat.le_trans (wt_ _ _) (Nat.le_trans (h4 _ _) (ga_ s))
  ·simp only [dy_]
   split
   ·split
    ·exact Nat.le_refl _
    ·dsimp only
     split
     ·exact h1 _ _
     ·exact Nat.le_trans (ga_ _) (h1 _ _)
   ·split
    ·exact Nat.le_refl _
    ·split <;> exact Nat.le_refl _
def okR (t : Nat) (l : List Str) : Prop := l.head? ≠ some wAs ∧ ∀ w, l.head? = some w → bk_ w ≤ t
theorem tj_ {l : List Str} {e : E} {d : Int} (h : l.head? ≠ some wAs) : asL l e d = (e, ⟨l, false, d⟩) := by
 match l, h with
 | [], _ => rfl
 | [w], h => simp only [asL]; rw [if_neg (fun e => h (by rw [e]; rfl))]
 | w :: t :: r, h => simp only [asL]; rw [if_neg (fun e => h (by rw [e]; rfl))]
theorem gh_ {n t : Nat} {e : E} {l : List Str} {d : Int} (h : ∀ w, l.head? = some w → bk_ w ≠ t) : dg_ n t e ⟨l, false, d⟩ = (e, ⟨l, false, d⟩) := by
 cases n with
 | zero => rfl
 | succ n =>
  simp only [dg_]
  rw [if_neg]
  rintro ⟨_, h1, h2⟩
  cases l with
  | nil => exact h1 rfl
  | cons w r => exact h w rfl h2
def eff (e : E) (must : Int) : Int := if e.kind = 3 ∧ ¬ bk_ e.s < must then bk_ e.s else 4
theorem ow_ {s : Str} (h : em_ s = true) : s ≠ wAs ∧ s ≠ [41] := by
 simp only [em_, Bool.or_eq_true, beq_iff_eq] at h; rcases h with ((h | h) | h) | h <;> subst h <;> decide
theorem uv_ {s : Str} (h : fd_ s = true) : s ≠ [40] ∧ cq_ s = false := by
 have h1 : s.all cs_ = true ∧ 1 ≤ s.length := by simp only [fd_, ee_, T5_, T3_] at h; exact ⟨h.1.1.1, h.1.1.2⟩
 refine ⟨fun e => by subst e; exact absurd h1.1 (by decide), ?_⟩
 rw [Bool.eq_false_iff]; intro hn
 obtain ⟨n, _, rfl⟩ := dt_.1 hn
 have hd := do_ n
 cases hl : Go.Lib.decDigits n with
 | nil => rw [hl] at h1; simp at h1
 | cons c r =>
  rw [hl] at h1 hd
  have h2 := hd c (by simp)
  simp only [List.all_cons, T5_, cs_, T3_] at h1
  unfold e4_ at h2; omega
theorem iu_ {n : Nat} (h : n ≤ 1000000) : cq_ (Go.Lib.decDigits n) = true ∧ by_ (Go.Lib.decDigits n) = n ∧ Go.Lib.decDigits n ≠ [40] := by
 refine ⟨dt_.2 ⟨n, h, rfl⟩, dq_ n, fun e => ?_⟩
 have := do_ n 40 (by rw [e]; simp)
 unfold e4_ at this; revert this; decide
theorem ww_ {e : E} {must : Int} (h : e.kind = 3) (hl : e.kids.length = 2) (ht : bk_ e.s < must) : wds e must = [40] :: (wds e 0 ++ [[41]]) := by
 rw [ez_ h hl, if_pos ht, ez_ h hl, if_neg (by have := tight_nn e.s; omega)]; simp
where
 tight_nn (s : Str) : 0 ≤ bk_ s := by unfold bk_; split; decide; split; decide; split <;> decide
theorem e3_ (e : E) (must : Int) (h : must ≤ 4) : must ≤ eff e must := by unfold eff; split <;> omega
theorem mk_ {n : Nat} {t : Nat} {s : RS} (h : t ≠ 4) : cf_ (n + 1) t s = dg_ n t (cf_ n (t + 1) s).1 (cf_ n (t + 1) s).2 := by simp only [cf_]; rw [if_neg h]
theorem mz_ {n : Nat} {s : RS} : cf_ (n + 1) 4 s = eh_ n s := by simp only [cf_, if_true]
theorem f7_ {n : Nat} {w : Str} {s : RS} (h : w ≠ [40]) (h1 : cq_ w = true) : dy_ (n + 1) w s = (.mk 1 (by_ w) [] [], s) := by simp [dy_, h, h1]
theorem e8_ {n : Nat} {w : Str} {s : RS} (h : w ≠ [40]) (h1 : cq_ w = false) (h2 : fd_ w = true) : dy_ (n + 1) w s = (.mk 2 0 w [], s) := by simp [dy_, h, h1, h2]
theorem zp_ {n : Nat} {s : RS} (h : s.bad = false) (h1 : s.deep + 1 ≤ 40) {e : E} {p : RS} (hp : cf_ n 1 { s with deep := s.deep + 1 } = (e, p)) (hb : p.bad = false) : dy_ (n + 1) [40] s = (e, { bw_ p with bad := !(b6_ p == [41]) }) := by
 simp only [dy_, if_true]; rw [if_neg (by rw [h]; simp; omega)]; simp only [hp, hb]; rfl
theorem jl_ {n : Nat} {w : Str} {r : List Str} {d : Int} : eh_ (n + 1) ⟨w :: r, false, d⟩ = asR (dy_ n w ⟨r, false, d⟩).2 (dy_ n w ⟨r, false, d⟩).1 := by simp only [eh_, b6_, bw_]
theorem kw_ : ∀ (d : Nat) (e : E), form e d = true →
  (∀ (must : Int) (rest : List Str) (deep : Int) (n : Nat), must ≤ 4 → eff e must = 4 → deep + (wds e must).length ≤ 40 → 10 * ((wds e must).length + rest.length) + 2 ≤ n →
   ∃ deep', deep' ≤ deep + (wds e must).length ∧ eh_ n ⟨wds e must ++ rest, false, deep⟩ = asL rest e deep') ∧
  (∀ (must : Int) (t : Nat) (rest : List Str) (deep : Int) (n : Nat), must ≤ 4 → 1 ≤ t → t < 4 → (t : Int) ≤ eff e must → okR t rest → deep + (wds e must).length ≤ 40 → 10 * ((wds e must).length + rest.length) + 7 ≤ n + t →
   ∃ deep' m, deep' ≤ deep + (wds e must).length ∧ 10 * rest.length + 1 ≤ m ∧ cf_ n t ⟨wds e must ++ rest, false, deep⟩ = dg_ m t e ⟨rest, false, deep'⟩)
 | 0, e, h => by have := (bj_ h).1; omega
 | d + 1, e, h => by
  have e1 : ((d + 1 : Nat) : Int) - 1 = (d : Int) := by omega
  -- an unbracketed Two, at its own level
  have two : ∀ (must : Int) (t : Nat) (rest : List Str) (deep : Int) (n : Nat), e.kind = 3 → ¬ bk_ e.s < must → bk_ e.s = t → okR t rest → deep + (wds e must).length ≤ 40 → 10 * ((wds e must).length + rest.length) + 7 ≤ n + t →
    ∃ deep' m, deep' ≤ deep + (wds e must).length ∧ 10 * rest.length + 1 ≤ m ∧ cf_ n t ⟨wds e must ++ rest, false, deep⟩ = dg_ m t e ⟨rest, false, deep'⟩ := by
   intro must t rest deep n k3 hb ht hr hd hn
   rcases (bj_ h).2 with ⟨k1, _⟩ | ⟨k1, _⟩ | ⟨k1, h1, h2, h3, h4, h5⟩ | ⟨k1, _⟩
   ·omega
   ·omega
   ·rw [e1] at h4 h5
    obtain ⟨_, A⟩ := kw_ d _ h4
    obtain ⟨_, B⟩ := kw_ d _ h5
    have ht3 := ct_ h2
    have hop := ow_ h2
    rw [ez_ k1 h3, if_neg hb] at hd hn ⊢
    rw [ht] at hd hn ⊢
    simp only [T2_, T7_, List.length_nil] at hd hn
    simp only [List.append_assoc, List.cons_append, List.nil_append]
    obtain ⟨d1, m, g1, g2, g3⟩ := A (max 2 (t : Int)) t (e.s :: (wds (e.kids.getD 1 E0) ((t : Int) + 1) ++ rest)) deep n (by omega) (by omega) (by omega) (by have := e3_ (e.kids.getD 0 E0) (max 2 (t : Int)) (by omega); omega)
     ⟨by simp only [List.head?_cons, ne_eq, Option.some.injEq]; exact hop.1, fun w hw => by simp only [List.head?_cons, Option.some.injEq] at hw; subst hw; omega⟩ (by omega) (by simp only [T2_, T7_]; omega)
    rw [g3]
    simp only [T2_, T7_] at g2
    obtain ⟨m, rfl⟩ : ∃ m', m = m' + 1 := ⟨m - 1, by omega⟩
    have lp : dg_ (m + 1) t (e.kids.getD 0 E0) ⟨e.s :: (wds (e.kids.getD 1 E0) ((t : Int) + 1) ++ rest), false, d1⟩ = dg_ m t (.mk 3 0 e.s [e.kids.getD 0 E0, (cf_ m (t + 1) ⟨wds (e.kids.getD 1 E0) ((t : Int) + 1) ++ rest, false, d1⟩).1]) (cf_ m (t + 1) ⟨wds (e.kids.getD 1 E0) ((t : Int) + 1) ++ rest, false, d1⟩).2 := by
     simp only [dg_, b6_, bw_]; rw [if_pos ⟨trivial, by simp, ht⟩]
    rw [lp]
    have hbk : ∃ deep', deep' ≤ d1 + (wds (e.kids.getD 1 E0) ((t : Int) + 1)).length ∧ cf_ m (t + 1) ⟨wds (e.kids.getD 1 E0) ((t : Int) + 1) ++ rest, false, d1⟩ = (e.kids.getD 1 E0, ⟨rest, false, deep'⟩) := by
     by_cases h34 : t = 3
     ·subst h34
      obtain ⟨Bh, _⟩ := kw_ d _ h5
      obtain ⟨m', rfl⟩ : ∃ m', m = m' + 1 := ⟨m - 1, by omega⟩
      have ef : eff (e.kids.getD 1 E0) ((3 : Nat) + 1) = 4 := by
       have := e3_ (e.kids.getD 1 E0) 4 (by omega)
       have h4 : eff (e.kids.getD 1 E0) 4 ≤ 4 := by
        unfold eff; split
        ·rename_i hh; rcases (bj_ h5).2 with ⟨k, _⟩ | ⟨k, _⟩ | ⟨k, _, hk, _⟩ | ⟨k, _⟩
         ·omega
         ·omega
         ·have := ct_ hk; omega
         ·omega
        ·omega
       show eff (e.kids.getD 1 E0) 4 = 4
       omega
      obtain ⟨d2, q1, q2⟩ := Bh (((3 : Nat) : Int) + 1) rest d1 m' (by omega) ef (by omega) (by omega)
      refine ⟨d2, q1, ?_⟩
      rw [mz_, q2, tj_ hr.1]
     ·obtain ⟨d2, m2, q1, q2, q3⟩ := B ((t : Int) + 1) (t + 1) rest d1 m (by omega) (by omega) (by omega) (by have := e3_ (e.kids.getD 1 E0) ((t : Int) + 1) (by omega); omega) ⟨hr.1, fun w hw => by have := hr.2 w hw; omega⟩ (by omega) (by omega)
      refine ⟨d2, q1, ?_⟩
      rw [q3, gh_ fun w hw => by have := hr.2 w hw; omega]
    obtain ⟨d2, q1, q2⟩ := hbk
    rw [q2]
    refine ⟨d2, m, ?_, by omega, ?_⟩
    ·simp only [T2_, T7_, List.length_nil]; omega
    ·have he : e = .mk 3 0 e.s [e.kids.getD 0 E0, e.kids.getD 1 E0] := by
      rw [← j0_ h3, ← h1, ← k1, E.eta]
     rw [← he]
   ·omega
  have g2_ : ∀ (must : Int) (rest : List Str) (deep : Int) (n : Nat), must ≤ 4 → eff e must = 4 → deep + (wds e must).length ≤ 40 → 10 * ((wds e must).length + rest.length) + 2 ≤ n →
    ∃ deep', deep' ≤ deep + (wds e must).length ∧ eh_ n ⟨wds e must ++ rest, false, deep⟩ = asL rest e deep' := by
   intro must rest deep n hm he hd hn
   rcases (bj_ h).2 with ⟨k1, h1, h2, h3, h4⟩ | ⟨k1, h1, h2, h3⟩ | ⟨k1, h1, h2, h3, h4, h5⟩ | ⟨k1, h1, h2, h3, h4⟩
   ·rw [dv_ k1] at hd hn ⊢
    obtain ⟨n, rfl⟩ : ∃ n', n = n' + 2 := ⟨n - 2, by omega⟩
    obtain ⟨g1, g2, g3⟩ := iu_ (n := e.n.toNat) (by omega)
    refine ⟨deep, by simp; omega, ?_⟩
    have : (.mk 1 (by_ (Go.Lib.decDigits e.n.toNat) : Int) [] [] : E) = e := by
     rw [g2, Int.toNat_of_nonneg h1, ← h3, ← h4, ← k1, h3, h4]; conv => rhs; rw [← E.eta e, h3, h4]
    rw [List.cons_append, List.nil_append, jl_, f7_ g3 g1, this]
    rfl
   ·rw [dd_ k1] at hd hn ⊢
    obtain ⟨n, rfl⟩ : ∃ n', n = n' + 2 := ⟨n - 2, by omega⟩
    obtain ⟨g1, g2⟩ := uv_ h2
    refine ⟨deep, by simp; omega, ?_⟩
    have : (.mk 2 0 e.s [] : E) = e := by conv => rhs; rw [← E.eta e, h3, h1, k1]
    rw [List.cons_append, List.nil_append, jl_, e8_ g1 g2 h2, this]
    rfl
   ·have ht3 := ct_ h2
    have hb : bk_ e.s < must := by
     by_cases hh : bk_ e.s < must
     ·exact hh
     ·unfold eff at he; rw [if_pos ⟨k1, hh⟩] at he; omega
    rw [ww_ k1 h3 hb] at hd hn ⊢
    simp only [T7_, T2_, List.length_nil] at hd hn
    obtain ⟨n, rfl⟩ : ∃ n', n = n' + 2 := ⟨n - 2, by omega⟩
    obtain ⟨t, ht⟩ : ∃ t : Nat, bk_ e.s = t := ⟨(bk_ e.s).toNat, by omega⟩
    -- level 1 inside
    have inner : ∃ d1 m, d1 ≤ deep + 1 + (wds e 0).length ∧ 1 ≤ m ∧ cf_ n 1 ⟨wds e 0 ++ [41] :: rest, false, deep + 1⟩ = dg_ m 1 e ⟨[41] :: rest, false, d1⟩ := by
     have hr : ∀ t, okR t ([41] :: rest) := fun t => ⟨by simp [wAs], fun w hw => by simp at hw; subst hw; simp [bk_]⟩
     have up : ∀ k : Nat, k < t → ∀ n, 10 * ((wds e 0).length + (rest.length + 1)) + 7 ≤ n + (t - k) → ∃ d1 m, d1 ≤ deep + 1 + (wds e 0).length ∧ 1 ≤ m ∧ cf_ n (t - k) ⟨wds e 0 ++ [41] :: rest, false, deep + 1⟩ = dg_ m (t - k) e ⟨[41] :: rest, false, d1⟩ := by
      intro k
      induction k with
      | zero =>
       intro _ n hn
       obtain ⟨d1, m, q1, q2, q3⟩ := two 0 t ([41] :: rest) (deep + 1) n k1 (by omega) ht (hr t) (by omega) (by simp only [T7_]; omega)
       exact ⟨d1, m, q1, by simp only [T7_] at q2; omega, q3⟩
      | succ k ih =>
       intro hk n hn
       obtain ⟨n, rfl⟩ : ∃ n', n = n' + 1 := ⟨n - 1, by omega⟩
       obtain ⟨d1, m, q1, q2, q3⟩ := ih (by omega) n (by omega)
       refine ⟨d1, n, q1, by omega, ?_⟩
       rw [mk_ (by omega), show t - (k + 1) + 1 = t - k by omega, q3, gh_ fun w hw => by simp at hw; subst hw; simp [bk_]; omega]
     have := up (t - 1) (by omega) n (by omega)
     rwa [show t - (t - 1) = 1 by omega] at this
    obtain ⟨d1, m, q1, q2, q3⟩ := inner
    rw [gh_ fun w hw => by simp at hw; subst hw; simp [bk_]] at q3
    refine ⟨d1, by simp only [T7_, T2_, List.length_nil]; omega, ?_⟩
    rw [List.cons_append, jl_, List.append_assoc]
    rw [zp_ (s := ⟨wds e 0 ++ ([[41]] ++ rest), false, deep⟩) rfl (by dsimp only; omega) q3 rfl]
    rfl
   ·rw [e1] at h4
    obtain ⟨A, _⟩ := kw_ d _ h4
    have ef : eff (e.kids.getD 0 E0) 4 = 4 := by
     have := e3_ (e.kids.getD 0 E0) 4 (by omega)
     have h4' : eff (e.kids.getD 0 E0) 4 ≤ 4 := by
      unfold eff; split
      ·rename_i hh; rcases (bj_ h4).2 with ⟨k, _⟩ | ⟨k, _⟩ | ⟨k, _, hk, _⟩ | ⟨k, _⟩
       ·omega
       ·omega
       ·have := ct_ hk; omega
       ·omega
      ·omega
     omega
    rw [ia_ k1 h3] at hd hn ⊢
    simp only [T7_, T2_, List.length_nil] at hd hn
    obtain ⟨d1, q1, q2⟩ := A 4 (wAs :: e.s :: rest) deep n (by omega) ef (by omega) (by simp only [T7_]; omega)
    refine ⟨d1, by simp only [T7_, T2_, List.length_nil]; omega, ?_⟩
    rw [List.append_assoc]
    have hE : (.mk 4 0 e.s [e.kids.getD 0 E0] : E) = e := by conv => rhs; rw [← E.eta e, o3_ h3, h1, k1]
    refine q2.trans ?_
    simp only [asL, if_true]
    rw [hE]
  refine ⟨g2_, ?_⟩
  -- from the own level down to t
  intro must t rest deep n hm ht1 ht4 ht hr hd hn
  have hk : ∀ k : Nat, t + k ≤ 4 → ((t + k : Nat) : Int) = eff e must → ∃ deep' m, deep' ≤ deep + (wds e must).length ∧ 10 * rest.length + 1 ≤ m ∧ cf_ n t ⟨wds e must ++ rest, false, deep⟩ = dg_ m t e ⟨rest, false, deep'⟩ := by
   intro k
   induction k generalizing t n with
   | zero =>
    intro _ hef
    rcases (bj_ h).2 with ⟨k1, _⟩ | ⟨k1, _⟩ | ⟨k1, h1, h2, h3, h4, h5⟩ | ⟨k1, _⟩
    ·unfold eff at hef; rw [if_neg (by omega)] at hef; omega
    ·unfold eff at hef; rw [if_neg (by omega)] at hef; omega
    ·unfold eff at hef
     by_cases hb : bk_ e.s < must
     ·rw [if_neg (by omega)] at hef; omega
     ·rw [if_pos ⟨k1, hb⟩] at hef
      exact two must t rest deep n k1 hb (by omega) hr hd hn
    ·unfold eff at hef; rw [if_neg (by omega)] at hef; omega
   | succ k ih =>
    intro h4 hef
    obtain ⟨n, rfl⟩ : ∃ n', n = n' + 1 := ⟨n - 1, by omega⟩
    by_cases h34 : t = 3
    ·subst h34
     obtain ⟨n, rfl⟩ : ∃ n', n = n' + 1 := ⟨n - 1, by omega⟩
     obtain ⟨d1, q1, q2⟩ := g2_ must rest deep n hm (by omega) hd (by omega)
     refine ⟨d1, n + 1, q1, by omega, ?_⟩
     rw [mk_ (by omega), mz_, q2, tj_ hr.1]
    ·obtain ⟨d1, m, q1, q2, q3⟩ := ih (t + 1) n (by omega) (by omega) (by omega) ⟨hr.1, fun w hw => by have := hr.2 w hw; omega⟩ (by omega) (by omega) (by omega)
     refine ⟨d1, n, q1, by omega, ?_⟩
     rw [mk_ (by omega), q3, gh_ fun w hw => by have := hr.2 w hw; omega]
  have heff : eff e must ≤ 4 := by
   unfold eff; split
   ·rename_i hh; rcases (bj_ h).2 with ⟨k, _⟩ | ⟨k, _⟩ | ⟨k, _, hk, _⟩ | ⟨k, _⟩
    ·omega
    ·omega
    ·have := ct_ hk; omega
    ·omega
   ·omega
  exact hk (eff e must - t).toNat (by omega) (by omega)
theorem ahy_ {e : E} (h : eok e = true) (hl : (wds e 1).length ≤ 40) {n : Nat} (hn : 410 ≤ n) : ∃ deep', cf_ n 1 ⟨wds e 1, false, 0⟩ = (e, ⟨[], false, deep'⟩) := by
 have he : 1 ≤ eff e 1 := e3_ e 1 (by omega)
 obtain ⟨d1, m, q1, q2, q3⟩ := (kw_ 5 e (b5_ h)).2 1 1 [] 0 n (by omega) (by omega) (by omega) he ⟨by simp, fun w hw => by simp at hw⟩ (by omega) (by simp; omega)
 rw [List.append_nil] at q3
 exact ⟨d1, by rw [q3, gh_ fun w hw => by simp at hw]⟩
end
section
theorem kz_ (c : UInt8) : cg_ c = true ↔ e4_ c := k8_ c
theorem td_ (l : Str) : ((hi_ l).2 && (decide (0 ≤ (hi_ l).1) && decide ((hi_ l).1 ≤ 1000000))) = cq_ l ∧ (cq_ l = true → (hi_ l).1 = by_ l) := by
 have key : cq_ l = true → (hi_ l).2 = true ∧ (hi_ l).1 = by_ l := fun h => by
  obtain ⟨n, hn, rfl⟩ := dt_.1 h
  have hd := do_ n
  have hlen := jc_ hn
  have hh : (Go.Lib.decDigits n).head? ≠ some 45 := fun e => by
   have := hd 45 (List.mem_of_mem_head? (by rw [e]; rfl)); unfold e4_ at this; revert this; decide
  have hz : (Go.Lib.decDigits n).head? = some 48 → (Go.Lib.decDigits n).length ≤ 1 := fun e => by
   by_cases h : n < 10
   ·rw [Go.Lib.decDigits_one h]; simp
   ·exfalso; exact dec_lead n (by omega) e
  have hne : (Go.Lib.decDigits n).length ≠ 0 := fun e => ea_ n (List.eq_nil_of_length_eq_zero e)
  unfold hi_
  simp only [show ((Go.Lib.decDigits n).head? == some 45) = false by simpa using hh, Bool.false_eq_true, if_false, or_false]
  rw [if_neg (by rintro (h | h | ⟨h1, h2⟩); exact hne h; omega; have := hz h1; omega), if_pos (List.all_eq_true.2 fun c hc => (kz_ c).2 (hd c hc))]
  exact ⟨rfl, rfl⟩
 refine ⟨?_, fun h => (key h).2⟩
 cases h : cq_ l with
 | true =>
  obtain ⟨h1, h2⟩ := key h
  obtain ⟨n, hn, rfl⟩ := dt_.1 h
  rw [h1, h2, dq_]; simp; omega
 | false =>
  rw [Bool.eq_false_iff]
  intro hh
  rw [Bool.eq_false_iff] at h
  apply h
  simp only [T5_, T3_] at hh
  obtain ⟨h1, h2, h3⟩ := hh
  unfold hi_ at h1 h2 h3
  cases hneg : (l.head? == some 45) with
  | true =>
   exfalso
   simp only [hneg, if_true] at h1 h2 h3
   split at h1
   ·cases h1
   ·rename_i hc
    rw [if_neg hc] at h2 h3
    split at h1
    ·rename_i hall
     rw [if_pos hall] at h2 h3
     have hd : ∀ c ∈ l.tail, e4_ c := fun c hc => (kz_ c).1 (List.all_eq_true.1 hall c hc)
     have hne : l.tail ≠ [] := fun e => hc (.inl (by rw [e]; rfl))
     have := (lead hne hd (fun e => hc (.inr (.inr ⟨e, .inr trivial⟩)))).1
     omega
    ·cases h1
  | false =>
   simp only [hneg, Bool.false_eq_true, if_false, or_false] at h1 h2 h3
   split at h1
   ·cases h1
   ·rename_i hc
    rw [if_neg hc] at h2 h3
    split at h1
    ·rename_i hall
     rw [if_pos hall] at h2 h3
     have hd : ∀ c ∈ l, e4_ c := fun c hc => (kz_ c).1 (List.all_eq_true.1 hall c hc)
     have hne : l ≠ [] := fun e => hc (.inl (by rw [e]; rfl))
     refine dt_.2 ⟨by_ l, by omega, ?_⟩
     by_cases h0 : l.head? = some 48
     ·have : ¬ 1 < l.length := fun h => hc (.inr (.inr ⟨h0, h⟩))
      match l, h0, this, hne with
      | [c], h0, _, _ => simp at h0; subst h0; rw [show by_ [48] = 0 from rfl, Go.Lib.decDigits_one (by decide)]; rfl
      | _ :: _ :: _, _, h, _ => simp at h
     ·exact (lead hne hd h0).2.symm
    ·cases h1
where
 dec_lead (n : Nat) (h : 1 ≤ n) : (Go.Lib.decDigits n).head? ≠ some 48 := by
  induction n using Nat.strongRecOn with
  | ind n ih =>
   by_cases h1 : n < 10
   ·rw [Go.Lib.decDigits_one h1]
    simp only [List.head?_cons, ne_eq, Option.some.injEq]
    intro e
    have := pa_ h1
    rw [e] at this
    have e2 : (48 : UInt8).toNat = 48 := rfl
    omega
   ·rw [dc_ h1]
    have := ih (n / 10) (by omega) (by omega)
    cases hl : Go.Lib.decDigits (n / 10) with
    | nil => exact absurd hl (ea_ _)
    | cons c r => rw [hl] at this; simpa using this
def sAs : Nat → List Str → Nat → E → E × Option Nat
 | 0, _, _, e => (e, none)
 | n + 1, w, k, e => if w.getD k [] = wAs then (if ei_ (w.getD (k + 1) []) then sAs n w (k + 2) (.mk 4 0 (w.getD (k + 1) []) [e]) else (e, none)) else (e, some k)
mutual
def dw_ : Nat → List Str → Nat → Int → E × Option Nat
 | 0, _, _, _ => (E0, none)
 | n + 1, w, k, deep =>
  if cq_ (w.getD k []) then sAs n w (k + 1) (.mk 1 (by_ (w.getD k [])) [] [])
  else if fd_ (w.getD k []) then sAs n w (k + 1) (.mk 2 0 (w.getD k []) [])
  else if w.getD k [] = [40] ∧ 0 < deep then
   match (sL1 n w (k + 1) (deep - 1)).2 with
   | none => ((sL1 n w (k + 1) (deep - 1)).1, none)
   | some b => if w.getD b [] = [41] then sAs n w (b + 1) (sL1 n w (k + 1) (deep - 1)).1 else ((sL1 n w (k + 1) (deep - 1)).1, none)
  else (E0, none)
def sLp : Nat → List Str → Nat → Nat → Int → E × Option Nat
 | 0, _, _, _, _ => (E0, none)
 | n + 1, w, k, t, deep => if 3 < t then dw_ n w k deep else d3_ n w t deep (sLp n w k (t + 1) deep).1 (sLp n w k (t + 1) deep).2
def d3_ : Nat → List Str → Nat → Int → E → Option Nat → E × Option Nat
 | 0, _, _, _, e, _ => (e, none)
 | _ + 1, _, _, _, e, none => (e, none)
 | n + 1, w, t, deep, e, some k => if bk_ (w.getD k []) = t then d3_ n w t deep (.mk 3 0 (w.getD k []) [e, (sLp n w (k + 1) (t + 1) deep).1]) (sLp n w (k + 1) (t + 1) deep).2 else (e, some k)
def sL1 : Nat → List Str → Nat → Int → E × Option Nat
 | 0, _, _, _ => (E0, none)
 | n + 1, w, k, deep =>
  match (sLp n w k 2 deep).2 with
  | none => ((sLp n w k 2 deep).1, none)
  | some b => if w.getD b [] = [60] then (.mk 3 0 [60] [(sLp n w k 2 deep).1, (sLp n w (b + 1) 2 deep).1], (sLp n w (b + 1) 2 deep).2) else ((sLp n w k 2 deep).1, some b)
end
theorem fz_ {w l : List Str} {k : Nat} {s : Str} (h : w.drop k = s :: l) : w.getD k [] = s ∧ w.drop (k + 1) = l := by
 have hk : k < w.length := by
  rcases Nat.lt_or_ge k w.length with h1 | h1
  ·exact h1
  ·rw [List.drop_of_length_le h1] at h; cases h
 rw [List.drop_eq_getElem_cons hk] at h
 injection h with h1 h2
 exact ⟨by rw [T8_, T6_ hk]; exact h1, h2⟩
theorem q8_ {w l : List Str} {k : Nat} (h : w.drop k = l) : w.getD k [] = l.headD [] := by
 cases l with
 | nil =>
  have : w.length ≤ k := by simpa using h
  simp [T8_, List.getElem?_eq_none this]
 | cons s l => exact (fz_ h).1
theorem dm_ {w a l : List Str} {k : Nat} (h : w.drop k = a ++ l) : w.drop (k + a.length) = l := by
 rw [← List.drop_drop, h]; simp
theorem s5_ {n : Nat} {w : List Str} {k : Nat} {e : E} {rest : List Str} (hk : w.drop k = rest) (h : rest.head? ≠ some wAs) : sAs (n + 1) w k e = (e, some k) := by
 simp only [sAs]
 rw [if_neg]
 rw [q8_ hk]
 cases rest with
 | nil => decide
 | cons a r => simpa using h
theorem el_ {w : List Str} {k : Nat} {rest : List Str} (hk : w.drop k = rest) {P : Int → Prop} (h0 : P 0) (h : ∀ x, rest.head? = some x → P (bk_ x)) : P (bk_ (w.getD k [])) := by
 rw [q8_ hk]
 cases rest with
 | nil => exact h0
 | cons a r => exact h a rfl
theorem d2_ {n : Nat} {w : List Str} {t : Nat} {deep : Int} {e : E} {k : Nat} (h : bk_ (w.getD k []) ≠ t) : d3_ (n + 1) w t deep e (some k) = (e, some k) := by
 simp only [d3_]; rw [if_neg h]
theorem z2_ {s : Str} (h : bk_ s = 1) : s = [60] := by
 unfold bk_ at h
 by_cases h1 : s = [60]
 ·exact h1
 ·by_cases h2 : s = [43] ∨ s = [45]
  ·rcases h2 with rfl | rfl <;> simp at h
  ·by_cases h3 : s = [42]
   ·subst h3; simp at h
   ·simp [h1, h3] at h; simp_all
theorem vs_ {e : E} {d must : Int} (h : form e d = true) : eff e must ≤ 4 := by
 unfold eff; split
 ·rename_i hh; rcases (bj_ h).2 with ⟨k, _⟩ | ⟨k, _⟩ | ⟨k, _, hk, _⟩ | ⟨k, _⟩
  ·omega
  ·omega
  ·have := ct_ hk; omega
  ·omega
 ·omega
theorem iq_ {n : Nat} {w : List Str} {k : Nat} {deep : Int} (h : cq_ (w.getD k []) = true) : dw_ (n + 1) w k deep = sAs n w (k + 1) (.mk 1 (by_ (w.getD k [])) [] []) := by simp only [dw_, h, if_true]
theorem hy_ {n : Nat} {w : List Str} {k : Nat} {deep : Int} (h : cq_ (w.getD k []) = false) (h2 : fd_ (w.getD k []) = true) : dw_ (n + 1) w k deep = sAs n w (k + 1) (.mk 2 0 (w.getD k []) []) := by simp only [dw_, h, h2, if_true, Bool.false_eq_true, if_false]
theorem i5_ {n : Nat} {w : List Str} {k b : Nat} {deep : Int} {x : E} (h : w.getD k [] = [40]) (hd : 0 < deep) (hx : sL1 n w (k + 1) (deep - 1) = (x, some b)) (hb : w.getD b [] = [41]) : dw_ (n + 1) w k deep = sAs n w (b + 1) x := by
 have h1 : cq_ [40] = false := by
  rw [Bool.eq_false_iff]; intro h
  obtain ⟨n, hn, h⟩ := dt_.1 h
  exact (iu_ hn).2.2 h.symm
 have h2 : fd_ [40] = false := by decide
 simp only [dw_, h, h1, h2, Bool.false_eq_true, if_false, hx, hb, if_true, true_and]
 rw [if_pos hd]
theorem iz_ (w : List Str) : ∀ (d : Nat) (e : E), form e d = true →
  (∀ (must : Int) (rest : List Str) (k : Nat) (deep : Int) (n : Nat), must ≤ 4 → eff e must = 4 → d ≤ deep → w.drop k = wds e must ++ rest → 10 * ((wds e must).length + rest.length) + 2 ≤ n →
   ∃ m, rest.length + 1 ≤ m ∧ dw_ n w k deep = sAs m w (k + (wds e must).length) e) ∧
  (∀ (must : Int) (t : Nat) (rest : List Str) (k : Nat) (deep : Int) (n : Nat), must ≤ 4 → 2 ≤ t → t < 4 → (t : Int) ≤ eff e must → okR t rest → d ≤ deep → w.drop k = wds e must ++ rest → 10 * ((wds e must).length + rest.length) + 7 ≤ n + t →
   ∃ m, 10 * rest.length + 1 ≤ m ∧ sLp n w k t deep = d3_ m w t deep e (some (k + (wds e must).length))) ∧
  (∀ (rest : List Str) (k : Nat) (deep : Int) (n : Nat), e.kind = 3 → okR 0 rest → (d : Int) ≤ deep + 1 → w.drop k = wds e 0 ++ rest → 10 * ((wds e 0).length + rest.length) + 7 ≤ n →
   sL1 n w k deep = (e, some (k + (wds e 0).length)))
 | 0, e, h => by have := (bj_ h).1; omega
 | d + 1, e, h => by
  have e1 : ((d + 1 : Nat) : Int) - 1 = (d : Int) := by omega
  have two : ∀ (must : Int) (t : Nat) (rest : List Str) (k : Nat) (deep : Int) (n : Nat), e.kind = 3 → ¬ bk_ e.s < must → bk_ e.s = t → 2 ≤ t → okR t rest → d ≤ deep → w.drop k = wds e must ++ rest → 10 * ((wds e must).length + rest.length) + 7 ≤ n + t →
    ∃ m, 10 * rest.length + 1 ≤ m ∧ sLp n w k t deep = d3_ m w t deep e (some (k + (wds e must).length)) := by
   intro must t rest k deep n k3 hb ht ht2 hr hd hk hn
   rcases (bj_ h).2 with ⟨k1, _⟩ | ⟨k1, _⟩ | ⟨k1, h1, h2, h3, h4, h5⟩ | ⟨k1, _⟩
   ·omega
   ·omega
   ·rw [e1] at h4 h5
    have A := (iz_ w d _ h4).2.1
    have B := iz_ w d _ h5
    have ht3 := ct_ h2
    have hop := ow_ h2
    rw [ez_ k1 h3, if_neg hb] at hk hn ⊢
    rw [ht] at hk hn ⊢
    rw [show max 2 (t : Int) = t by omega] at hk hn ⊢
    simp only [T2_, T7_, List.length_nil] at hn ⊢
    simp only [List.append_assoc, List.cons_append, List.nil_append] at hk
    obtain ⟨m, g2, g3⟩ := A (t : Int) t (e.s :: (wds (e.kids.getD 1 E0) ((t : Int) + 1) ++ rest)) k deep n (by omega) (by omega) (by omega) (e3_ (e.kids.getD 0 E0) (t : Int) (by omega))
     ⟨by simp only [List.head?_cons, ne_eq, Option.some.injEq]; exact hop.1, fun w hw => by simp only [List.head?_cons, Option.some.injEq] at hw; subst hw; omega⟩ hd hk (by simp only [T2_, T7_]; omega)
    rw [g3]
    simp only [T2_, T7_] at g2
    obtain ⟨m, rfl⟩ : ∃ m', m = m' + 1 := ⟨m - 1, by omega⟩
    obtain ⟨q1, q2⟩ := fz_ (dm_ hk)
    have hmm : 10 * ((wds (e.kids.getD 1 E0) ((t : Int) + 1)).length + rest.length) + 10 ≤ m := by omega
    have hbk : sLp m w (k + (wds (e.kids.getD 0 E0) t).length + 1) (t + 1) deep = (e.kids.getD 1 E0, some (k + (wds (e.kids.getD 0 E0) t).length + 1 + (wds (e.kids.getD 1 E0) ((t : Int) + 1)).length)) := by
     by_cases h34 : t = 3
     ·subst h34
      obtain ⟨m', rfl⟩ : ∃ m', m = m' + 1 := ⟨m - 1, by omega⟩
      have ef : eff (e.kids.getD 1 E0) ((3 : Nat) + 1) = 4 := by
       have h1 := e3_ (e.kids.getD 1 E0) 4 (by omega)
       have h2 := vs_ (must := 4) h5
       show eff (e.kids.getD 1 E0) 4 = 4
       omega
      obtain ⟨m2, r1, r2⟩ := B.1 (((3 : Nat) : Int) + 1) rest _ deep m' (by omega) ef hd q2 (by omega)
      obtain ⟨m2, rfl⟩ : ∃ m', m2 = m' + 1 := ⟨m2 - 1, by omega⟩
      simp only [sLp]
      rw [if_pos (by omega), r2, s5_ (dm_ q2) hr.1]
     ·obtain ⟨m2, r1, r2⟩ := B.2.1 ((t : Int) + 1) (t + 1) rest _ deep m (by omega) (by omega) (by omega) (by have := e3_ (e.kids.getD 1 E0) ((t : Int) + 1) (by omega); omega) ⟨hr.1, fun w hw => by have := hr.2 w hw; omega⟩ hd q2 (by omega)
      obtain ⟨m2, rfl⟩ : ∃ m', m2 = m' + 1 := ⟨m2 - 1, by omega⟩
      rw [r2, d2_]
      exact el_ (P := fun x => x ≠ ((t + 1 : Nat) : Int)) (dm_ q2) (by omega) fun x hx => by have := hr.2 x hx; omega
    refine ⟨m, by omega, ?_⟩
    have he : e = .mk 3 0 e.s [e.kids.getD 0 E0, e.kids.getD 1 E0] := by
     rw [← j0_ h3, ← h1, ← k1, E.eta]
    simp only [d3_]
    rw [q1, if_pos ht, hbk, ← he]
    exact congrArg (fun x => d3_ m w t deep e (some x)) (by omega)
   ·omega
  -- level 1, without brackets
  have one : ∀ (rest : List Str) (k : Nat) (deep : Int) (n : Nat), e.kind = 3 → okR 0 rest → d ≤ deep → w.drop k = wds e 0 ++ rest → 10 * ((wds e 0).length + rest.length) + 7 ≤ n →
    sL1 n w k deep = (e, some (k + (wds e 0).length)) := by
   intro rest k deep n k3 hr hd hk hn
   rcases (bj_ h).2 with ⟨k1, _⟩ | ⟨k1, _⟩ | ⟨k1, h1, h2, h3, h4, h5⟩ | ⟨k1, _⟩
   ·omega
   ·omega
   ·have ht3 := ct_ h2
    obtain ⟨n, rfl⟩ : ∃ n', n = n' + 1 := ⟨n - 1, by omega⟩
    by_cases ht1 : bk_ e.s = 1
    ·rw [e1] at h4 h5
     have A := (iz_ w d _ h4).2.1
     have B := (iz_ w d _ h5).2.1
     have hs := z2_ ht1
     rw [ez_ k1 h3, if_neg (by omega), ht1] at hk hn ⊢
     simp only [T2_, T7_, List.length_nil] at hn ⊢
     simp only [List.append_assoc, List.cons_append, List.nil_append] at hk
     obtain ⟨m, g2, g3⟩ := A 2 2 (e.s :: (wds (e.kids.getD 1 E0) (1 + 1) ++ rest)) k deep n (by omega) (by omega) (by omega) (e3_ (e.kids.getD 0 E0) 2 (by omega))
      ⟨by simp only [List.head?_cons, ne_eq, Option.some.injEq]; exact (ow_ h2).1, fun w hw => by simp only [List.head?_cons, Option.some.injEq] at hw; subst hw; omega⟩ hd hk (by
       simp only [T2_, T7_]
       have : max 2 (1 : Int) = 2 := rfl
       rw [this] at hn; omega)
     have e3 : max 2 (1 : Int) = 2 := rfl
     rw [e3] at hk ⊢
     obtain ⟨m, rfl⟩ : ∃ m', m = m' + 1 := ⟨m - 1, by omega⟩
     obtain ⟨q1, q2⟩ := fz_ (dm_ hk)
     rw [d2_ (by rw [q1]; omega)] at g3
     obtain ⟨m2, r1, r2⟩ := B 2 2 rest _ deep n (by omega) (by omega) (by omega) (e3_ (e.kids.getD 1 E0) 2 (by omega)) ⟨hr.1, fun w hw => by have := hr.2 w hw; omega⟩ hd q2 (by rw [e3] at hn; have : (wds (e.kids.getD 1 E0) 2).length = (wds (e.kids.getD 1 E0) (1 + 1)).length := rfl; omega)
     obtain ⟨m2, rfl⟩ : ∃ m', m2 = m' + 1 := ⟨m2 - 1, by omega⟩
     have hstop : bk_ (w.getD (k + (wds (e.kids.getD 0 E0) 2).length + 1 + (wds (e.kids.getD 1 E0) 2).length) []) ≠ ((2 : Nat) : Int) :=
      el_ (P := fun x => x ≠ ((2 : Nat) : Int)) (dm_ q2) (by omega) fun x hx => by have := hr.2 x hx; omega
     rw [d2_ hstop] at r2
     have he : e = .mk 3 0 [60] [e.kids.getD 0 E0, e.kids.getD 1 E0] := by
      rw [← j0_ h3, ← hs, ← h1, ← k1, E.eta]
     simp only [sL1, g3, q1, hs, if_true, r2, ← he]
     exact congrArg (fun x => (e, some x)) (by show k + (wds (e.kids.getD 0 E0) 2).length + 1 + (wds (e.kids.getD 1 E0) 2).length = k + ((wds (e.kids.getD 0 E0) 2).length + (0 + 1) + (wds (e.kids.getD 1 E0) 2).length); omega)
    · -- level 2 or 3
     obtain ⟨t, ht⟩ : ∃ t : Nat, bk_ e.s = t := ⟨(bk_ e.s).toNat, by omega⟩
     have h20 : ∃ m, 1 ≤ m ∧ sLp n w k 2 deep = d3_ m w 2 deep e (some (k + (wds e 0).length)) := by
      by_cases h2t : t = 2
      ·subst h2t
       obtain ⟨m, r1, r2⟩ := two 0 2 rest k deep n k1 (by omega) ht (by omega) ⟨hr.1, fun w hw => by have := hr.2 w hw; omega⟩ hd hk (by omega)
       exact ⟨m, by omega, r2⟩
      ·have h3t : t = 3 := by omega
       subst h3t
       obtain ⟨n, rfl⟩ : ∃ n', n = n' + 1 := ⟨n - 1, by omega⟩
       obtain ⟨m, r1, r2⟩ := two 0 3 rest k deep n k1 (by omega) ht (by omega) ⟨hr.1, fun w hw => by have := hr.2 w hw; omega⟩ hd hk (by omega)
       obtain ⟨m, rfl⟩ : ∃ m', m = m' + 1 := ⟨m - 1, by omega⟩
       refine ⟨n, by omega, ?_⟩
       simp only [sLp]
       rw [if_neg (by omega), r2, d2_]
       exact el_ (P := fun x => x ≠ ((3 : Nat) : Int)) (dm_ hk) (by omega) fun x hx => by have := hr.2 x hx; omega
     obtain ⟨m, r1, r2⟩ := h20
     obtain ⟨m, rfl⟩ : ∃ m', m = m' + 1 := ⟨m - 1, by omega⟩
     rw [d2_ (el_ (P := fun x => x ≠ ((2 : Nat) : Int)) (dm_ hk) (by omega) fun x hx => by have := hr.2 x hx; omega)] at r2
     have hlt : w.getD (k + (wds e 0).length) [] ≠ [60] := fun e60 => by
      have := el_ (P := fun x => x ≤ 0) (dm_ hk) (by omega) fun x hx => by have := hr.2 x hx; omega
      rw [e60] at this; revert this; decide
     simp only [sL1, r2, hlt, if_false]
   ·omega
  have g2_ : ∀ (must : Int) (rest : List Str) (k : Nat) (deep : Int) (n : Nat), must ≤ 4 → eff e must = 4 → ((d + 1 : Nat) : Int) ≤ deep → w.drop k = wds e must ++ rest → 10 * ((wds e must).length + rest.length) + 2 ≤ n →
    ∃ m, rest.length + 1 ≤ m ∧ dw_ n w k deep = sAs m w (k + (wds e must).length) e := by
   intro must rest k deep n hm he hd hk hn
   rcases (bj_ h).2 with ⟨k1, h1, h2, h3, h4⟩ | ⟨k1, h1, h2, h3⟩ | ⟨k1, h1, h2, h3, h4, h5⟩ | ⟨k1, h1, h2, h3, h4⟩
   ·rw [dv_ k1] at hk hn ⊢
    obtain ⟨n, rfl⟩ : ∃ n', n = n' + 1 := ⟨n - 1, by omega⟩
    obtain ⟨g1, g2, g3⟩ := iu_ (n := e.n.toNat) (by omega)
    obtain ⟨q1, q2⟩ := fz_ hk
    refine ⟨n, by simp at hn; omega, ?_⟩
    have : (.mk 1 (by_ (Go.Lib.decDigits e.n.toNat) : Int) [] [] : E) = e := by
     rw [g2, Int.toNat_of_nonneg h1]; conv => rhs; rw [← E.eta e, h3, h4, k1]
    rw [iq_ (by rw [q1]; exact g1), q1, this]; rfl
   ·rw [dd_ k1] at hk hn ⊢
    obtain ⟨n, rfl⟩ : ∃ n', n = n' + 1 := ⟨n - 1, by omega⟩
    obtain ⟨g1, g2⟩ := uv_ h2
    obtain ⟨q1, q2⟩ := fz_ hk
    refine ⟨n, by simp at hn; omega, ?_⟩
    have : (.mk 2 0 e.s [] : E) = e := by conv => rhs; rw [← E.eta e, h3, h1, k1]
    rw [hy_ (by rw [q1]; exact g2) (by rw [q1]; exact h2), q1, this]; rfl
   ·have ht3 := ct_ h2
    have hb : bk_ e.s < must := by
     by_cases hh : bk_ e.s < must
     ·exact hh
     ·unfold eff at he; rw [if_pos ⟨k1, hh⟩] at he; omega
    rw [ww_ k1 h3 hb] at hk hn ⊢
    simp only [T7_, T2_, List.length_nil] at hn ⊢
    obtain ⟨n, rfl⟩ : ∃ n', n = n' + 1 := ⟨n - 1, by omega⟩
    rw [List.cons_append, List.append_assoc] at hk
    obtain ⟨q1, q2⟩ := fz_ hk
    have inner := one ([[41]] ++ rest) (k + 1) (deep - 1) n k1 ⟨by simp [wAs], fun w hw => by simp at hw; subst hw; simp [bk_]⟩ (by omega) q2 (by simp; omega)
    obtain ⟨q3, q4⟩ := fz_ (dm_ q2)
    refine ⟨n, by omega, ?_⟩
    rw [i5_ q1 (by omega) inner q3]
    congr 1; omega
   ·rw [e1] at h4
    have A := (iz_ w d _ h4).1
    have ef : eff (e.kids.getD 0 E0) 4 = 4 := by
     have h1 := e3_ (e.kids.getD 0 E0) 4 (by omega)
     have h2 := vs_ (must := 4) h4
     omega
    rw [ia_ k1 h3] at hk hn ⊢
    simp only [T7_, T2_, List.length_nil] at hn ⊢
    rw [List.append_assoc] at hk
    obtain ⟨m, r1, r2⟩ := A 4 ([[97, 115], e.s] ++ rest) k deep n (by omega) ef (by omega) hk (by simp only [T7_, T2_, List.length_nil]; omega)
    simp only [T7_, T2_, List.length_nil] at r1
    obtain ⟨m, rfl⟩ : ∃ m', m = m' + 1 := ⟨m - 1, by omega⟩
    obtain ⟨q1, q2⟩ := fz_ (dm_ hk)
    obtain ⟨q3, q4⟩ := fz_ q2
    refine ⟨m, by omega, ?_⟩
    have hE : (.mk 4 0 e.s [e.kids.getD 0 E0] : E) = e := by conv => rhs; rw [← E.eta e, o3_ h3, h1, k1]
    rw [r2]
    simp only [sAs]
    rw [q1, if_pos (by rfl), q3, if_pos h2, hE]; rfl
  refine ⟨g2_, ?_, fun rest k deep n h1 h2 h3 h4 h5 => one rest k deep n h1 h2 (by omega) h4 h5⟩
  intro must t rest k deep n hm ht1 ht4 ht hr hd hk hn
  have hkk : ∀ j : Nat, t + j ≤ 4 → ((t + j : Nat) : Int) = eff e must → ∃ m, 10 * rest.length + 1 ≤ m ∧ sLp n w k t deep = d3_ m w t deep e (some (k + (wds e must).length)) := by
   intro j
   induction j generalizing t n with
   | zero =>
    intro _ hef
    rcases (bj_ h).2 with ⟨k1, _⟩ | ⟨k1, _⟩ | ⟨k1, h1, h2, h3, h4, h5⟩ | ⟨k1, _⟩
    ·unfold eff at hef; rw [if_neg (by omega)] at hef; omega
    ·unfold eff at hef; rw [if_neg (by omega)] at hef; omega
    ·unfold eff at hef
     by_cases hb : bk_ e.s < must
     ·rw [if_neg (by omega)] at hef; omega
     ·rw [if_pos ⟨k1, hb⟩] at hef
      exact two must t rest k deep n k1 hb (by omega) ht1 hr (by omega) hk hn
    ·unfold eff at hef; rw [if_neg (by omega)] at hef; omega
   | succ j ih =>
    intro h4 hef
    obtain ⟨n, rfl⟩ : ∃ n', n = n' + 1 := ⟨n - 1, by omega⟩
    by_cases h34 : t = 3
    ·subst h34
     obtain ⟨n, rfl⟩ : ∃ n', n = n' + 1 := ⟨n - 1, by omega⟩
     obtain ⟨m, q1, q2⟩ := g2_ must rest k deep n hm (by omega) hd hk (by omega)
     obtain ⟨m, rfl⟩ : ∃ m', m = m' + 1 := ⟨m - 1, by omega⟩
     refine ⟨n + 1, by omega, ?_⟩
     have e4 : sLp (n + 1) w k (3 + 1) deep = (e, some (k + (wds e must).length)) := by
      simp only [sLp]; rw [if_pos (by omega), q2, s5_ (dm_ hk) hr.1]
     rw [sLp, if_neg (by omega), e4]
    ·obtain ⟨m, q1, q2⟩ := ih (t + 1) n (by omega) (by omega) (by omega) ⟨hr.1, fun w hw => by have := hr.2 w hw; omega⟩ (by omega) (by omega) (by omega)
     obtain ⟨m, rfl⟩ : ∃ m', m = m' + 1 := ⟨m - 1, by omega⟩
     refine ⟨n, by omega, ?_⟩
     rw [d2_ (el_ (P := fun x => x ≠ ((t + 1 : Nat) : Int)) (dm_ hk) (by omega) fun x hx => by have := hr.2 x hx; omega)] at q2
     rw [sLp, if_neg (by omega), q2]
  have heff := vs_ (must := must) h
  exact hkk (eff e must - t).toNat (by omega) (by omega)
theorem ahp_ {e : E} (h : eok e = true) (hl : (wds e 1).length ≤ 40) {n : Nat} (hn : 410 ≤ n) : sL1 n (wds e 1) 0 5 = (e, some (wds e 1).length) := by
 have A := iz_ (wds e 1) 5 e (b5_ h)
 have hk : (wds e 1).drop 0 = wds e 1 ++ [] := by simp
 obtain ⟨n, rfl⟩ : ∃ n', n = n' + 1 := ⟨n - 1, by omega⟩
 by_cases he : 2 ≤ eff e 1
 ·obtain ⟨m, q1, q2⟩ := A.2.1 1 2 [] 0 5 n (by omega) (by omega) (by omega) he ⟨by simp, fun w hw => by simp at hw⟩ (by omega) hk (by simp; omega)
  obtain ⟨m, rfl⟩ : ∃ m', m = m' + 1 := ⟨m - 1, by omega⟩
  rw [d2_ (el_ (P := fun x => x ≠ ((2 : Nat) : Int)) (dm_ hk) (by omega) fun x hx => by simp at hx)] at q2
  have hlt : (wds e 1).getD (0 + (wds e 1).length) [] ≠ [60] := by rw [q8_ (dm_ hk)]; decide
  rw [Nat.zero_add] at q2 hlt
  simp only [sL1, q2, hlt, if_false]
 ·have k3 : e.kind = 3 ∧ ¬ bk_ e.s < 1 := by unfold eff at he; by_cases hh : e.kind = 3 ∧ ¬ bk_ e.s < 1; exact hh; rw [if_neg hh] at he; omega
  have := A.2.2 [] 0 5 (n + 1) k3.1 ⟨by simp, fun w hw => by simp at hw⟩ (by omega) (by rw [gv_ (b5_ h)]; exact hk) (by rw [gv_ (b5_ h)]; simp; omega)
  rw [gv_ (b5_ h)] at this; rw [this]; simp
end
section
def marks : Str := [43, 45, 42, 60, 40, 41, 58, 61]
def ey_ (s : Str) : Bool := s.length == 1 && marks.contains (s.headD 0)
def c6_ (s : Str) : Int := if ee_ s then 1 else if cq_ s then 2 else if ey_ s then 3 else 0
structure Tk where
 kind : Int
 s : Str
 col : Int
def du_ (l : Str) : Nat := max 1 (max (l.takeWhile cs_).length (l.takeWhile cg_).length)
def ef_ : Nat → Str → Int → Option (List Tk)
 | 0, _, _ => some []
 | _ + 1, [], _ => some []
 | n + 1, c :: l, col =>
  if c = 32 then ef_ n l (col + 1)
  else if c6_ ((c :: l).take (du_ (c :: l))) = 0 then none
  else (ef_ n ((c :: l).drop (du_ (c :: l))) (col + du_ (c :: l))).map (⟨c6_ ((c :: l).take (du_ (c :: l))), (c :: l).take (du_ (c :: l)), col⟩ :: ·)
def b4_ (l : Str) : Option (List Tk) := if 120 < l.length then none else ef_ l.length l 0
theorem ka_ (l : Str) : 1 ≤ du_ l := by unfold du_; omega
theorem agu_ (p : UInt8 → Bool) (l : Str) : (l.takeWhile p).length ≤ l.length := (List.takeWhile_prefix p).length_le
theorem afi_ {l : Str} (h : l ≠ []) : du_ l ≤ l.length := by
 have h1 := agu_ cs_ l
 have h2 := agu_ cg_ l
 have h3 := List.length_pos_iff.2 h
 unfold du_; omega
theorem k1_ : ∀ (n m : Nat) (l : Str) (col : Int), l.length ≤ n → l.length ≤ m → ef_ n l col = ef_ m l col
 | 0, m, l, col, hn, hm => by
  have : l = [] := List.eq_nil_of_length_eq_zero (by omega)
  subst this
  cases m <;> rfl
 | n + 1, 0, l, col, hn, hm => by
  have : l = [] := List.eq_nil_of_length_eq_zero (by omega)
  subst this
  rfl
 | n + 1, m + 1, [], col, _, _ => rfl
 | n + 1, m + 1, c :: l, col, hn, hm => by
  simp only [T7_] at hn hm
  have h1 := ka_ (c :: l)
  simp only [ef_]
  rw [k1_ n m l (col + 1) (by omega) (by omega), k1_ n m ((c :: l).drop (du_ (c :: l))) _ (by simp; omega) (by simp; omega)]
theorem iv_ (c : UInt8) (l : Str) (col : Int) : ef_ (c :: l).length (c :: l) col =
  if c = 32 then ef_ l.length l (col + 1)
  else if c6_ ((c :: l).take (du_ (c :: l))) = 0 then none
  else (ef_ ((c :: l).drop (du_ (c :: l))).length ((c :: l).drop (du_ (c :: l))) (col + du_ (c :: l))).map (⟨c6_ ((c :: l).take (du_ (c :: l))), (c :: l).take (du_ (c :: l)), col⟩ :: ·) := by
 have h1 := ka_ (c :: l)
 have h2 := k1_ l.length ((c :: l).drop (du_ (c :: l))).length ((c :: l).drop (du_ (c :: l))) (col + du_ (c :: l)) (by simp; omega) (Nat.le_refl _)
 simp only [T7_, ef_]
 rw [h2]
def y9_ : Int → List Str → List Tk
 | _, [] => []
 | c, w :: r => ⟨c6_ w, w, c⟩ :: y9_ (c + w.length + 1) r
theorem vr_ : ∀ (c : Int) (l : List Str), (y9_ c l).map (·.s) = l
 | _, [] => rfl
 | c, w :: r => by simp only [y9_, List.map_cons, vr_]
def eb_ (w : Str) : Prop := c6_ w ≠ 0
theorem acw_ {p : UInt8 → Bool} {w r : Str} (h : w.all p = true) (hr : ∀ c, r.head? = some c → p c = false) : (w ++ r).takeWhile p = w := by
 induction w with
 | nil =>
  cases r with
  | nil => rfl
  | cons c r => simp [List.takeWhile, hr c rfl]
 | cons c w ih =>
  simp only [List.all_cons, T5_] at h
  simp [List.takeWhile, h.1, ih h.2]
theorem ju_ {p : UInt8 → Bool} {c : UInt8} {l : Str} (h : p c = false) : (c :: l).takeWhile p = [] := by simp [List.takeWhile, h]
theorem fu_ {c : UInt8} (h : cs_ c = true) : cg_ c = false := by
 rw [Bool.eq_false_iff]; intro h2
 simp only [cs_, cg_, T5_, T3_] at h h2; omega
theorem md_ {c : UInt8} (h : cg_ c = true) : cs_ c = false := by
 rw [Bool.eq_false_iff]; intro h2
 simp only [cs_, cg_, T5_, T3_] at h h2; omega
theorem ji_ {w : Str} (h : eb_ w) : (w ≠ [] ∧ w.all cs_ = true) ∨ (w ≠ [] ∧ w.all cg_ = true) ∨ (∃ c, w = [c] ∧ cs_ c = false ∧ cg_ c = false ∧ c ≠ 32) := by
 unfold eb_ c6_ at h
 by_cases h1 : ee_ w = true
 ·left
  simp only [ee_, T5_, T3_] at h1
  exact ⟨fun e => by subst e; simp at h1, h1.1.1⟩
 rw [if_neg h1] at h
 by_cases h2 : cq_ w = true
 ·right; left
  obtain ⟨n, hn, rfl⟩ := dt_.1 h2
  exact ⟨ea_ n, List.all_eq_true.2 fun c hc => (k8_ c).2 (do_ n c hc)⟩
 rw [if_neg h2] at h
 by_cases h3 : ey_ w = true
 ·right; right
  simp only [ey_, T5_, beq_iff_eq] at h3
  match w, h3 with
  | [c], h3 =>
   have h4 := h3.2
   refine ⟨c, rfl, ?_⟩
   simp [marks] at h4
   rcases h4 with h4 | h4 | h4 | h4 | h4 | h4 | h4 | h4 <;> subst h4 <;> decide
 ·rw [if_neg h3] at h; exact absurd rfl h
theorem tx_ {w : Str} (h : eb_ w) : w ≠ [] := by
 rcases ji_ h with h | h | ⟨c, rfl, _⟩
 ·exact h.1
 ·exact h.1
 ·simp
theorem oy_ {c : UInt8} {w : Str} (h : eb_ (c :: w)) : c ≠ 32 := by
 rcases ji_ h with h | h | ⟨d, e, h1, h2, h3⟩
 ·intro e; subst e; have := h.2; simp [cs_] at this
 ·intro e; subst e; have := h.2; simp [cg_] at this
 ·injection e with e1 e2; subst e1; exact h3
theorem q2_ {w r : Str} (h : eb_ w) (hr : r = [] ∨ ∃ r', r = 32 :: r') : du_ (w ++ r) = w.length := by
 have hl : ∀ c, r.head? = some c → cs_ c = false := fun c hc => by
  rcases hr with rfl | ⟨r', rfl⟩
  ·simp at hc
  ·simp at hc; subst hc; decide
 have hd : ∀ c, r.head? = some c → cg_ c = false := fun c hc => by
  rcases hr with rfl | ⟨r', rfl⟩
  ·simp at hc
  ·simp at hc; subst hc; decide
 unfold du_
 rcases ji_ h with h | h | ⟨c, rfl, h1, h2, h3⟩
 ·rw [acw_ h.2 hl]
  cases w with
  | nil => exact absurd rfl h.1
  | cons c w =>
   have := h.2
   simp only [List.all_cons, T5_] at this
   rw [List.cons_append, ju_ (fu_ this.1)]; simp
 ·rw [acw_ h.2 hd]
  cases w with
  | nil => exact absurd rfl h.1
  | cons c w =>
   have := h.2
   simp only [List.all_cons, T5_] at this
   rw [List.cons_append, ju_ (md_ this.1)]; simp
 ·rw [List.cons_append, ju_ h1, ju_ h2]; rfl
theorem m9_ : ∀ (l : List Str) (col : Int), (∀ w ∈ l, eb_ w) → ef_ (b1_ l).length (b1_ l) col = some (y9_ col l)
 | [], col, _ => rfl
 | [w], col, h => by
  have hw := h w (by simp)
  rw [fp_]
  have hl := q2_ (r := []) hw (.inl rfl)
  rw [List.append_nil] at hl
  cases hc : w with
  | nil => exact absurd hc (tx_ hw)
  | cons c v =>
   rw [← hc, show w.length = (c :: v).length by rw [hc], hc, iv_, ← hc, hl]
   have : c ≠ 32 := oy_ (by rw [← hc]; exact hw)
   rw [if_neg this, List.take_length, if_neg hw, List.drop_length]
   rfl
 | w :: x :: l, col, h => by
  have hw := h w (by simp)
  have ih := m9_ (x :: l) (col + w.length + 1) (fun y hy => h y (by simp [hy]))
  rw [ew_]
  have hl := q2_ (r := 32 :: b1_ (x :: l)) hw (.inr ⟨_, rfl⟩)
  cases hc : w with
  | nil => exact absurd hc (tx_ hw)
  | cons c v =>
   have h32 : c ≠ 32 := oy_ (by rw [← hc]; exact hw)
   have e1 : c :: v ++ 32 :: b1_ (x :: l) = c :: (v ++ 32 :: b1_ (x :: l)) := rfl
   have e2 : c :: (v ++ 32 :: b1_ (x :: l)) = w ++ 32 :: b1_ (x :: l) := by rw [hc]; rfl
   rw [e1, iv_, if_neg h32, e2, hl, List.take_left, List.drop_left, if_neg hw, iv_, if_pos rfl, ih, ← hc]
   rfl
theorem pn_ {l : List Str} (h : ∀ w ∈ l, eb_ w) (hl : (b1_ l).length ≤ 120) : b4_ (b1_ l) = some (y9_ 0 l) := by
 unfold b4_; rw [if_neg (by omega)]; exact m9_ l 0 h
theorem sq_ {s : Str} (h : fd_ s = true) : eb_ s := by
 simp only [fd_, T5_] at h
 unfold eb_ c6_; rw [if_pos h.1]; decide
theorem zo_ {n : Nat} (h : n ≤ 1000000) : eb_ (Go.Lib.decDigits n) := by
 unfold eb_ c6_
 split
 ·decide
 ·rw [if_pos (iu_ h).1]; decide
theorem gk_ {s : Str} (h : ey_ s = true) : eb_ s := by
 unfold eb_ c6_
 split
 ·decide
 ·split
  ·decide
  ·try rw [if_pos h]
   decide
theorem gf_ {s : Str} (h : ee_ s = true) : eb_ s := by unfold eb_ c6_; rw [if_pos h]; decide
theorem acm_ {s : Str} (h : em_ s = true) : eb_ s := by
 simp only [em_, Bool.or_eq_true, beq_iff_eq] at h; rcases h with ((h | h) | h) | h <;> subst h <;> exact gk_ (by decide)
theorem y3_ {s : Str} (h : ei_ s = true) : eb_ s := by
 simp only [ei_, Bool.or_eq_true, beq_iff_eq] at h; rcases h with h | h <;> subst h <;> exact gf_ (by decide)
theorem e9_ : ∀ (d : Nat) (e : E) (must : Int), form e d = true → ∀ s ∈ wds e must, eb_ s
 | 0, e, must, h => by have := (bj_ h).1; omega
 | d + 1, e, must, h => by
  have e1 : ((d + 1 : Nat) : Int) - 1 = (d : Int) := by omega
  intro s hs
  rcases (bj_ h).2 with ⟨k1, h1, h2, h3, h4⟩ | ⟨k1, h1, h2, h3⟩ | ⟨k1, h1, h2, h3, h4, h5⟩ | ⟨k1, h1, h2, h3, h4⟩
  ·rw [dv_ k1] at hs; simp at hs; subst hs; exact zo_ (by omega)
  ·rw [dd_ k1] at hs; simp at hs; subst hs; exact sq_ h2
  ·rw [e1] at h4 h5
   rw [ez_ k1 h3] at hs
   have A := e9_ d _ (max 2 (bk_ e.s)) h4
   have B := e9_ d _ (bk_ e.s + 1) h5
   have key : s ∈ wds (e.kids.getD 0 E0) (max 2 (bk_ e.s)) ++ [e.s] ++ wds (e.kids.getD 1 E0) (bk_ e.s + 1) → eb_ s := fun hs => by
    simp only [List.mem_append, List.mem_singleton] at hs
    rcases hs with (hs | hs) | hs
    ·exact A s hs
    ·rw [hs]; exact acm_ h2
    ·exact B s hs
   split at hs
   ·rcases List.mem_append.1 hs with hs | hs
    ·rcases List.mem_append.1 hs with hs | hs
     ·simp at hs; subst hs; exact gk_ (by decide)
     ·exact key hs
    ·simp at hs; subst hs; exact gk_ (by decide)
   ·exact key hs
  ·rw [e1] at h4
   rw [ia_ k1 h3] at hs
   simp only [List.mem_append, List.mem_cons, List.not_mem_nil, or_false] at hs
   rcases hs with hs | hs | hs
   ·exact e9_ d _ 4 h4 s hs
   ·subst hs; exact gf_ (by decide)
   ·subst hs; exact y3_ h2
end
section
def ep_ (w : List Str) : Option E :=
 if w.length ≤ 40 then
  (if ((cf_ 500 1 ⟨w, false, 0⟩).2.bad || !(cf_ 500 1 ⟨w, false, 0⟩).2.left.isEmpty || !eok (cf_ 500 1 ⟨w, false, 0⟩).1 || !(wds (cf_ 500 1 ⟨w, false, 0⟩).1 1 == w)) then none else some (cf_ 500 1 ⟨w, false, 0⟩).1)
 else none
def q7_ (w : List Str) : Option E :=
 if w.length ≤ 40 then
  (if (!((sL1 500 w 0 5).2 == some w.length) || !eok (sL1 500 w 0 5).1 || !(wds (sL1 500 w 0 5).1 1 == w)) then none else some (sL1 500 w 0 5).1)
 else none
theorem it_ {w : List Str} {e : E} : ep_ w = some e ↔ eok e = true ∧ wds e 1 = w := by
 unfold ep_
 constructor
 ·intro h
  split at h
  ·split at h
   ·cases h
   ·rename_i hh
    simp only [Option.some.injEq] at h
    subst h
    simp only [Bool.or_eq_true, Bool.not_eq_true', not_or, Bool.not_eq_true, Bool.not_eq_false, beq_eq_false_iff_ne, ne_eq, Decidable.not_not] at hh
    exact ⟨hh.1.2, hh.2⟩
  ·cases h
 ·rintro ⟨h1, rfl⟩
  have := (c9_ h1 1).2.1
  obtain ⟨d, hd⟩ := ahy_ h1 (by omega) (n := 500) (by omega)
  rw [if_pos (by omega), hd]
  simp [h1]
theorem np_ {w : List Str} {e : E} : q7_ w = some e ↔ eok e = true ∧ wds e 1 = w := by
 unfold q7_
 constructor
 ·intro h
  split at h
  ·split at h
   ·cases h
   ·rename_i hh
    simp only [Option.some.injEq] at h
    subst h
    simp only [Bool.or_eq_true, Bool.not_eq_true', not_or, Bool.not_eq_true, Bool.not_eq_false, beq_eq_false_iff_ne, ne_eq, Decidable.not_not] at hh
    exact ⟨hh.1.2, hh.2⟩
  ·cases h
 ·rintro ⟨h1, rfl⟩
  have := (c9_ h1 1).2.1
  have hd := ahp_ h1 (by omega) (n := 500) (by omega)
  rw [if_pos (by omega), hd]
  simp [h1]
theorem aa6_ (w : List Str) : ep_ w = q7_ w := by
 cases h : q7_ w with
 | some e => rw [it_, ← np_, h]
 | none =>
  cases h2 : ep_ w with
  | none => rfl
  | some e => rw [it_, ← np_, h] at h2; cases h2
theorem mn_ : ∀ (d : Nat) (e : E) (must : Int), form e d = true → ∀ s ∈ wds e must, s ≠ y2_ ∧ s ≠ br_ ∧ s ≠ b9_ ∧ s ≠ wIf ∧ s ≠ p7_ ∧ s ≠ wLet ∧ s ≠ wEq
 | 0, e, must, h => by have := (bj_ h).1; omega
 | d + 1, e, must, h => by
  have e1 : ((d + 1 : Nat) : Int) - 1 = (d : Int) := by omega
  intro s hs
  rcases (bj_ h).2 with ⟨k1, h1, h2, h3, h4⟩ | ⟨k1, h1, h2, h3⟩ | ⟨k1, h1, h2, h3, h4, h5⟩ | ⟨k1, h1, h2, h3, h4⟩
  ·rw [dv_ k1] at hs; simp at hs; subst hs
   have hd := do_ e.n.toNat
   have hne := ea_ e.n.toNat
   have key : ∀ c r, ¬ e4_ c → Go.Lib.decDigits e.n.toNat ≠ c :: r := fun c r hc he => hc (hd c (by rw [he]; simp))
   refine ⟨key _ _ ?_, key _ _ ?_, key _ _ ?_, key _ _ ?_, key _ _ ?_, key _ _ ?_, key _ _ ?_⟩ <;> unfold e4_ <;> decide
  ·rw [dd_ k1] at hs; simp at hs; subst hs
   simp only [fd_, g2_, T5_, Bool.not_eq_true', Bool.or_eq_false_iff, beq_eq_false_iff_ne, ne_eq] at h2
   obtain ⟨hw, hh⟩ := h2
   refine ⟨fun e => hh.1.1.1.1.1.2 e, fun e => ?_, fun e => hh.1.1.2 e, fun e => hh.1.2 e, fun e => hh.1.1.1.1.2 e, fun e => hh.1.1.1.1.1.1 e, fun e => ?_⟩ <;> rw [e] at hw <;> exact absurd hw (by decide)
  ·rw [e1] at h4 h5
   rw [ez_ k1 h3] at hs
   have A := mn_ d _ (max 2 (bk_ e.s)) h4
   have B := mn_ d _ (bk_ e.s + 1) h5
   have key : s ∈ wds (e.kids.getD 0 E0) (max 2 (bk_ e.s)) ++ [e.s] ++ wds (e.kids.getD 1 E0) (bk_ e.s + 1) → s ≠ y2_ ∧ s ≠ br_ ∧ s ≠ b9_ ∧ s ≠ wIf ∧ s ≠ p7_ ∧ s ≠ wLet ∧ s ≠ wEq := fun hs => by
    simp only [List.mem_append, List.mem_singleton] at hs
    rcases hs with (hs | hs) | hs
    ·exact A s hs
    ·rw [hs]
     simp only [em_, Bool.or_eq_true, beq_iff_eq] at h2; rcases h2 with ((h | h) | h) | h <;> rw [h] <;> decide
    ·exact B s hs
   split at hs
   ·rcases List.mem_append.1 hs with hs | hs
    ·rcases List.mem_append.1 hs with hs | hs
     ·simp at hs; subst hs; decide
     ·exact key hs
    ·simp at hs; subst hs; decide
   ·exact key hs
  ·rw [e1] at h4
   rw [ia_ k1 h3] at hs
   simp only [List.mem_append, List.mem_cons, List.not_mem_nil, or_false] at hs
   rcases hs with hs | hs | hs
   ·exact mn_ d _ 4 h4 s hs
   ·subst hs; decide
   ·subst hs; simp only [ei_, Bool.or_eq_true, beq_iff_eq] at h2; rcases h2 with h | h <;> rw [h] <;> decide
theorem adm_ {a b : List Str} {s : Str} (h : ∀ x ∈ a, x ≠ s) : co_ (a ++ s :: b) s = a.length := by
 unfold co_
 rw [if_pos (by simp), List.idxOf_append, if_neg (fun hm => h s hm rfl)]
 simp
def ex (w : List Str) : E := (ep_ w).getD E0
theorem ie_ {e : E} (h : eok e = true) : ex (wds e 1) = e := by unfold ex; rw [it_.2 ⟨h, rfl⟩]; rfl
def pt_ (b : Bl) : Str := b1_ (bw b)
theorem h4_ {s : Bl} (h : bok s = true) : (b1_ (bw s)).length ≤ 120 ∧
  (s = B0 ∨ (s.kind = 1 ∧ fd_ s.name = true ∧ pe s.expr = true ∧ s.thn = E0) ∨ (s.kind = 2 ∧ s.name = [] ∧ pe s.expr = true ∧ s.thn = E0) ∨ (s.kind = 3 ∧ s.name = [] ∧ pe s.expr = true ∧ pe s.thn = true)) := by
 simp only [bok, T5_, T3_] at h
 refine ⟨h.2, ?_⟩
 have h := h.1
 unfold df_ at h
 by_cases k0 : s.kind = 0
 ·simp [k0, k5_] at h
  left; cases s; simp_all [B0]
 by_cases k1 : s.kind = 1
 ·simp [k1, k5_] at h; exact .inr (.inl ⟨k1, h.1.1, h.1.2, h.2⟩)
 by_cases k2 : s.kind = 2
 ·simp [k2, k5_] at h; exact .inr (.inr (.inl ⟨k2, h.1.1, h.1.2, h.2⟩))
 by_cases k3 : s.kind = 3
 ·simp [k3] at h; exact .inr (.inr (.inr ⟨k3, h.1.1, h.1.2, h.2⟩))
 ·simp [k0, k1, k2, k3] at h
theorem y5_ : eb_ br_ := gk_ (by decide)
theorem ab9_ : eb_ wEq := gk_ (by decide)
theorem ab2_ {s : Bl} (h : bok s = true) : ∀ w ∈ bw s, eb_ w := by
 obtain ⟨_, h | ⟨k, h1, h3, h4⟩ | ⟨k, h1, h3, h4⟩ | ⟨k, h1, h3, h4⟩⟩ := h4_ h
 ·subst h; intro w hw; simp [bw, B0] at hw
 ·intro w hw
  simp only [bw, k, if_true, List.mem_cons] at hw
  rcases hw with rfl | rfl | hw
  ·exact sq_ h1
  ·exact ab9_
  ·exact e9_ 5 _ 1 (b5_ (ci_ h3)) w hw
 ·intro w hw
  simp only [bw, k, show ¬ (2 : Int) = 1 by omega, if_false, if_true, List.mem_cons] at hw
  rcases hw with rfl | hw
  ·exact gf_ (by decide)
  ·exact e9_ 5 _ 1 (b5_ (ci_ h3)) w hw
 ·intro w hw
  simp only [bw, k, show ¬ (3 : Int) = 1 by omega, show ¬ (3 : Int) = 2 by omega, if_false, if_true, List.mem_cons, List.mem_append] at hw
  rcases hw with (rfl | hw) | rfl | rfl | hw
  ·exact gf_ (by decide)
  ·exact e9_ 5 _ 1 (b5_ (ci_ h3)) w hw
  ·exact y5_
  ·exact gf_ (by decide)
  ·exact e9_ 5 _ 1 (b5_ (ci_ h4)) w hw
theorem qw_ {s : Bl} (h : bok s = true) : b4_ (pt_ s) = some (y9_ 0 (bw s)) := pn_ (ab2_ h) (h4_ h).1
theorem xk_ {e : E} {d : Nat} {r : List Str} (h : form e d = true) (must : Int) : co_ (wIf :: wds e must ++ br_ :: r) br_ = (wds e must).length + 1 := by
 rw [adm_]
 ·simp
 ·intro x hx
  rcases List.mem_cons.1 hx with rfl | hx
  ·decide
  ·exact (mn_ d e must h x hx).2.1
theorem jy_ {e : E} (h : eok e = true) : ep_ (wds e 1) = some e := it_.2 ⟨h, rfl⟩
theorem cut1 {a : Str} {l r : List Str} {x : Str} : ((a :: l ++ x :: r).take (l.length + 1)).drop 1 = l := by simp
theorem cut3 {a : Str} {l r : List Str} {x y : Str} : (a :: l ++ x :: y :: r).drop (l.length + 1 + 2) = r := by simp [List.drop_append]
theorem aep_ {α : Type} {x y : Option α} (h : ∀ a, x = some a ↔ y = some a) : x = y := by
 cases x with
 | some a => exact ((h a).1 rfl).symm
 | none =>
  cases y with
  | none => rfl
  | some b => exact (h b).2 rfl
def eg_ (w : List Str) : Bl :=
 if 0 < w.length ∧ w.getD 0 [] = b9_ then ⟨2, [], ex (w.drop 1), E0⟩
 else if 0 < w.length ∧ w.getD 0 [] = wIf then
  (if 0 < co_ w br_ ∧ co_ w br_ + 2 ≤ w.length then ⟨3, [], ex ((w.take (co_ w br_).toNat).drop 1), ex (w.drop ((co_ w br_).toNat + 2))⟩ else ⟨3, [], E0, E0⟩)
 else if 2 < w.length then ⟨1, w.getD 0 [], ex (w.drop 2), E0⟩
 else B0
def c7_ (line : Str) : Option Bl :=
 match b4_ line with
 | none => none
 | some ts => if bok (eg_ (ts.map (·.s))) = true ∧ pt_ (eg_ (ts.map (·.s))) = line then some (eg_ (ts.map (·.s))) else none
def d9_ (w : List Str) : Bl × Bool :=
 if w.length = 0 then (B0, true)
 else if w.getD 0 [] = b9_ then (⟨2, [], ex (w.drop 1), E0⟩, (ep_ (w.drop 1)).isSome)
 else if w.getD 0 [] = wIf ∧ 0 < co_ w br_ ∧ w.getD ((co_ w br_).toNat + 1) [] = b9_ then
  (⟨3, [], ex ((w.take (co_ w br_).toNat).drop 1), ex (w.drop ((co_ w br_).toNat + 2))⟩, (ep_ ((w.take (co_ w br_).toNat).drop 1)).isSome && (ep_ (w.drop ((co_ w br_).toNat + 2))).isSome)
 else if w.getD 1 [] = wEq then (⟨1, w.getD 0 [], ex (w.drop 2), E0⟩, (ep_ (w.drop 2)).isSome)
 else (B0, false)
def js_ (line : Str) : Option Bl :=
 match b4_ line with
 | none => none
 | some ts => if (d9_ (ts.map (·.s))).2 = true ∧ bok (d9_ (ts.map (·.s))).1 = true ∧ pt_ (d9_ (ts.map (·.s))).1 = line then some (d9_ (ts.map (·.s))).1 else none
theorem xq_ {s : Str} (h : fd_ s = true) : s ≠ b9_ ∧ s ≠ wIf ∧ s ≠ y2_ ∧ s ≠ wLet ∧ s ≠ p7_ := by
 simp only [fd_, g2_, T5_, Bool.not_eq_true', Bool.or_eq_false_iff, beq_eq_false_iff_ne, ne_eq] at h
 obtain ⟨_, hh⟩ := h
 exact ⟨fun e => hh.1.1.2 e, fun e => hh.1.2 e, fun e => hh.1.1.1.1.1.2 e, fun e => hh.1.1.1.1.1.1 e, fun e => hh.1.1.1.1.2 e⟩
theorem af5_ {s : Bl} (h : bok s = true) : eg_ (bw s) = s := by
 obtain ⟨_, h | ⟨k, h1, h3, h4⟩ | ⟨k, h1, h3, h4⟩ | ⟨k, h1, h3, h4⟩⟩ := h4_ h
 ·subst h; rfl
 ·have hw : bw s = s.name :: wEq :: wds s.expr 1 := by simp only [bw, k, if_true]
  have := (c9_ (ci_ h3) 1).1
  have hh := xq_ h1
  rw [hw, eg_, if_neg (fun h => hh.1 h.2), if_neg (fun h => hh.2.1 h.2), if_pos (by simp; omega)]
  simp only [List.getD_cons_succ, List.getD_cons_zero, List.drop_succ_cons, List.drop_zero, ie_ (ci_ h3)]
  cases s; simp_all
 ·have hw : bw s = b9_ :: wds s.expr 1 := by simp [bw, k]
  rw [hw, eg_, if_pos ⟨by simp, rfl⟩]
  simp only [List.drop_succ_cons, List.drop_zero, ie_ (ci_ h3)]
  cases s; simp_all
 ·have hw : bw s = wIf :: wds s.expr 1 ++ br_ :: b9_ :: wds s.thn 1 := by simp [bw, k]
  rw [hw, eg_, if_neg (fun hh => absurd (show wIf = b9_ from hh.2) (by decide)), if_pos ⟨by simp, rfl⟩, xk_ (b5_ (ci_ h3)) 1, if_pos ⟨by omega, by simp; omega⟩,
   show ((wds s.expr 1).length + 1 : Int).toNat = (wds s.expr 1).length + 1 by omega, cut1, cut3, ie_ (ci_ h3), ie_ (ci_ h4)]
  cases s; simp_all
theorem z4_ {a : Str} {l r : List Str} {x y : Str} : (a :: l ++ x :: y :: r).getD (l.length + 1 + 1) [] = y := by
 simp [T8_]
theorem aeb_ {s : Bl} (h : bok s = true) : d9_ (bw s) = (s, true) := by
 obtain ⟨_, h | ⟨k, h1, h3, h4⟩ | ⟨k, h1, h3, h4⟩ | ⟨k, h1, h3, h4⟩⟩ := h4_ h
 ·subst h; rfl
 ·have hw : bw s = s.name :: wEq :: wds s.expr 1 := by simp only [bw, k, if_true]
  have hh := xq_ h1
  rw [hw, d9_, if_neg (by simp), if_neg (show ¬ (s.name :: wEq :: wds s.expr 1).getD 0 [] = b9_ from hh.1), if_neg (fun h => hh.2.1 h.1), if_pos (show (s.name :: wEq :: wds s.expr 1).getD 1 [] = wEq from rfl)]
  simp only [List.getD_cons_succ, List.getD_cons_zero, List.drop_succ_cons, List.drop_zero, ie_ (ci_ h3), jy_ (ci_ h3)]
  cases s; simp_all
 ·have hw : bw s = b9_ :: wds s.expr 1 := by simp [bw, k]
  rw [hw, d9_, if_neg (by simp), if_pos (show (b9_ :: wds s.expr 1).getD 0 [] = b9_ from rfl)]
  simp only [List.drop_succ_cons, List.drop_zero, ie_ (ci_ h3), jy_ (ci_ h3)]
  cases s; simp_all
 ·have hw : bw s = wIf :: wds s.expr 1 ++ br_ :: b9_ :: wds s.thn 1 := by simp [bw, k]
  rw [hw, d9_, if_neg (by simp), if_neg (show ¬ (wIf :: wds s.expr 1 ++ br_ :: b9_ :: wds s.thn 1).getD 0 [] = b9_ from fun hh => absurd (show wIf = b9_ from hh) (by decide)), xk_ (b5_ (ci_ h3)) 1,
   show ((wds s.expr 1).length + 1 : Int).toNat = (wds s.expr 1).length + 1 by omega, if_pos ⟨rfl, by omega, z4_⟩, cut1, cut3, ie_ (ci_ h3), ie_ (ci_ h4), jy_ (ci_ h3), jy_ (ci_ h4)]
  cases s; simp_all
theorem g3_ {line : Str} {s : Bl} : c7_ line = some s ↔ bok s = true ∧ pt_ s = line := by
 unfold c7_
 constructor
 ·intro h
  split at h
  ·cases h
  ·split at h
   ·rename_i hh; cases h; exact hh
   ·cases h
 ·rintro ⟨h1, rfl⟩
  rw [qw_ h1]
  simp only [vr_, af5_ h1, h1, and_self, if_true]
theorem wf_ {line : Str} {s : Bl} : js_ line = some s ↔ bok s = true ∧ pt_ s = line := by
 unfold js_
 constructor
 ·intro h
  split at h
  ·cases h
  ·split at h
   ·rename_i hh; cases h; exact hh.2
   ·cases h
 ·rintro ⟨h1, rfl⟩
  rw [qw_ h1]
  simp only [vr_, aeb_ h1, h1, and_self, if_true]
theorem acs_ (line : Str) : c7_ line = js_ line := aep_ fun s => by rw [g3_, wf_]
end
section
mutual
theorem qr_ : ∀ (e : E) (d k : Nat), form e d = true → form e ((d + k : Nat) : Int) = true ∧ many e ((d + k : Nat) : Int) = many e d
 | .mk kd n s kids, d, k, h => by
  have hd : 1 ≤ d := by have := (bj_ h).1; omega
  obtain ⟨d, rfl⟩ : ∃ d', d = d' + 1 := ⟨d - 1, by omega⟩
  have e1 : ((d + 1 : Nat) : Int) - 1 = (d : Int) := by omega
  have e2 : ((d + 1 + k : Nat) : Int) - 1 = ((d + k : Nat) : Int) := by omega
  simp only [form, T5_, T3_] at h ⊢
  rw [e1] at h
  have := oc_ kids d k h.2
  rw [e2]
  refine ⟨⟨⟨by omega, h.1.2⟩, this.1⟩, ?_⟩
  simp only [many]
  rw [if_pos (by omega), if_pos (by omega), e1, e2, this.2]
theorem oc_ : ∀ (l : List E) (d k : Nat), cx_ l d = true → cx_ l ((d + k : Nat) : Int) = true ∧ cn_ l ((d + k : Nat) : Int) = cn_ l d
 | [], d, k, _ => by simp [cx_, cn_]
 | e :: r, d, k, h => by
  simp only [cx_, T5_] at h ⊢
  have h1 := qr_ e d k h.1
  have h2 := oc_ r d k h.2
  simp only [cn_]
  exact ⟨⟨h1.1, h2.1⟩, by rw [h1.2, h2.2]⟩
end
def wid (l : List Str) : Nat := (l.map fun s => s.length + 1).sum
theorem z9_ (s : Str) (l : List Str) : wid (s :: l) = s.length + 1 + wid l := rfl
theorem af6_ (a b : List Str) : wid (a ++ b) = wid a + wid b := by simp [wid, List.sum_append]
def offW (w : Str) : Prop := w ≠ wAs ∧ w ≠ [105, 110, 116] ∧ w ≠ [98, 111, 111, 108] ∧ w ≠ wLet ∧ w ≠ y2_ ∧ w ≠ p7_
instance (w : Str) : Decidable (offW w) := by unfold offW; exact inferInstance
end
section
def shf (k : Int) (l : Wd) : Wd := l.map fun p => if 0 ≤ p.2 then (p.1, p.2 + k) else p
def Trc (L : Wd) : Wd → Wd → Prop
 | [], [] => True
 | w :: B, c :: C => c.1 = w.1 ∧ ((w.2 = -1 ∧ c.2 = -1) ∨ (0 ≤ w.2 ∧ 0 ≤ c.2 ∧ L[c.2.toNat]? = some w)) ∧ Trc L B C
 | _, _ => False
theorem Trc.app {L : Wd} : ∀ {B C B' C' : Wd}, Trc L B C → Trc L B' C' → Trc L (B ++ B') (C ++ C')
 | [], [], _, _, _, h => h
 | [], _ :: _, _, _, h, _ => by simp [Trc] at h
 | _ :: _, [], _, _, h, _ => by simp [Trc] at h
 | w :: B, c :: C, B', C', h, k => by
  simp only [Trc] at h
  simp only [List.cons_append, Trc]
  exact ⟨h.1, h.2.1, h.2.2.app k⟩
theorem Trc.shf {L P : Wd} : ∀ {B C : Wd}, Trc L B C → Trc (P ++ L) B (Go.Proofs.YtpikbndepapbhabGreatDoor.shf P.length C)
 | [], [], _ => by simp [Go.Proofs.YtpikbndepapbhabGreatDoor.shf, Trc]
 | [], _ :: _, h => by simp [Trc] at h
 | _ :: _, [], h => by simp [Trc] at h
 | w :: B, c :: C, h => by
  simp only [Trc] at h
  have ih := h.2.2.shf (P := P)
  simp only [Go.Proofs.YtpikbndepapbhabGreatDoor.shf, List.map_cons, Trc] at ih ⊢
  rcases h.2.1 with ⟨h1, h2⟩ | ⟨h1, h2, h3⟩
  ·rw [if_neg (by omega)]; exact ⟨h.1, .inl ⟨h1, h2⟩, ih⟩
  ·rw [if_pos h2]
   refine ⟨h.1, .inr ⟨h1, by dsimp only; omega, ?_⟩, ih⟩
   dsimp only
   rw [show (c.2 + (P.length : Int)).toNat = P.length + c.2.toNat by omega, List.getElem?_append_right (by omega), Nat.add_sub_cancel_left]
   exact h3
theorem Trc.right {L Q : Wd} : ∀ {B C : Wd}, Trc L B C → Trc (L ++ Q) B C
 | [], [], _ => by simp [Trc]
 | [], _ :: _, h => by simp [Trc] at h
 | _ :: _, [], h => by simp [Trc] at h
 | w :: B, c :: C, h => by
  simp only [Trc] at h ⊢
  refine ⟨h.1, ?_, h.2.2.right⟩
  rcases h.2.1 with h1 | ⟨h1, h2, h3⟩
  ·exact .inl h1
  ·exact .inr ⟨h1, h2, by rw [List.getElem?_append_left (List.getElem?_eq_some_iff.1 h3).1]; exact h3⟩
theorem Trc.brk {L B C : Wd} (b : Bool) (h : Trc L B C) : Trc L (Go.Proofs.YtpikbndepapbhabGreatDoor.brk b B) (Go.Proofs.YtpikbndepapbhabGreatDoor.brk b C) := by
 cases b with
 | false => exact h
 | true =>
  simp only [Go.Proofs.YtpikbndepapbhabGreatDoor.brk, if_true, Trc]
  refine ⟨trivial, .inl ⟨trivial, trivial⟩, h.app ?_⟩
  simp [Trc]
theorem Trc.fst {L : Wd} : ∀ {B C : Wd}, Trc L B C → C.map (·.1) = B.map (·.1)
 | [], [], _ => rfl
 | [], _ :: _, h => by simp [Trc] at h
 | _ :: _, [], h => by simp [Trc] at h
 | w :: B, c :: C, h => by
  simp only [Trc] at h
  simp only [List.map_cons, h.1, h.2.2.fst]
def ja_ : Int → Wd → Int → Int
 | _, [], _ => -1
 | c, w :: r, i => if w.2 = i then c else ja_ (c + w.1.length + 1) r i
def jq_ (l : Wd) : Int := (wid (l.map (·.1)) : Int)
theorem z3_ (w : Str × Int) (l : Wd) : jq_ (w :: l) = w.1.length + 1 + jq_ l := by simp [jq_, z9_]
theorem tl_ (a b : Wd) : jq_ (a ++ b) = jq_ a + jq_ b := by simp [jq_, af6_]
theorem tw_ : jq_ [] = 0 := rfl
theorem ab0_ (l : Wd) : 0 ≤ jq_ l := by unfold jq_; omega
theorem lo_ (i : Int) : ∀ (a b : Wd) (c : Int), ja_ c (a ++ b) i = if i ∈ a.map (·.2) then ja_ c a i else ja_ (c + jq_ a) b i
 | [], b, c => by simp [tw_]
 | w :: a, b, c => by
  have ih := lo_ i a b (c + w.1.length + 1)
  simp only [List.cons_append, ja_, List.map_cons, List.mem_cons]
  by_cases h : w.2 = i
  ·simp [h]
  ·have h' : ¬ i = w.2 := fun e => h e.symm
   simp only [h, if_false, h', false_or, ih, z3_]
   split
   ·rfl
   ·congr 1; omega
theorem k6_ (i : Int) (d : Int) : ∀ (a : Wd) (c : Int), i ∈ a.map (·.2) → ja_ (c + d) a i = ja_ c a i + d
 | [], c, h => by simp at h
 | w :: a, c, h => by
  simp only [ja_]
  by_cases e : w.2 = i
  ·rw [if_pos e, if_pos e]
  ·rw [if_neg e, if_neg e]
   simp only [List.map_cons, List.mem_cons] at h
   have := k6_ i d a (c + w.1.length + 1) (h.resolve_left fun q => e q.symm)
   rw [← this]; congr 1; omega
theorem Trc.lt {L : Wd} : ∀ {B C : Wd}, Trc L B C → ∀ p ∈ C, -1 ≤ p.2 ∧ p.2 < (L.length : Int)
 | [], [], _ => by simp
 | [], _ :: _, h => by simp [Trc] at h
 | _ :: _, [], h => by simp [Trc] at h
 | w :: B, c :: C, h => by
  simp only [Trc] at h
  intro p hp
  rcases List.mem_cons.1 hp with rfl | hp
  ·rcases h.2.1 with ⟨_, h2⟩ | ⟨_, h2, h3⟩
   ·omega
   ·have := (List.getElem?_eq_some_iff.1 h3).1; omega
  ·exact h.2.2.lt p hp
theorem Trc.len {L : Wd} {B C : Wd} (h : Trc L B C) : C.length = B.length := by
 have := congrArg List.length h.fst; simpa using this
end
end Go.Proofs.YtpikbndepapbhabGreatDoor
