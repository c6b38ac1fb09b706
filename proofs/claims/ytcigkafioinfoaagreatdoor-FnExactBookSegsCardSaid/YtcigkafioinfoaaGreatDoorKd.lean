/- The program's reader of what is reckoned, as a plain function; it reads back what is written. Conditions: none. -/
import Derived.Test.YtcigkafioinfoaaGreatDoorKc
import Derived.Test.YtcigkafioinfoaaGreatDoorKb
set_option linter.unusedVariables false
set_option linter.unusedSimpArgs false
namespace Go.Proofs.YtcigkafioinfoaaGreatDoor
section
structure RS where
 left : List Str
 bad : Bool
 deep : Int
def wAs : Str := [97, 115]
def cl_ (s : RS) : Str := match s.left with | [] => [] | x :: _ => x
def cd_ (s : RS) : RS := match s.left with | [] => { s with bad := true } | _ :: r => { s with left := r }
def asL : List Str → E → Int → E × RS
 | [], e, d => (e, ⟨[], false, d⟩)
 | [w], e, d => if w = wAs then (.mk 4 0 [] [e], ⟨[], true, d⟩) else (e, ⟨[w], false, d⟩)
 | w :: t :: r, e, d => if w = wAs then asL r (.mk 4 0 t [e]) d else (e, ⟨w :: t :: r, false, d⟩)
def asR (s : RS) (e : E) : E × RS := if s.bad then (e, s) else asL s.left e s.deep
mutual
def cu_ : Nat → Nat → RS → E × RS
 | 0, _, s => (E0, s)
 | n + 1, t, s => if t = 4 then ff_ n s else du_ n t (cu_ n (t + 1) s).1 (cu_ n (t + 1) s).2
def du_ : Nat → Nat → E → RS → E × RS
 | 0, _, e, s => (e, s)
 | n + 1, t, e, s => if s.bad = false ∧ s.left ≠ [] ∧ bl_ (cl_ s) = t then
   du_ n t (.mk 3 0 (cl_ s) [e, (cu_ n (t + 1) (cd_ s)).1]) (cu_ n (t + 1) (cd_ s)).2 else (e, s)
def ff_ : Nat → RS → E × RS
 | 0, s => (E0, s)
 | n + 1, s => asR (ej_ n (cl_ s) (cd_ s)).2 (ej_ n (cl_ s) (cd_ s)).1
def ej_ : Nat → Str → RS → E × RS
 | 0, _, s => (E0, s)
 | n + 1, w, s =>
  if w = [40] then
   if s.bad = true ∨ 40 < s.deep + 1 then (E0, { s with deep := s.deep + 1, bad := true })
   else
    let p := cu_ n 1 { s with deep := s.deep + 1 }
    (p.1, if p.2.bad then p.2 else { cd_ p.2 with bad := !(cl_ p.2 == [41]) })
  else if c4_ w then (.mk 1 (cf_ w) [] [], s)
  else if gj_ w then (.mk 2 0 w [], s)
  else (E0, { s with bad := true })
end
theorem g4_ (s : RS) : (cd_ s).left.length ≤ s.left.length := by
 unfold cd_; split <;> simp_all
theorem t3_ : ∀ (l : List Str) (e : E) (d : Int), (asL l e d).2.left.length ≤ l.length ∧ (asL l e d).2.deep = d
 | [], e, d => by simp [asL]
 | [w], e, d => by simp only [asL]; split <;> simp
 | w :: t :: r, e, d => by
  simp only [asL]
  split
  ·have := t3_ r (.mk 4 0 t [e]) d; simp only [T7_]; omega
  ·simp
theorem y1_ (s : RS) (e : E) : (asR s e).2.left.length ≤ s.left.length := by
 unfold asR; split
 ·exact Nat.le_refl _
 ·exact (t3_ s.left e s.deep).1
theorem ad7_ (s : RS) (e : E) : (asR s e).2.deep = s.deep := by
 unfold asR; split
 ·rfl
 ·exact (t3_ s.left e s.deep).2
theorem pn_ (s : RS) : (cd_ s).deep = s.deep := by unfold cd_; split <;> rfl
theorem zr_ : ∀ (n : Nat), (∀ t s, (cu_ n t s).2.left.length ≤ s.left.length) ∧ (∀ t e s, (du_ n t e s).2.left.length ≤ s.left.length) ∧ (∀ s, (ff_ n s).2.left.length ≤ s.left.length) ∧ (∀ w s, (ej_ n w s).2.left.length ≤ s.left.length)
 | 0 => by simp [cu_, du_, ff_, ej_]
 | n + 1 => by
  obtain ⟨h1, h2, h3, h4⟩ := zr_ n
  refine ⟨fun t s => ?_, fun t e s => ?_, fun s => ?_, fun w s => ?_⟩
  ·simp only [cu_]; split
   ·exact h3 s
   ·exact Nat.le_trans (h2 _ _ _) (h1 _ _)
  ·simp only [du_]; split
   ·exact Nat.le_trans (h2 _ _ _) (Nat.le_trans (h1 _ _) (g4_ s))
   ·exact Nat.le_refl _
  ·simp only [ff_]; exact Nat.le_trans (y1_ _ _) (Nat.le_trans (h4 _ _) (g4_ s))
  ·simp only [ej_]
   split
   ·split
    ·exact Nat.le_refl _
    ·dsimp only
     split
     ·exact h1 _ _
     ·exact Nat.le_trans (g4_ _) (h1 _ _)
   ·split
    ·exact Nat.le_refl _
    ·split <;> exact Nat.le_refl _
def okR (t : Nat) (l : List Str) : Prop := l.head? ≠ some wAs ∧ ∀ w, l.head? = some w → bl_ w ≤ t
theorem v3_ {l : List Str} {e : E} {d : Int} (h : l.head? ≠ some wAs) : asL l e d = (e, ⟨l, false, d⟩) := by
 match l, h with
 | [], _ => rfl
 | [w], h => simp only [asL]; rw [if_neg (fun e => h (by rw [e]; rfl))]
 | w :: t :: r, h => simp only [asL]; rw [if_neg (fun e => h (by rw [e]; rfl))]
theorem hc_ {n t : Nat} {e : E} {l : List Str} {d : Int} (h : ∀ w, l.head? = some w → bl_ w ≠ t) : du_ n t e ⟨l, false, d⟩ = (e, ⟨l, false, d⟩) := by
 cases n with
 | zero => rfl
 | succ n =>
  simp only [du_]
  rw [if_neg]
  rintro ⟨_, h1, h2⟩
  cases l with
  | nil => exact h1 rfl
  | cons w r => exact h w rfl h2
def eff (e : E) (must : Int) : Int := if e.kind = 3 ∧ ¬ bl_ e.s < must then bl_ e.s else 4
theorem qn_ {s : Str} (h : f2_ s = true) : s ≠ wAs ∧ s ≠ [41] := by
 simp only [f2_, Bool.or_eq_true, beq_iff_eq] at h; rcases h with ((h | h) | h) | h <;> subst h <;> decide
theorem ui_ {s : Str} (h : gj_ s = true) : s ≠ [40] ∧ c4_ s = false := by
 have h1 : s.all c0_ = true ∧ 1 ≤ s.length := by simp only [gj_, e1_, T5_, T3_] at h; exact ⟨h.1.1.1, h.1.1.2⟩
 refine ⟨fun e => by subst e; exact absurd h1.1 (by decide), ?_⟩
 rw [Bool.eq_false_iff]; intro hn
 obtain ⟨n, _, rfl⟩ := dy_.1 hn
 have hd := do_ n
 cases hl : Go.Lib.decDigits n with
 | nil => rw [hl] at h1; simp at h1
 | cons c r =>
  rw [hl] at h1 hd
  have h2 := hd c (by simp)
  simp only [List.all_cons, T5_, c0_, T3_] at h1
  unfold fz_ at h2; omega
theorem jv_ {n : Nat} (h : n ≤ 1000000) : c4_ (Go.Lib.decDigits n) = true ∧ cf_ (Go.Lib.decDigits n) = n ∧ Go.Lib.decDigits n ≠ [40] := by
 refine ⟨dy_.2 ⟨n, h, rfl⟩, d6_ n, fun e => ?_⟩
 have := do_ n 40 (by rw [e]; simp)
 unfold fz_ at this; revert this; decide
theorem yr_ {e : E} {must : Int} (h : e.kind = 3) (hl : e.kids.length = 2) (ht : bl_ e.s < must) : wds e must = [40] :: (wds e 0 ++ [[41]]) := by
 rw [ei_ h hl, if_pos ht, ei_ h hl, if_neg (by have := tight_nn e.s; omega)]; simp
where
 tight_nn (s : Str) : 0 ≤ bl_ s := by unfold bl_; split; decide; split; decide; split <;> decide
theorem f0_ (e : E) (must : Int) (h : must ≤ 4) : must ≤ eff e must := by unfold eff; split <;> omega
theorem ol_ {n : Nat} {t : Nat} {s : RS} (h : t ≠ 4) : cu_ (n + 1) t s = du_ n t (cu_ n (t + 1) s).1 (cu_ n (t + 1) s).2 := by simp only [cu_]; rw [if_neg h]
theorem of_ {n : Nat} {s : RS} : cu_ (n + 1) 4 s = ff_ n s := by simp only [cu_, if_true]
theorem g2_ {n : Nat} {w : Str} {s : RS} (h : w ≠ [40]) (h1 : c4_ w = true) : ej_ (n + 1) w s = (.mk 1 (cf_ w) [] [], s) := by simp [ej_, h, h1]
theorem gd_ {n : Nat} {w : Str} {s : RS} (h : w ≠ [40]) (h1 : c4_ w = false) (h2 : gj_ w = true) : ej_ (n + 1) w s = (.mk 2 0 w [], s) := by simp [ej_, h, h1, h2]
theorem z9_ {n : Nat} {s : RS} (h : s.bad = false) (h1 : s.deep + 1 ≤ 40) {e : E} {p : RS} (hp : cu_ n 1 { s with deep := s.deep + 1 } = (e, p)) (hb : p.bad = false) : ej_ (n + 1) [40] s = (e, { cd_ p with bad := !(cl_ p == [41]) }) := by
 simp only [ej_, if_true]; rw [if_neg (by rw [h]; simp; omega)]; simp only [hp, hb]; rfl
theorem kz_ {n : Nat} {w : Str} {r : List Str} {d : Int} : ff_ (n + 1) ⟨w :: r, false, d⟩ = asR (ej_ n w ⟨r, false, d⟩).2 (ej_ n w ⟨r, false, d⟩).1 := by simp only [ff_, cl_, cd_]
theorem ld_ : ∀ (d : Nat) (e : E), form e d = true →
  (∀ (must : Int) (rest : List Str) (deep : Int) (n : Nat), must ≤ 4 → eff e must = 4 → deep + (wds e must).length ≤ 40 → 10 * ((wds e must).length + rest.length) + 2 ≤ n →
   ∃ deep', deep' ≤ deep + (wds e must).length ∧ ff_ n ⟨wds e must ++ rest, false, deep⟩ = asL rest e deep') ∧
  (∀ (must : Int) (t : Nat) (rest : List Str) (deep : Int) (n : Nat), must ≤ 4 → 1 ≤ t → t < 4 → (t : Int) ≤ eff e must → okR t rest → deep + (wds e must).length ≤ 40 → 10 * ((wds e must).length + rest.length) + 7 ≤ n + t →
   ∃ deep' m, deep' ≤ deep + (wds e must).length ∧ 10 * rest.length + 1 ≤ m ∧ cu_ n t ⟨wds e must ++ rest, false, deep⟩ = du_ m t e ⟨rest, false, deep'⟩)
 | 0, e, h => by have := (bu_ h).1; omega
 | d + 1, e, h => by
  have e1 : ((d + 1 : Nat) : Int) - 1 = (d : Int) := by omega
  -- an unbracketed Two, at its own level
  have two : ∀ (must : Int) (t : Nat) (rest : List Str) (deep : Int) (n : Nat), e.kind = 3 → ¬ bl_ e.s < must → bl_ e.s = t → okR t rest → deep + (wds e must).length ≤ 40 → 10 * ((wds e must).length + rest.length) + 7 ≤ n + t →
    ∃ deep' m, deep' ≤ deep + (wds e must).length ∧ 10 * rest.length + 1 ≤ m ∧ cu_ n t ⟨wds e must ++ rest, false, deep⟩ = du_ m t e ⟨rest, false, deep'⟩ := by
   intro must t rest deep n k3 hb ht hr hd hn
   rcases (bu_ h).2 with ⟨k1, _⟩ | ⟨k1, _⟩ | ⟨k1, h1, h2, h3, h4, h5⟩ | ⟨k1, _⟩
   ·omega
   ·omega
   ·rw [e1] at h4 h5
    obtain ⟨_, A⟩ := ld_ d _ h4
    obtain ⟨_, B⟩ := ld_ d _ h5
    have ht3 := cr_ h2
    have hop := qn_ h2
    rw [ei_ k1 h3, if_neg hb] at hd hn ⊢
    rw [ht] at hd hn ⊢
    simp only [T2_, T7_, List.length_nil] at hd hn
    simp only [List.append_assoc, List.cons_append, List.nil_append]
    obtain ⟨d1, m, g1, g2, g3⟩ := A (max 2 (t : Int)) t (e.s :: (wds (e.kids.getD 1 E0) ((t : Int) + 1) ++ rest)) deep n (by omega) (by omega) (by omega) (by have := f0_ (e.kids.getD 0 E0) (max 2 (t : Int)) (by omega); omega)
     ⟨by simp only [List.head?_cons, ne_eq, Option.some.injEq]; exact hop.1, fun w hw => by simp only [List.head?_cons, Option.some.injEq] at hw; subst hw; omega⟩ (by omega) (by simp only [T2_, T7_]; omega)
    rw [g3]
    simp only [T2_, T7_] at g2
    obtain ⟨m, rfl⟩ : ∃ m', m = m' + 1 := ⟨m - 1, by omega⟩
    have lp : du_ (m + 1) t (e.kids.getD 0 E0) ⟨e.s :: (wds (e.kids.getD 1 E0) ((t : Int) + 1) ++ rest), false, d1⟩ = du_ m t (.mk 3 0 e.s [e.kids.getD 0 E0, (cu_ m (t + 1) ⟨wds (e.kids.getD 1 E0) ((t : Int) + 1) ++ rest, false, d1⟩).1]) (cu_ m (t + 1) ⟨wds (e.kids.getD 1 E0) ((t : Int) + 1) ++ rest, false, d1⟩).2 := by
     simp only [du_, cl_, cd_]; rw [if_pos ⟨trivial, by simp, ht⟩]
    rw [lp]
    have hbk : ∃ deep', deep' ≤ d1 + (wds (e.kids.getD 1 E0) ((t : Int) + 1)).length ∧ cu_ m (t + 1) ⟨wds (e.kids.getD 1 E0) ((t : Int) + 1) ++ rest, false, d1⟩ = (e.kids.getD 1 E0, ⟨rest, false, deep'⟩) := by
     by_cases h34 : t = 3
     ·subst h34
      obtain ⟨Bh, _⟩ := ld_ d _ h5
      obtain ⟨m', rfl⟩ : ∃ m', m = m' + 1 := ⟨m - 1, by omega⟩
      have ef : eff (e.kids.getD 1 E0) ((3 : Nat) + 1) = 4 := by
       have := f0_ (e.kids.getD 1 E0) 4 (by omega)
       have h4 : eff (e.kids.getD 1 E0) 4 ≤ 4 := by
        unfold eff; split
        ·rename_i hh; rcases (bu_ h5).2 with ⟨k, _⟩ | ⟨k, _⟩ | ⟨k, _, hk, _⟩ | ⟨k, _⟩
         ·omega
         ·omega
         ·have := cr_ hk; omega
         ·omega
        ·omega
       show eff (e.kids.getD 1 E0) 4 = 4
       omega
      obtain ⟨d2, q1, q2⟩ := Bh (((3 : Nat) : Int) + 1) rest d1 m' (by omega) ef (by omega) (by omega)
      refine ⟨d2, q1, ?_⟩
      rw [of_, q2, v3_ hr.1]
     ·obtain ⟨d2, m2, q1, q2, q3⟩ := B ((t : Int) + 1) (t + 1) rest d1 m (by omega) (by omega) (by omega) (by have := f0_ (e.kids.getD 1 E0) ((t : Int) + 1) (by omega); omega) ⟨hr.1, fun w hw => by have := hr.2 w hw; omega⟩ (by omega) (by omega)
      refine ⟨d2, q1, ?_⟩
      rw [q3, hc_ fun w hw => by have := hr.2 w hw; omega]
    obtain ⟨d2, q1, q2⟩ := hbk
    rw [q2]
    refine ⟨d2, m, ?_, by omega, ?_⟩
    ·simp only [T2_, T7_, List.length_nil]; omega
    ·have he : e = .mk 3 0 e.s [e.kids.getD 0 E0, e.kids.getD 1 E0] := by
      rw [← im_ h3, ← h1, ← k1, E.eta]
     rw [← he]
   ·omega
  have h0_ : ∀ (must : Int) (rest : List Str) (deep : Int) (n : Nat), must ≤ 4 → eff e must = 4 → deep + (wds e must).length ≤ 40 → 10 * ((wds e must).length + rest.length) + 2 ≤ n →
    ∃ deep', deep' ≤ deep + (wds e must).length ∧ ff_ n ⟨wds e must ++ rest, false, deep⟩ = asL rest e deep' := by
   intro must rest deep n hm he hd hn
   rcases (bu_ h).2 with ⟨k1, h1, h2, h3, h4⟩ | ⟨k1, h1, h2, h3⟩ | ⟨k1, h1, h2, h3, h4, h5⟩ | ⟨k1, h1, h2, h3, h4⟩
   ·rw [dz_ k1] at hd hn ⊢
    obtain ⟨n, rfl⟩ : ∃ n', n = n' + 2 := ⟨n - 2, by omega⟩
    obtain ⟨g1, g2, g3⟩ := jv_ (n := e.n.toNat) (by omega)
    refine ⟨deep, by simp; omega, ?_⟩
    have : (.mk 1 (cf_ (Go.Lib.decDigits e.n.toNat) : Int) [] [] : E) = e := by
     rw [g2, Int.toNat_of_nonneg h1, ← h3, ← h4, ← k1, h3, h4]; conv => rhs; rw [← E.eta e, h3, h4]
    rw [List.cons_append, List.nil_append, kz_, g2_ g3 g1, this]
    rfl
   ·rw [dg_ k1] at hd hn ⊢
    obtain ⟨n, rfl⟩ : ∃ n', n = n' + 2 := ⟨n - 2, by omega⟩
    obtain ⟨g1, g2⟩ := ui_ h2
    refine ⟨deep, by simp; omega, ?_⟩
    have : (.mk 2 0 e.s [] : E) = e := by conv => rhs; rw [← E.eta e, h3, h1, k1]
    rw [List.cons_append, List.nil_append, kz_, gd_ g1 g2 h2, this]
    rfl
   ·have ht3 := cr_ h2
    have hb : bl_ e.s < must := by
     by_cases hh : bl_ e.s < must
     ·exact hh
     ·unfold eff at he; rw [if_pos ⟨k1, hh⟩] at he; omega
    rw [yr_ k1 h3 hb] at hd hn ⊢
    simp only [T7_, T2_, List.length_nil] at hd hn
    obtain ⟨n, rfl⟩ : ∃ n', n = n' + 2 := ⟨n - 2, by omega⟩
    obtain ⟨t, ht⟩ : ∃ t : Nat, bl_ e.s = t := ⟨(bl_ e.s).toNat, by omega⟩
    -- level 1 inside
    have inner : ∃ d1 m, d1 ≤ deep + 1 + (wds e 0).length ∧ 1 ≤ m ∧ cu_ n 1 ⟨wds e 0 ++ [41] :: rest, false, deep + 1⟩ = du_ m 1 e ⟨[41] :: rest, false, d1⟩ := by
     have hr : ∀ t, okR t ([41] :: rest) := fun t => ⟨by simp [wAs], fun w hw => by simp at hw; subst hw; simp [bl_]⟩
     have up : ∀ k : Nat, k < t → ∀ n, 10 * ((wds e 0).length + (rest.length + 1)) + 7 ≤ n + (t - k) → ∃ d1 m, d1 ≤ deep + 1 + (wds e 0).length ∧ 1 ≤ m ∧ cu_ n (t - k) ⟨wds e 0 ++ [41] :: rest, false, deep + 1⟩ = du_ m (t - k) e ⟨[41] :: rest, false, d1⟩ := by
      intro k
      induction k with
      | zero =>
       intro _ n hn
       obtain ⟨d1, m, q1, q2, q3⟩ := two 0 t ([41] :: rest) (deep + 1) n k1 (by omega) ht (hr t) (by omega) (by simp only [T7_]; omega)
       exact ⟨d1, m, q1, by simp only [T7_] at q2; omega, q3⟩
      | succ k ih =>
       intro hk n hn
       obtain ⟨n, rfl⟩ : ∃ n', n = n' + 1 := ⟨n - 1, by omega⟩
       obtain ⟨d1, m, q1, q2, q3⟩ := ih (by omega) n (by omega)
       refine ⟨d1, n, q1, by omega, ?_⟩
       rw [ol_ (by omega), show t - (k + 1) + 1 = t - k by omega, q3, hc_ fun w hw => by simp at hw; subst hw; simp [bl_]; omega]
     have := up (t - 1) (by omega) n (by omega)
     rwa [show t - (t - 1) = 1 by omega] at this
    obtain ⟨d1, m, q1, q2, q3⟩ := inner
    rw [hc_ fun w hw => by simp at hw; subst hw; simp [bl_]] at q3
    refine ⟨d1, by simp only [T7_, T2_, List.length_nil]; omega, ?_⟩
    rw [List.cons_append, kz_, List.append_assoc]
    rw [z9_ (s := ⟨wds e 0 ++ ([[41]] ++ rest), false, deep⟩) rfl (by dsimp only; omega) q3 rfl]
    rfl
   ·rw [e1] at h4
    obtain ⟨A, _⟩ := ld_ d _ h4
    have ef : eff (e.kids.getD 0 E0) 4 = 4 := by
     have := f0_ (e.kids.getD 0 E0) 4 (by omega)
     have h4' : eff (e.kids.getD 0 E0) 4 ≤ 4 := by
      unfold eff; split
      ·rename_i hh; rcases (bu_ h4).2 with ⟨k, _⟩ | ⟨k, _⟩ | ⟨k, _, hk, _⟩ | ⟨k, _⟩
       ·omega
       ·omega
       ·have := cr_ hk; omega
       ·omega
      ·omega
     omega
    rw [hj_ k1 h3] at hd hn ⊢
    simp only [T7_, T2_, List.length_nil] at hd hn
    obtain ⟨d1, q1, q2⟩ := A 4 (wAs :: e.s :: rest) deep n (by omega) ef (by omega) (by simp only [T7_]; omega)
    refine ⟨d1, by simp only [T7_, T2_, List.length_nil]; omega, ?_⟩
    rw [List.append_assoc]
    have hE : (.mk 4 0 e.s [e.kids.getD 0 E0] : E) = e := by conv => rhs; rw [← E.eta e, qg_ h3, h1, k1]
    refine q2.trans ?_
    simp only [asL, if_true]
    rw [hE]
  refine ⟨h0_, ?_⟩
  -- from the own level down to t
  intro must t rest deep n hm ht1 ht4 ht hr hd hn
  have hk : ∀ k : Nat, t + k ≤ 4 → ((t + k : Nat) : Int) = eff e must → ∃ deep' m, deep' ≤ deep + (wds e must).length ∧ 10 * rest.length + 1 ≤ m ∧ cu_ n t ⟨wds e must ++ rest, false, deep⟩ = du_ m t e ⟨rest, false, deep'⟩ := by
   intro k
   induction k generalizing t n with
   | zero =>
    intro _ hef
    rcases (bu_ h).2 with ⟨k1, _⟩ | ⟨k1, _⟩ | ⟨k1, h1, h2, h3, h4, h5⟩ | ⟨k1, _⟩
    ·unfold eff at hef; rw [if_neg (by omega)] at hef; omega
    ·unfold eff at hef; rw [if_neg (by omega)] at hef; omega
    ·unfold eff at hef
     by_cases hb : bl_ e.s < must
     ·rw [if_neg (by omega)] at hef; omega
     ·rw [if_pos ⟨k1, hb⟩] at hef
      exact two must t rest deep n k1 hb (by omega) hr hd hn
    ·unfold eff at hef; rw [if_neg (by omega)] at hef; omega
   | succ k ih =>
    intro h4 hef
    obtain ⟨n, rfl⟩ : ∃ n', n = n' + 1 := ⟨n - 1, by omega⟩
    by_cases h34 : t = 3
    ·subst h34
     obtain ⟨n, rfl⟩ : ∃ n', n = n' + 1 := ⟨n - 1, by omega⟩
     obtain ⟨d1, q1, q2⟩ := h0_ must rest deep n hm (by omega) hd (by omega)
     refine ⟨d1, n + 1, q1, by omega, ?_⟩
     rw [ol_ (by omega), of_, q2, v3_ hr.1]
    ·obtain ⟨d1, m, q1, q2, q3⟩ := ih (t + 1) n (by omega) (by omega) (by omega) ⟨hr.1, fun w hw => by have := hr.2 w hw; omega⟩ (by omega) (by omega) (by omega)
     refine ⟨d1, n, q1, by omega, ?_⟩
     rw [ol_ (by omega), q3, hc_ fun w hw => by have := hr.2 w hw; omega]
  have heff : eff e must ≤ 4 := by
   unfold eff; split
   ·rename_i hh; rcases (bu_ h).2 with ⟨k, _⟩ | ⟨k, _⟩ | ⟨k, _, hk, _⟩ | ⟨k, _⟩
    ·omega
    ·omega
    ·have := cr_ hk; omega
    ·omega
   ·omega
  exact hk (eff e must - t).toNat (by omega) (by omega)
theorem akj_ {e : E} (h : eok e = true) (hl : (wds e 1).length ≤ 40) {n : Nat} (hn : 410 ≤ n) : ∃ deep', cu_ n 1 ⟨wds e 1, false, 0⟩ = (e, ⟨[], false, deep'⟩) := by
 have he : 1 ≤ eff e 1 := f0_ e 1 (by omega)
 obtain ⟨d1, m, q1, q2, q3⟩ := (ld_ 5 e (b4_ h)).2 1 1 [] 0 n (by omega) (by omega) (by omega) he ⟨by simp, fun w hw => by simp at hw⟩ (by omega) (by simp; omega)
 rw [List.append_nil] at q3
 exact ⟨d1, by rw [q3, hc_ fun w hw => by simp at hw]⟩
end
section
theorem mh_ (c : UInt8) : cs_ c = true ↔ fz_ c := j0_ c
theorem wd_ (l : Str) : ((ia_ l).2 && (decide (0 ≤ (ia_ l).1) && decide ((ia_ l).1 ≤ 1000000))) = c4_ l ∧ (c4_ l = true → (ia_ l).1 = cf_ l) := by
 have key : c4_ l = true → (ia_ l).2 = true ∧ (ia_ l).1 = cf_ l := fun h => by
  obtain ⟨n, hn, rfl⟩ := dy_.1 h
  have hd := do_ n
  have hlen := kc_ hn
  have hh : (Go.Lib.decDigits n).head? ≠ some 45 := fun e => by
   have := hd 45 (List.mem_of_mem_head? (by rw [e]; rfl)); unfold fz_ at this; revert this; decide
  have hz : (Go.Lib.decDigits n).head? = some 48 → (Go.Lib.decDigits n).length ≤ 1 := fun e => by
   by_cases h : n < 10
   ·rw [Go.Lib.decDigits_one h]; simp
   ·exfalso; exact dec_lead n (by omega) e
  have hne : (Go.Lib.decDigits n).length ≠ 0 := fun e => e6_ n (List.eq_nil_of_length_eq_zero e)
  unfold ia_
  simp only [show ((Go.Lib.decDigits n).head? == some 45) = false by simpa using hh, Bool.false_eq_true, if_false, or_false]
  rw [if_neg (by rintro (h | h | ⟨h1, h2⟩); exact hne h; omega; have := hz h1; omega), if_pos (List.all_eq_true.2 fun c hc => (mh_ c).2 (hd c hc))]
  exact ⟨rfl, rfl⟩
 refine ⟨?_, fun h => (key h).2⟩
 cases h : c4_ l with
 | true =>
  obtain ⟨h1, h2⟩ := key h
  obtain ⟨n, hn, rfl⟩ := dy_.1 h
  rw [h1, h2, d6_]; simp; omega
 | false =>
  rw [Bool.eq_false_iff]
  intro hh
  rw [Bool.eq_false_iff] at h
  apply h
  simp only [T5_, T3_] at hh
  obtain ⟨h1, h2, h3⟩ := hh
  unfold ia_ at h1 h2 h3
  cases hneg : (l.head? == some 45) with
  | true =>
   exfalso
   simp only [hneg, if_true] at h1 h2 h3
   split at h1
   ·cases h1
   ·rename_i hc
    rw [if_neg hc] at h2 h3
    split at h1
    ·rename_i hall
     rw [if_pos hall] at h2 h3
     have hd : ∀ c ∈ l.tail, fz_ c := fun c hc => (mh_ c).1 (List.all_eq_true.1 hall c hc)
     have hne : l.tail ≠ [] := fun e => hc (.inl (by rw [e]; rfl))
     have := (lead hne hd (fun e => hc (.inr (.inr ⟨e, .inr trivial⟩)))).1
     omega
    ·cases h1
  | false =>
   simp only [hneg, Bool.false_eq_true, if_false, or_false] at h1 h2 h3
   split at h1
   ·cases h1
   ·rename_i hc
    rw [if_neg hc] at h2 h3
    split at h1
    ·rename_i hall
     rw [if_pos hall] at h2 h3
     have hd : ∀ c ∈ l, fz_ c := fun c hc => (mh_ c).1 (List.all_eq_true.1 hall c hc)
     have hne : l ≠ [] := fun e => hc (.inl (by rw [e]; rfl))
     refine dy_.2 ⟨cf_ l, by omega, ?_⟩
     by_cases h0 : l.head? = some 48
     ·have : ¬ 1 < l.length := fun h => hc (.inr (.inr ⟨h0, h⟩))
      match l, h0, this, hne with
      | [c], h0, _, _ => simp at h0; subst h0; rw [show cf_ [48] = 0 from rfl, Go.Lib.decDigits_one (by decide)]; rfl
      | _ :: _ :: _, _, h, _ => simp at h
     ·exact (lead hne hd h0).2.symm
    ·cases h1
where
 dec_lead (n : Nat) (h : 1 ≤ n) : (Go.Lib.decDigits n).head? ≠ some 48 := by
  induction n using Nat.strongRecOn with
  | ind n ih =>
   by_cases h1 : n < 10
   ·rw [Go.Lib.decDigits_one h1]
    simp only [List.head?_cons, ne_eq, Option.some.injEq]
    intro e
    have := qi_ h1
    rw [e] at this
    have e2 : (48 : UInt8).toNat = 48 := rfl
    omega
   ·rw [dr_ h1]
    have := ih (n / 10) (by omega) (by omega)
    cases hl : Go.Lib.decDigits (n / 10) with
    | nil => exact absurd hl (e6_ _)
    | cons c r => rw [hl] at this; simpa using this
def sAs : Nat → List Str → Nat → E → E × Option Nat
 | 0, _, _, e => (e, none)
 | n + 1, w, k, e => if w.getD k [] = wAs then (if e9_ (w.getD (k + 1) []) then sAs n w (k + 2) (.mk 4 0 (w.getD (k + 1) []) [e]) else (e, none)) else (e, some k)
mutual
def em_ : Nat → List Str → Nat → Int → E × Option Nat
 | 0, _, _, _ => (E0, none)
 | n + 1, w, k, deep =>
  if c4_ (w.getD k []) then sAs n w (k + 1) (.mk 1 (cf_ (w.getD k [])) [] [])
  else if gj_ (w.getD k []) then sAs n w (k + 1) (.mk 2 0 (w.getD k []) [])
  else if w.getD k [] = [40] ∧ 0 < deep then
   match (sL1 n w (k + 1) (deep - 1)).2 with
   | none => ((sL1 n w (k + 1) (deep - 1)).1, none)
   | some b => if w.getD b [] = [41] then sAs n w (b + 1) (sL1 n w (k + 1) (deep - 1)).1 else ((sL1 n w (k + 1) (deep - 1)).1, none)
  else (E0, none)
def sLp : Nat → List Str → Nat → Nat → Int → E × Option Nat
 | 0, _, _, _, _ => (E0, none)
 | n + 1, w, k, t, deep => if 3 < t then em_ n w k deep else ex_ n w t deep (sLp n w k (t + 1) deep).1 (sLp n w k (t + 1) deep).2
def ex_ : Nat → List Str → Nat → Int → E → Option Nat → E × Option Nat
 | 0, _, _, _, e, _ => (e, none)
 | _ + 1, _, _, _, e, none => (e, none)
 | n + 1, w, t, deep, e, some k => if bl_ (w.getD k []) = t then ex_ n w t deep (.mk 3 0 (w.getD k []) [e, (sLp n w (k + 1) (t + 1) deep).1]) (sLp n w (k + 1) (t + 1) deep).2 else (e, some k)
def sL1 : Nat → List Str → Nat → Int → E × Option Nat
 | 0, _, _, _ => (E0, none)
 | n + 1, w, k, deep =>
  match (sLp n w k 2 deep).2 with
  | none => ((sLp n w k 2 deep).1, none)
  | some b => if w.getD b [] = [60] then (.mk 3 0 [60] [(sLp n w k 2 deep).1, (sLp n w (b + 1) 2 deep).1], (sLp n w (b + 1) 2 deep).2) else ((sLp n w k 2 deep).1, some b)
end
theorem g0_ {w l : List Str} {k : Nat} {s : Str} (h : w.drop k = s :: l) : w.getD k [] = s ∧ w.drop (k + 1) = l := by
 have hk : k < w.length := by
  rcases Nat.lt_or_ge k w.length with h1 | h1
  ·exact h1
  ·rw [List.drop_of_length_le h1] at h; cases h
 rw [List.drop_eq_getElem_cons hk] at h
 injection h with h1 h2
 exact ⟨by rw [T8_, T6_ hk]; exact h1, h2⟩
theorem tp_ {w l : List Str} {k : Nat} (h : w.drop k = l) : w.getD k [] = l.headD [] := by
 cases l with
 | nil =>
  have : w.length ≤ k := by simpa using h
  simp [T8_, List.getElem?_eq_none this]
 | cons s l => exact (g0_ h).1
theorem d1_ {w a l : List Str} {k : Nat} (h : w.drop k = a ++ l) : w.drop (k + a.length) = l := by
 rw [← List.drop_drop, h]; simp
theorem v4_ {n : Nat} {w : List Str} {k : Nat} {e : E} {rest : List Str} (hk : w.drop k = rest) (h : rest.head? ≠ some wAs) : sAs (n + 1) w k e = (e, some k) := by
 simp only [sAs]
 rw [if_neg]
 rw [tp_ hk]
 cases rest with
 | nil => decide
 | cons a r => simpa using h
theorem fh_ {w : List Str} {k : Nat} {rest : List Str} (hk : w.drop k = rest) {P : Int → Prop} (h0 : P 0) (h : ∀ x, rest.head? = some x → P (bl_ x)) : P (bl_ (w.getD k [])) := by
 rw [tp_ hk]
 cases rest with
 | nil => exact h0
 | cons a r => exact h a rfl
theorem ey_ {n : Nat} {w : List Str} {t : Nat} {deep : Int} {e : E} {k : Nat} (h : bl_ (w.getD k []) ≠ t) : ex_ (n + 1) w t deep e (some k) = (e, some k) := by
 simp only [ex_]; rw [if_neg h]
theorem aaf_ {s : Str} (h : bl_ s = 1) : s = [60] := by
 unfold bl_ at h
 by_cases h1 : s = [60]
 ·exact h1
 ·by_cases h2 : s = [43] ∨ s = [45]
  ·rcases h2 with rfl | rfl <;> simp at h
  ·by_cases h3 : s = [42]
   ·subst h3; simp at h
   ·simp [h1, h3] at h; simp_all
theorem xq_ {e : E} {d must : Int} (h : form e d = true) : eff e must ≤ 4 := by
 unfold eff; split
 ·rename_i hh; rcases (bu_ h).2 with ⟨k, _⟩ | ⟨k, _⟩ | ⟨k, _, hk, _⟩ | ⟨k, _⟩
  ·omega
  ·omega
  ·have := cr_ hk; omega
  ·omega
 ·omega
theorem js_ {n : Nat} {w : List Str} {k : Nat} {deep : Int} (h : c4_ (w.getD k []) = true) : em_ (n + 1) w k deep = sAs n w (k + 1) (.mk 1 (cf_ (w.getD k [])) [] []) := by simp only [em_, h, if_true]
theorem iu_ {n : Nat} {w : List Str} {k : Nat} {deep : Int} (h : c4_ (w.getD k []) = false) (h2 : gj_ (w.getD k []) = true) : em_ (n + 1) w k deep = sAs n w (k + 1) (.mk 2 0 (w.getD k []) []) := by simp only [em_, h, h2, if_true, Bool.false_eq_true, if_false]
theorem j1_ {n : Nat} {w : List Str} {k b : Nat} {deep : Int} {x : E} (h : w.getD k [] = [40]) (hd : 0 < deep) (hx : sL1 n w (k + 1) (deep - 1) = (x, some b)) (hb : w.getD b [] = [41]) : em_ (n + 1) w k deep = sAs n w (b + 1) x := by
 have h1 : c4_ [40] = false := by
  rw [Bool.eq_false_iff]; intro h
  obtain ⟨n, hn, h⟩ := dy_.1 h
  exact (jv_ hn).2.2 h.symm
 have h2 : gj_ [40] = false := by decide
 simp only [em_, h, h1, h2, Bool.false_eq_true, if_false, hx, hb, if_true, true_and]
 rw [if_pos hd]
theorem jz_ (w : List Str) : ∀ (d : Nat) (e : E), form e d = true →
  (∀ (must : Int) (rest : List Str) (k : Nat) (deep : Int) (n : Nat), must ≤ 4 → eff e must = 4 → d ≤ deep → w.drop k = wds e must ++ rest → 10 * ((wds e must).length + rest.length) + 2 ≤ n →
   ∃ m, rest.length + 1 ≤ m ∧ em_ n w k deep = sAs m w (k + (wds e must).length) e) ∧
  (∀ (must : Int) (t : Nat) (rest : List Str) (k : Nat) (deep : Int) (n : Nat), must ≤ 4 → 2 ≤ t → t < 4 → (t : Int) ≤ eff e must → okR t rest → d ≤ deep → w.drop k = wds e must ++ rest → 10 * ((wds e must).length + rest.length) + 7 ≤ n + t →
   ∃ m, 10 * rest.length + 1 ≤ m ∧ sLp n w k t deep = ex_ m w t deep e (some (k + (wds e must).length))) ∧
  (∀ (rest : List Str) (k : Nat) (deep : Int) (n : Nat), e.kind = 3 → okR 0 rest → (d : Int) ≤ deep + 1 → w.drop k = wds e 0 ++ rest → 10 * ((wds e 0).length + rest.length) + 7 ≤ n →
   sL1 n w k deep = (e, some (k + (wds e 0).length)))
 | 0, e, h => by have := (bu_ h).1; omega
 | d + 1, e, h => by
  have e1 : ((d + 1 : Nat) : Int) - 1 = (d : Int) := by omega
  have two : ∀ (must : Int) (t : Nat) (rest : List Str) (k : Nat) (deep : Int) (n : Nat), e.kind = 3 → ¬ bl_ e.s < must → bl_ e.s = t → 2 ≤ t → okR t rest → d ≤ deep → w.drop k = wds e must ++ rest → 10 * ((wds e must).length + rest.length) + 7 ≤ n + t →
    ∃ m, 10 * rest.length + 1 ≤ m ∧ sLp n w k t deep = ex_ m w t deep e (some (k + (wds e must).length)) := by
   intro must t rest k deep n k3 hb ht ht2 hr hd hk hn
   rcases (bu_ h).2 with ⟨k1, _⟩ | ⟨k1, _⟩ | ⟨k1, h1, h2, h3, h4, h5⟩ | ⟨k1, _⟩
   ·omega
   ·omega
   ·rw [e1] at h4 h5
    have A := (jz_ w d _ h4).2.1
    have B := jz_ w d _ h5
    have ht3 := cr_ h2
    have hop := qn_ h2
    rw [ei_ k1 h3, if_neg hb] at hk hn ⊢
    rw [ht] at hk hn ⊢
    rw [show max 2 (t : Int) = t by omega] at hk hn ⊢
    simp only [T2_, T7_, List.length_nil] at hn ⊢
    simp only [List.append_assoc, List.cons_append, List.nil_append] at hk
    obtain ⟨m, g2, g3⟩ := A (t : Int) t (e.s :: (wds (e.kids.getD 1 E0) ((t : Int) + 1) ++ rest)) k deep n (by omega) (by omega) (by omega) (f0_ (e.kids.getD 0 E0) (t : Int) (by omega))
     ⟨by simp only [List.head?_cons, ne_eq, Option.some.injEq]; exact hop.1, fun w hw => by simp only [List.head?_cons, Option.some.injEq] at hw; subst hw; omega⟩ hd hk (by simp only [T2_, T7_]; omega)
    rw [g3]
    simp only [T2_, T7_] at g2
    obtain ⟨m, rfl⟩ : ∃ m', m = m' + 1 := ⟨m - 1, by omega⟩
    obtain ⟨q1, q2⟩ := g0_ (d1_ hk)
    have hmm : 10 * ((wds (e.kids.getD 1 E0) ((t : Int) + 1)).length + rest.length) + 10 ≤ m := by omega
    have hbk : sLp m w (k + (wds (e.kids.getD 0 E0) t).length + 1) (t + 1) deep = (e.kids.getD 1 E0, some (k + (wds (e.kids.getD 0 E0) t).length + 1 + (wds (e.kids.getD 1 E0) ((t : Int) + 1)).length)) := by
     by_cases h34 : t = 3
     ·subst h34
      obtain ⟨m', rfl⟩ : ∃ m', m = m' + 1 := ⟨m - 1, by omega⟩
      have ef : eff (e.kids.getD 1 E0) ((3 : Nat) + 1) = 4 := by
       have h1 := f0_ (e.kids.getD 1 E0) 4 (by omega)
       have h2 := xq_ (must := 4) h5
       show eff (e.kids.getD 1 E0) 4 = 4
       omega
      obtain ⟨m2, r1, r2⟩ := B.1 (((3 : Nat) : Int) + 1) rest _ deep m' (by omega) ef hd q2 (by omega)
      obtain ⟨m2, rfl⟩ : ∃ m', m2 = m' + 1 := ⟨m2 - 1, by omega⟩
      simp only [sLp]
      rw [if_pos (by omega), r2, v4_ (d1_ q2) hr.1]
     ·obtain ⟨m2, r1, r2⟩ := B.2.1 ((t : Int) + 1) (t + 1) rest _ deep m (by omega) (by omega) (by omega) (by have := f0_ (e.kids.getD 1 E0) ((t : Int) + 1) (by omega); omega) ⟨hr.1, fun w hw => by have := hr.2 w hw; omega⟩ hd q2 (by omega)
      obtain ⟨m2, rfl⟩ : ∃ m', m2 = m' + 1 := ⟨m2 - 1, by omega⟩
      rw [r2, ey_]
      exact fh_ (P := fun x => x ≠ ((t + 1 : Nat) : Int)) (d1_ q2) (by omega) fun x hx => by have := hr.2 x hx; omega
    refine ⟨m, by omega, ?_⟩
    have he : e = .mk 3 0 e.s [e.kids.getD 0 E0, e.kids.getD 1 E0] := by
     rw [← im_ h3, ← h1, ← k1, E.eta]
    simp only [ex_]
    rw [q1, if_pos ht, hbk, ← he]
    exact congrArg (fun x => ex_ m w t deep e (some x)) (by omega)
   ·omega
  -- level 1, without brackets
  have one : ∀ (rest : List Str) (k : Nat) (deep : Int) (n : Nat), e.kind = 3 → okR 0 rest → d ≤ deep → w.drop k = wds e 0 ++ rest → 10 * ((wds e 0).length + rest.length) + 7 ≤ n →
    sL1 n w k deep = (e, some (k + (wds e 0).length)) := by
   intro rest k deep n k3 hr hd hk hn
   rcases (bu_ h).2 with ⟨k1, _⟩ | ⟨k1, _⟩ | ⟨k1, h1, h2, h3, h4, h5⟩ | ⟨k1, _⟩
   ·omega
   ·omega
   ·have ht3 := cr_ h2
    obtain ⟨n, rfl⟩ : ∃ n', n = n' + 1 := ⟨n - 1, by omega⟩
    by_cases ht1 : bl_ e.s = 1
    ·rw [e1] at h4 h5
     have A := (jz_ w d _ h4).2.1
     have B := (jz_ w d _ h5).2.1
     have hs := aaf_ ht1
     rw [ei_ k1 h3, if_neg (by omega), ht1] at hk hn ⊢
     simp only [T2_, T7_, List.length_nil] at hn ⊢
     simp only [List.append_assoc, List.cons_append, List.nil_append] at hk
     obtain ⟨m, g2, g3⟩ := A 2 2 (e.s :: (wds (e.kids.getD 1 E0) (1 + 1) ++ rest)) k deep n (by omega) (by omega) (by omega) (f0_ (e.kids.getD 0 E0) 2 (by omega))
      ⟨by simp only [List.head?_cons, ne_eq, Option.some.injEq]; exact (qn_ h2).1, fun w hw => by simp only [List.head?_cons, Option.some.injEq] at hw; subst hw; omega⟩ hd hk (by
       simp only [T2_, T7_]
       have : max 2 (1 : Int) = 2 := rfl
       rw [this] at hn; omega)
     have e3 : max 2 (1 : Int) = 2 := rfl
     rw [e3] at hk ⊢
     obtain ⟨m, rfl⟩ : ∃ m', m = m' + 1 := ⟨m - 1, by omega⟩
     obtain ⟨q1, q2⟩ := g0_ (d1_ hk)
     rw [ey_ (by rw [q1]; omega)] at g3
     obtain ⟨m2, r1, r2⟩ := B 2 2 rest _ deep n (by omega) (by omega) (by omega) (f0_ (e.kids.getD 1 E0) 2 (by omega)) ⟨hr.1, fun w hw => by have := hr.2 w hw; omega⟩ hd q2 (by rw [e3] at hn; have : (wds (e.kids.getD 1 E0) 2).length = (wds (e.kids.getD 1 E0) (1 + 1)).length := rfl; omega)
     obtain ⟨m2, rfl⟩ : ∃ m', m2 = m' + 1 := ⟨m2 - 1, by omega⟩
     have hstop : bl_ (w.getD (k + (wds (e.kids.getD 0 E0) 2).length + 1 + (wds (e.kids.getD 1 E0) 2).length) []) ≠ ((2 : Nat) : Int) :=
      fh_ (P := fun x => x ≠ ((2 : Nat) : Int)) (d1_ q2) (by omega) fun x hx => by have := hr.2 x hx; omega
     rw [ey_ hstop] at r2
     have he : e = .mk 3 0 [60] [e.kids.getD 0 E0, e.kids.getD 1 E0] := by
      rw [← im_ h3, ← hs, ← h1, ← k1, E.eta]
     simp only [sL1, g3, q1, hs, if_true, r2, ← he]
     exact congrArg (fun x => (e, some x)) (by show k + (wds (e.kids.getD 0 E0) 2).length + 1 + (wds (e.kids.getD 1 E0) 2).length = k + ((wds (e.kids.getD 0 E0) 2).length + (0 + 1) + (wds (e.kids.getD 1 E0) 2).length); omega)
    · -- level 2 or 3
     obtain ⟨t, ht⟩ : ∃ t : Nat, bl_ e.s = t := ⟨(bl_ e.s).toNat, by omega⟩
     have h20 : ∃ m, 1 ≤ m ∧ sLp n w k 2 deep = ex_ m w 2 deep e (some (k + (wds e 0).length)) := by
      by_cases h2t : t = 2
      ·subst h2t
       obtain ⟨m, r1, r2⟩ := two 0 2 rest k deep n k1 (by omega) ht (by omega) ⟨hr.1, fun w hw => by have := hr.2 w hw; omega⟩ hd hk (by omega)
       exact ⟨m, by omega, r2⟩
      ·have h3t : t = 3 := by omega
       subst h3t
       obtain ⟨n, rfl⟩ : ∃ n', n = n' + 1 := ⟨n - 1, by omega⟩
       obtain ⟨m, r1, r2⟩ := two 0 3 rest k deep n k1 (by omega) ht (by omega) ⟨hr.1, fun w hw => by have := hr.2 w hw; omega⟩ hd hk (by omega)
       obtain ⟨m, rfl⟩ : ∃ m', m = m' + 1 := ⟨m - 1, by omega⟩
       refine ⟨n, by omega, ?_⟩
       simp only [sLp]
       rw [if_neg (by omega), r2, ey_]
       exact fh_ (P := fun x => x ≠ ((3 : Nat) : Int)) (d1_ hk) (by omega) fun x hx => by have := hr.2 x hx; omega
     obtain ⟨m, r1, r2⟩ := h20
     obtain ⟨m, rfl⟩ : ∃ m', m = m' + 1 := ⟨m - 1, by omega⟩
     rw [ey_ (fh_ (P := fun x => x ≠ ((2 : Nat) : Int)) (d1_ hk) (by omega) fun x hx => by have := hr.2 x hx; omega)] at r2
     have hlt : w.getD (k + (wds e 0).length) [] ≠ [60] := fun e60 => by
      have := fh_ (P := fun x => x ≤ 0) (d1_ hk) (by omega) fun x hx => by have := hr.2 x hx; omega
      rw [e60] at this; revert this; decide
     simp only [sL1, r2, hlt, if_false]
   ·omega
  have h0_ : ∀ (must : Int) (rest : List Str) (k : Nat) (deep : Int) (n : Nat), must ≤ 4 → eff e must = 4 → ((d + 1 : Nat) : Int) ≤ deep → w.drop k = wds e must ++ rest → 10 * ((wds e must).length + rest.length) + 2 ≤ n →
    ∃ m, rest.length + 1 ≤ m ∧ em_ n w k deep = sAs m w (k + (wds e must).length) e := by
   intro must rest k deep n hm he hd hk hn
   rcases (bu_ h).2 with ⟨k1, h1, h2, h3, h4⟩ | ⟨k1, h1, h2, h3⟩ | ⟨k1, h1, h2, h3, h4, h5⟩ | ⟨k1, h1, h2, h3, h4⟩
   ·rw [dz_ k1] at hk hn ⊢
    obtain ⟨n, rfl⟩ : ∃ n', n = n' + 1 := ⟨n - 1, by omega⟩
    obtain ⟨g1, g2, g3⟩ := jv_ (n := e.n.toNat) (by omega)
    obtain ⟨q1, q2⟩ := g0_ hk
    refine ⟨n, by simp at hn; omega, ?_⟩
    have : (.mk 1 (cf_ (Go.Lib.decDigits e.n.toNat) : Int) [] [] : E) = e := by
     rw [g2, Int.toNat_of_nonneg h1]; conv => rhs; rw [← E.eta e, h3, h4, k1]
    rw [js_ (by rw [q1]; exact g1), q1, this]; rfl
   ·rw [dg_ k1] at hk hn ⊢
    obtain ⟨n, rfl⟩ : ∃ n', n = n' + 1 := ⟨n - 1, by omega⟩
    obtain ⟨g1, g2⟩ := ui_ h2
    obtain ⟨q1, q2⟩ := g0_ hk
    refine ⟨n, by simp at hn; omega, ?_⟩
    have : (.mk 2 0 e.s [] : E) = e := by conv => rhs; rw [← E.eta e, h3, h1, k1]
    rw [iu_ (by rw [q1]; exact g2) (by rw [q1]; exact h2), q1, this]; rfl
   ·have ht3 := cr_ h2
    have hb : bl_ e.s < must := by
     by_cases hh : bl_ e.s < must
     ·exact hh
     ·unfold eff at he; rw [if_pos ⟨k1, hh⟩] at he; omega
    rw [yr_ k1 h3 hb] at hk hn ⊢
    simp only [T7_, T2_, List.length_nil] at hn ⊢
    obtain ⟨n, rfl⟩ : ∃ n', n = n' + 1 := ⟨n - 1, by omega⟩
    rw [List.cons_append, List.append_assoc] at hk
    obtain ⟨q1, q2⟩ := g0_ hk
    have inner := one ([[41]] ++ rest) (k + 1) (deep - 1) n k1 ⟨by simp [wAs], fun w hw => by simp at hw; subst hw; simp [bl_]⟩ (by omega) q2 (by simp; omega)
    obtain ⟨q3, q4⟩ := g0_ (d1_ q2)
    refine ⟨n, by omega, ?_⟩
    rw [j1_ q1 (by omega) inner q3]
    congr 1; omega
   ·rw [e1] at h4
    have A := (jz_ w d _ h4).1
    have ef : eff (e.kids.getD 0 E0) 4 = 4 := by
     have h1 := f0_ (e.kids.getD 0 E0) 4 (by omega)
     have h2 := xq_ (must := 4) h4
     omega
    rw [hj_ k1 h3] at hk hn ⊢
    simp only [T7_, T2_, List.length_nil] at hn ⊢
    rw [List.append_assoc] at hk
    obtain ⟨m, r1, r2⟩ := A 4 ([[97, 115], e.s] ++ rest) k deep n (by omega) ef (by omega) hk (by simp only [T7_, T2_, List.length_nil]; omega)
    simp only [T7_, T2_, List.length_nil] at r1
    obtain ⟨m, rfl⟩ : ∃ m', m = m' + 1 := ⟨m - 1, by omega⟩
    obtain ⟨q1, q2⟩ := g0_ (d1_ hk)
    obtain ⟨q3, q4⟩ := g0_ q2
    refine ⟨m, by omega, ?_⟩
    have hE : (.mk 4 0 e.s [e.kids.getD 0 E0] : E) = e := by conv => rhs; rw [← E.eta e, qg_ h3, h1, k1]
    rw [r2]
    simp only [sAs]
    rw [q1, if_pos (by rfl), q3, if_pos h2, hE]; rfl
  refine ⟨h0_, ?_, fun rest k deep n h1 h2 h3 h4 h5 => one rest k deep n h1 h2 (by omega) h4 h5⟩
  intro must t rest k deep n hm ht1 ht4 ht hr hd hk hn
  have hkk : ∀ j : Nat, t + j ≤ 4 → ((t + j : Nat) : Int) = eff e must → ∃ m, 10 * rest.length + 1 ≤ m ∧ sLp n w k t deep = ex_ m w t deep e (some (k + (wds e must).length)) := by
   intro j
   induction j generalizing t n with
   | zero =>
    intro _ hef
    rcases (bu_ h).2 with ⟨k1, _⟩ | ⟨k1, _⟩ | ⟨k1, h1, h2, h3, h4, h5⟩ | ⟨k1, _⟩
    ·unfold eff at hef; rw [if_neg (by omega)] at hef; omega
    ·unfold eff at hef; rw [if_neg (by omega)] at hef; omega
    ·unfold eff at hef
     by_cases hb : bl_ e.s < must
     ·rw [if_neg (by omega)] at hef; omega
     ·rw [if_pos ⟨k1, hb⟩] at hef
      exact two must t rest k deep n k1 hb (by omega) ht1 hr (by omega) hk hn
    ·unfold eff at hef; rw [if_neg (by omega)] at hef; omega
   | succ j ih =>
    intro h4 hef
    obtain ⟨n, rfl⟩ : ∃ n', n = n' + 1 := ⟨n - 1, by omega⟩
    by_cases h34 : t = 3
    ·subst h34
     obtain ⟨n, rfl⟩ : ∃ n', n = n' + 1 := ⟨n - 1, by omega⟩
     obtain ⟨m, q1, q2⟩ := h0_ must rest k deep n hm (by omega) hd hk (by omega)
     obtain ⟨m, rfl⟩ : ∃ m', m = m' + 1 := ⟨m - 1, by omega⟩
     refine ⟨n + 1, by omega, ?_⟩
     have e4 : sLp (n + 1) w k (3 + 1) deep = (e, some (k + (wds e must).length)) := by
      simp only [sLp]; rw [if_pos (by omega), q2, v4_ (d1_ hk) hr.1]
     rw [sLp, if_neg (by omega), e4]
    ·obtain ⟨m, q1, q2⟩ := ih (t + 1) n (by omega) (by omega) (by omega) ⟨hr.1, fun w hw => by have := hr.2 w hw; omega⟩ (by omega) (by omega) (by omega)
     obtain ⟨m, rfl⟩ : ∃ m', m = m' + 1 := ⟨m - 1, by omega⟩
     refine ⟨n, by omega, ?_⟩
     rw [ey_ (fh_ (P := fun x => x ≠ ((t + 1 : Nat) : Int)) (d1_ hk) (by omega) fun x hx => by have := hr.2 x hx; omega)] at q2
     rw [sLp, if_neg (by omega), q2]
  have heff := xq_ (must := must) h
  exact hkk (eff e must - t).toNat (by omega) (by omega)
theorem akm_ {e : E} (h : eok e = true) (hl : (wds e 1).length ≤ 40) {n : Nat} (hn : 410 ≤ n) : sL1 n (wds e 1) 0 5 = (e, some (wds e 1).length) := by
 have A := jz_ (wds e 1) 5 e (b4_ h)
 have hk : (wds e 1).drop 0 = wds e 1 ++ [] := by simp
 obtain ⟨n, rfl⟩ : ∃ n', n = n' + 1 := ⟨n - 1, by omega⟩
 by_cases he : 2 ≤ eff e 1
 ·obtain ⟨m, q1, q2⟩ := A.2.1 1 2 [] 0 5 n (by omega) (by omega) (by omega) he ⟨by simp, fun w hw => by simp at hw⟩ (by omega) hk (by simp; omega)
  obtain ⟨m, rfl⟩ : ∃ m', m = m' + 1 := ⟨m - 1, by omega⟩
  rw [ey_ (fh_ (P := fun x => x ≠ ((2 : Nat) : Int)) (d1_ hk) (by omega) fun x hx => by simp at hx)] at q2
  have hlt : (wds e 1).getD (0 + (wds e 1).length) [] ≠ [60] := by rw [tp_ (d1_ hk)]; decide
  rw [Nat.zero_add] at q2 hlt
  simp only [sL1, q2, hlt, if_false]
 ·have k3 : e.kind = 3 ∧ ¬ bl_ e.s < 1 := by unfold eff at he; by_cases hh : e.kind = 3 ∧ ¬ bl_ e.s < 1; exact hh; rw [if_neg hh] at he; omega
  have := A.2.2 [] 0 5 (n + 1) k3.1 ⟨by simp, fun w hw => by simp at hw⟩ (by omega) (by rw [e7_ (b4_ h)]; exact hk) (by rw [e7_ (b4_ h)]; simp; omega)
  rw [e7_ (b4_ h)] at this; rw [this]; simp
end
section
def marks : Str := [43, 45, 42, 60, 40, 41, 58, 61]
def fb_ (s : Str) : Bool := s.length == 1 && marks.contains (s.headD 0)
def da_ (s : Str) : Int := if e1_ s then 1 else if c4_ s then 2 else if fb_ s then 3 else 0
structure Tk where
 kind : Int
 s : Str
 col : Int
def d9_ (l : Str) : Nat := max 1 (max (l.takeWhile c0_).length (l.takeWhile cs_).length)
def fa_ : Nat → Str → Int → Option (List Tk)
 | 0, _, _ => some []
 | _ + 1, [], _ => some []
 | n + 1, c :: l, col =>
  if c = 32 then fa_ n l (col + 1)
  else if da_ ((c :: l).take (d9_ (c :: l))) = 0 then none
  else (fa_ n ((c :: l).drop (d9_ (c :: l))) (col + d9_ (c :: l))).map (⟨da_ ((c :: l).take (d9_ (c :: l))), (c :: l).take (d9_ (c :: l)), col⟩ :: ·)
def b1_ (l : Str) : Option (List Tk) := if 120 < l.length then none else fa_ l.length l 0
theorem lu_ (l : Str) : 1 ≤ d9_ l := by unfold d9_; omega
theorem aji_ (p : UInt8 → Bool) (l : Str) : (l.takeWhile p).length ≤ l.length := (List.takeWhile_prefix p).length_le
theorem aig_ {l : Str} (h : l ≠ []) : d9_ l ≤ l.length := by
 have h1 := aji_ c0_ l
 have h2 := aji_ cs_ l
 have h3 := List.length_pos_iff.2 h
 unfold d9_; omega
theorem mx_ : ∀ (n m : Nat) (l : Str) (col : Int), l.length ≤ n → l.length ≤ m → fa_ n l col = fa_ m l col
 | 0, m, l, col, hn, hm => by
  have : l = [] := List.eq_nil_of_length_eq_zero (by omega)
  subst this
  cases m <;> rfl
 | n + 1, 0, l, col, hn, hm => by
  have : l = [] := List.eq_nil_of_length_eq_zero (by omega)
  subst this
  rfl
 | n + 1, m + 1, [], col, _, _ => rfl
 | n + 1, m + 1, c :: l, col, hn, hm => by
  simp only [T7_] at hn hm
  have h1 := lu_ (c :: l)
  simp only [fa_]
  rw [mx_ n m l (col + 1) (by omega) (by omega), mx_ n m ((c :: l).drop (d9_ (c :: l))) _ (by simp; omega) (by simp; omega)]
theorem j6_ (c : UInt8) (l : Str) (col : Int) : fa_ (c :: l).length (c :: l) col =
  if c = 32 then fa_ l.length l (col + 1)
  else if da_ ((c :: l).take (d9_ (c :: l))) = 0 then none
  else (fa_ ((c :: l).drop (d9_ (c :: l))).length ((c :: l).drop (d9_ (c :: l))) (col + d9_ (c :: l))).map (⟨da_ ((c :: l).take (d9_ (c :: l))), (c :: l).take (d9_ (c :: l)), col⟩ :: ·) := by
 have h1 := lu_ (c :: l)
 have h2 := mx_ l.length ((c :: l).drop (d9_ (c :: l))).length ((c :: l).drop (d9_ (c :: l))) (col + d9_ (c :: l)) (by simp; omega) (Nat.le_refl _)
 simp only [T7_, fa_]
 rw [h2]
def tf_ : Int → List Str → List Tk
 | _, [] => []
 | c, w :: r => ⟨da_ w, w, c⟩ :: tf_ (c + w.length + 1) r
def ct_ : Int → List Str → List Int
 | _, [] => []
 | c, w :: r => c :: ct_ (c + w.length + 1) r
theorem tx_ : ∀ (c : Int) (l : List Str), (tf_ c l).map (·.s) = l
 | _, [] => rfl
 | c, w :: r => by simp only [tf_, List.map_cons, tx_]
def ed_ (w : Str) : Prop := da_ w ≠ 0
theorem ace_ {p : UInt8 → Bool} {w r : Str} (h : w.all p = true) (hr : ∀ c, r.head? = some c → p c = false) : (w ++ r).takeWhile p = w := by
 induction w with
 | nil =>
  cases r with
  | nil => rfl
  | cons c r => simp [List.takeWhile, hr c rfl]
 | cons c w ih =>
  simp only [List.all_cons, T5_] at h
  simp [List.takeWhile, h.1, ih h.2]
theorem kr_ {p : UInt8 → Bool} {c : UInt8} {l : Str} (h : p c = false) : (c :: l).takeWhile p = [] := by simp [List.takeWhile, h]
theorem gr_ {c : UInt8} (h : c0_ c = true) : cs_ c = false := by
 rw [Bool.eq_false_iff]; intro h2
 simp only [c0_, cs_, T5_, T3_] at h h2; omega
theorem nv_ {c : UInt8} (h : cs_ c = true) : c0_ c = false := by
 rw [Bool.eq_false_iff]; intro h2
 simp only [c0_, cs_, T5_, T3_] at h h2; omega
theorem ku_ {w : Str} (h : ed_ w) : (w ≠ [] ∧ w.all c0_ = true) ∨ (w ≠ [] ∧ w.all cs_ = true) ∨ (∃ c, w = [c] ∧ c0_ c = false ∧ cs_ c = false ∧ c ≠ 32) := by
 unfold ed_ da_ at h
 by_cases h1 : e1_ w = true
 ·left
  simp only [e1_, T5_, T3_] at h1
  exact ⟨fun e => by subst e; simp at h1, h1.1.1⟩
 rw [if_neg h1] at h
 by_cases h2 : c4_ w = true
 ·right; left
  obtain ⟨n, hn, rfl⟩ := dy_.1 h2
  exact ⟨e6_ n, List.all_eq_true.2 fun c hc => (j0_ c).2 (do_ n c hc)⟩
 rw [if_neg h2] at h
 by_cases h3 : fb_ w = true
 ·right; right
  simp only [fb_, T5_, beq_iff_eq] at h3
  match w, h3 with
  | [c], h3 =>
   have h4 := h3.2
   refine ⟨c, rfl, ?_⟩
   simp [marks] at h4
   rcases h4 with h4 | h4 | h4 | h4 | h4 | h4 | h4 | h4 <;> subst h4 <;> decide
 ·rw [if_neg h3] at h; exact absurd rfl h
theorem u6_ {w : Str} (h : ed_ w) : w ≠ [] := by
 rcases ku_ h with h | h | ⟨c, rfl, _⟩
 ·exact h.1
 ·exact h.1
 ·simp
theorem pj_ {c : UInt8} {w : Str} (h : ed_ (c :: w)) : c ≠ 32 := by
 rcases ku_ h with h | h | ⟨d, e, h1, h2, h3⟩
 ·intro e; subst e; have := h.2; simp [c0_] at this
 ·intro e; subst e; have := h.2; simp [cs_] at this
 ·injection e with e1 e2; subst e1; exact h3
theorem qu_ {w r : Str} (h : ed_ w) (hr : r = [] ∨ ∃ r', r = 32 :: r') : d9_ (w ++ r) = w.length := by
 have hl : ∀ c, r.head? = some c → c0_ c = false := fun c hc => by
  rcases hr with rfl | ⟨r', rfl⟩
  ·simp at hc
  ·simp at hc; subst hc; decide
 have hd : ∀ c, r.head? = some c → cs_ c = false := fun c hc => by
  rcases hr with rfl | ⟨r', rfl⟩
  ·simp at hc
  ·simp at hc; subst hc; decide
 unfold d9_
 rcases ku_ h with h | h | ⟨c, rfl, h1, h2, h3⟩
 ·rw [ace_ h.2 hl]
  cases w with
  | nil => exact absurd rfl h.1
  | cons c w =>
   have := h.2
   simp only [List.all_cons, T5_] at this
   rw [List.cons_append, kr_ (gr_ this.1)]; simp
 ·rw [ace_ h.2 hd]
  cases w with
  | nil => exact absurd rfl h.1
  | cons c w =>
   have := h.2
   simp only [List.all_cons, T5_] at this
   rw [List.cons_append, kr_ (nv_ this.1)]; simp
 ·rw [List.cons_append, kr_ h1, kr_ h2]; rfl
theorem pp_ : ∀ (l : List Str) (col : Int), (∀ w ∈ l, ed_ w) → fa_ (b9_ l).length (b9_ l) col = some (tf_ col l)
 | [], col, _ => rfl
 | [w], col, h => by
  have hw := h w (by simp)
  rw [fr_]
  have hl := qu_ (r := []) hw (.inl rfl)
  rw [List.append_nil] at hl
  cases hc : w with
  | nil => exact absurd hc (u6_ hw)
  | cons c v =>
   rw [← hc, show w.length = (c :: v).length by rw [hc], hc, j6_, ← hc, hl]
   have : c ≠ 32 := pj_ (by rw [← hc]; exact hw)
   rw [if_neg this, List.take_length, if_neg hw, List.drop_length]
   rfl
 | w :: x :: l, col, h => by
  have hw := h w (by simp)
  have ih := pp_ (x :: l) (col + w.length + 1) (fun y hy => h y (by simp [hy]))
  rw [e5_]
  have hl := qu_ (r := 32 :: b9_ (x :: l)) hw (.inr ⟨_, rfl⟩)
  cases hc : w with
  | nil => exact absurd hc (u6_ hw)
  | cons c v =>
   have h32 : c ≠ 32 := pj_ (by rw [← hc]; exact hw)
   have e1 : c :: v ++ 32 :: b9_ (x :: l) = c :: (v ++ 32 :: b9_ (x :: l)) := rfl
   have e2 : c :: (v ++ 32 :: b9_ (x :: l)) = w ++ 32 :: b9_ (x :: l) := by rw [hc]; rfl
   rw [e1, j6_, if_neg h32, e2, hl, List.take_left, List.drop_left, if_neg hw, j6_, if_pos rfl, ih, ← hc]
   rfl
theorem kg_ {l : List Str} (h : ∀ w ∈ l, ed_ w) (hl : (b9_ l).length ≤ 120) : b1_ (b9_ l) = some (tf_ 0 l) := by
 unfold b1_; rw [if_neg (by omega)]; exact pp_ l 0 h
theorem pm_ {s : Str} (h : gj_ s = true) : ed_ s := by
 simp only [gj_, T5_] at h
 unfold ed_ da_; rw [if_pos h.1]; decide
theorem aaq_ {n : Nat} (h : n ≤ 1000000) : ed_ (Go.Lib.decDigits n) := by
 unfold ed_ da_
 split
 ·decide
 ·rw [if_pos (jv_ h).1]; decide
theorem g8_ {s : Str} (h : fb_ s = true) : ed_ s := by
 unfold ed_ da_
 split
 ·decide
 ·split
  ·decide
  ·try rw [if_pos h]
   decide
theorem eh_ {s : Str} (h : e1_ s = true) : ed_ s := by unfold ed_ da_; rw [if_pos h]; decide
theorem afr_ {s : Str} (h : f2_ s = true) : ed_ s := by
 simp only [f2_, Bool.or_eq_true, beq_iff_eq] at h; rcases h with ((h | h) | h) | h <;> subst h <;> exact g8_ (by decide)
theorem qy_ {s : Str} (h : e9_ s = true) : ed_ s := by
 simp only [e9_, Bool.or_eq_true, beq_iff_eq] at h; rcases h with h | h <;> subst h <;> exact eh_ (by decide)
theorem d8_ : ∀ (d : Nat) (e : E) (must : Int), form e d = true → ∀ s ∈ wds e must, ed_ s
 | 0, e, must, h => by have := (bu_ h).1; omega
 | d + 1, e, must, h => by
  have e1 : ((d + 1 : Nat) : Int) - 1 = (d : Int) := by omega
  intro s hs
  rcases (bu_ h).2 with ⟨k1, h1, h2, h3, h4⟩ | ⟨k1, h1, h2, h3⟩ | ⟨k1, h1, h2, h3, h4, h5⟩ | ⟨k1, h1, h2, h3, h4⟩
  ·rw [dz_ k1] at hs; simp at hs; subst hs; exact aaq_ (by omega)
  ·rw [dg_ k1] at hs; simp at hs; subst hs; exact pm_ h2
  ·rw [e1] at h4 h5
   rw [ei_ k1 h3] at hs
   have A := d8_ d _ (max 2 (bl_ e.s)) h4
   have B := d8_ d _ (bl_ e.s + 1) h5
   have key : s ∈ wds (e.kids.getD 0 E0) (max 2 (bl_ e.s)) ++ [e.s] ++ wds (e.kids.getD 1 E0) (bl_ e.s + 1) → ed_ s := fun hs => by
    simp only [List.mem_append, List.mem_singleton] at hs
    rcases hs with (hs | hs) | hs
    ·exact A s hs
    ·rw [hs]; exact afr_ h2
    ·exact B s hs
   split at hs
   ·rcases List.mem_append.1 hs with hs | hs
    ·rcases List.mem_append.1 hs with hs | hs
     ·simp at hs; subst hs; exact g8_ (by decide)
     ·exact key hs
    ·simp at hs; subst hs; exact g8_ (by decide)
   ·exact key hs
  ·rw [e1] at h4
   rw [hj_ k1 h3] at hs
   simp only [List.mem_append, List.mem_cons, List.not_mem_nil, or_false] at hs
   rcases hs with hs | hs | hs
   ·exact d8_ d _ 4 h4 s hs
   ·subst hs; exact eh_ (by decide)
   ·subst hs; exact qy_ h2
end
section
def fl_ (w : List Str) : Option E :=
 if w.length ≤ 40 then
  (if ((cu_ 500 1 ⟨w, false, 0⟩).2.bad || !(cu_ 500 1 ⟨w, false, 0⟩).2.left.isEmpty || !eok (cu_ 500 1 ⟨w, false, 0⟩).1 || !(wds (cu_ 500 1 ⟨w, false, 0⟩).1 1 == w)) then none else some (cu_ 500 1 ⟨w, false, 0⟩).1)
 else none
def tv_ (w : List Str) : Option E :=
 if w.length ≤ 40 then
  (if (!((sL1 500 w 0 5).2 == some w.length) || !eok (sL1 500 w 0 5).1 || !(wds (sL1 500 w 0 5).1 1 == w)) then none else some (sL1 500 w 0 5).1)
 else none
theorem ju_ {w : List Str} {e : E} : fl_ w = some e ↔ eok e = true ∧ wds e 1 = w := by
 unfold fl_
 constructor
 ·intro h
  split at h
  ·split at h
   ·cases h
   ·rename_i hh
    simp only [Option.some.injEq] at h
    subst h
    simp only [Bool.or_eq_true, Bool.not_eq_true', not_or, Bool.not_eq_true, Bool.not_eq_false, beq_eq_false_iff_ne, ne_eq, Decidable.not_not] at hh
    exact ⟨hh.1.2, hh.2⟩
  ·cases h
 ·rintro ⟨h1, rfl⟩
  have := (cp_ h1 1).2.1
  obtain ⟨d, hd⟩ := akj_ h1 (by omega) (n := 500) (by omega)
  rw [if_pos (by omega), hd]
  simp [h1]
theorem oy_ {w : List Str} {e : E} : tv_ w = some e ↔ eok e = true ∧ wds e 1 = w := by
 unfold tv_
 constructor
 ·intro h
  split at h
  ·split at h
   ·cases h
   ·rename_i hh
    simp only [Option.some.injEq] at h
    subst h
    simp only [Bool.or_eq_true, Bool.not_eq_true', not_or, Bool.not_eq_true, Bool.not_eq_false, beq_eq_false_iff_ne, ne_eq, Decidable.not_not] at hh
    exact ⟨hh.1.2, hh.2⟩
  ·cases h
 ·rintro ⟨h1, rfl⟩
  have := (cp_ h1 1).2.1
  have hd := akm_ h1 (by omega) (n := 500) (by omega)
  rw [if_pos (by omega), hd]
  simp [h1]
theorem afs_ (w : List Str) : fl_ w = tv_ w := by
 cases h : tv_ w with
 | some e => rw [ju_, ← oy_, h]
 | none =>
  cases h2 : fl_ w with
  | none => rfl
  | some e => rw [ju_, ← oy_, h] at h2; cases h2
theorem oi_ : ∀ (d : Nat) (e : E) (must : Int), form e d = true → ∀ s ∈ wds e must, s ≠ b3_ ∧ s ≠ hm_ ∧ s ≠ fc_ ∧ s ≠ wIf ∧ s ≠ dt_ ∧ s ≠ h1_ ∧ s ≠ wEq
 | 0, e, must, h => by have := (bu_ h).1; omega
 | d + 1, e, must, h => by
  have e1 : ((d + 1 : Nat) : Int) - 1 = (d : Int) := by omega
  intro s hs
  rcases (bu_ h).2 with ⟨k1, h1, h2, h3, h4⟩ | ⟨k1, h1, h2, h3⟩ | ⟨k1, h1, h2, h3, h4, h5⟩ | ⟨k1, h1, h2, h3, h4⟩
  ·rw [dz_ k1] at hs; simp at hs; subst hs
   have hd := do_ e.n.toNat
   have hne := e6_ e.n.toNat
   have key : ∀ c r, ¬ fz_ c → Go.Lib.decDigits e.n.toNat ≠ c :: r := fun c r hc he => hc (hd c (by rw [he]; simp))
   refine ⟨key _ _ ?_, key _ _ ?_, key _ _ ?_, key _ _ ?_, key _ _ ?_, key _ _ ?_, key _ _ ?_⟩ <;> unfold fz_ <;> decide
  ·rw [dg_ k1] at hs; simp at hs; subst hs
   simp only [gj_, h0_, T5_, Bool.not_eq_true', Bool.or_eq_false_iff, beq_eq_false_iff_ne, ne_eq] at h2
   obtain ⟨hw, hh⟩ := h2
   refine ⟨fun e => hh.1.1.1.1.1.2 e, fun e => ?_, fun e => hh.1.1.2 e, fun e => hh.1.2 e, fun e => hh.1.1.1.1.2 e, fun e => hh.1.1.1.1.1.1 e, fun e => ?_⟩ <;> rw [e] at hw <;> exact absurd hw (by decide)
  ·rw [e1] at h4 h5
   rw [ei_ k1 h3] at hs
   have A := oi_ d _ (max 2 (bl_ e.s)) h4
   have B := oi_ d _ (bl_ e.s + 1) h5
   have key : s ∈ wds (e.kids.getD 0 E0) (max 2 (bl_ e.s)) ++ [e.s] ++ wds (e.kids.getD 1 E0) (bl_ e.s + 1) → s ≠ b3_ ∧ s ≠ hm_ ∧ s ≠ fc_ ∧ s ≠ wIf ∧ s ≠ dt_ ∧ s ≠ h1_ ∧ s ≠ wEq := fun hs => by
    simp only [List.mem_append, List.mem_singleton] at hs
    rcases hs with (hs | hs) | hs
    ·exact A s hs
    ·rw [hs]
     simp only [f2_, Bool.or_eq_true, beq_iff_eq] at h2; rcases h2 with ((h | h) | h) | h <;> rw [h] <;> decide
    ·exact B s hs
   split at hs
   ·rcases List.mem_append.1 hs with hs | hs
    ·rcases List.mem_append.1 hs with hs | hs
     ·simp at hs; subst hs; decide
     ·exact key hs
    ·simp at hs; subst hs; decide
   ·exact key hs
  ·rw [e1] at h4
   rw [hj_ k1 h3] at hs
   simp only [List.mem_append, List.mem_cons, List.not_mem_nil, or_false] at hs
   rcases hs with hs | hs | hs
   ·exact oi_ d _ 4 h4 s hs
   ·subst hs; decide
   ·subst hs; simp only [e9_, Bool.or_eq_true, beq_iff_eq] at h2; rcases h2 with h | h <;> rw [h] <;> decide
theorem abz_ {a b : List Str} {s : Str} (h : ∀ x ∈ a, x ≠ s) : d2_ (a ++ s :: b) s = a.length := by
 unfold d2_
 rw [if_pos (by simp), List.idxOf_append, if_neg (fun hm => h s hm rfl)]
 simp
def ex (w : List Str) : E := (fl_ w).getD E0
theorem i5_ {e : E} (h : eok e = true) : ex (wds e 1) = e := by unfold ex; rw [ju_.2 ⟨h, rfl⟩]; rfl
def rdS (w : List Str) : Sl :=
 if 5 < w.length ∧ w.getD 0 [] = h1_ then ⟨1, w.getD 1 [], w.getD 3 [], ex (w.drop 5), E0⟩
 else if 0 < w.length ∧ w.getD 0 [] = b3_ then ⟨2, [], [], ex (w.drop 1), E0⟩
 else if 0 < w.length ∧ w.getD 0 [] = dt_ then
  (if 0 < d2_ w b3_ then ⟨3, [], [], ex ((w.take (d2_ w b3_).toNat).drop 1), ex (w.drop ((d2_ w b3_).toNat + 1))⟩ else ⟨3, [], [], E0, E0⟩)
 else S0
def wb_ (s : Sl) : Str := b9_ (sw' s)
def zs_ (b : Bl) : Str := b9_ (bw b)
def dm_ (line : Str) : Option Sl :=
 match b1_ line with
 | none => none
 | some ts => if sok (rdS (ts.map (·.s))) = true ∧ wb_ (rdS (ts.map (·.s))) = line then some (rdS (ts.map (·.s))) else none
def e4_ (w : List Str) : Sl × Bool :=
 if w.length = 0 then (S0, true)
 else if w.getD 0 [] = h1_ ∧ 5 < w.length ∧ w.getD 2 [] = hm_ ∧ w.getD 4 [] = wEq then (⟨1, w.getD 1 [], w.getD 3 [], ex (w.drop 5), E0⟩, (fl_ (w.drop 5)).isSome)
 else if w.getD 0 [] = b3_ then (⟨2, [], [], ex (w.drop 1), E0⟩, (fl_ (w.drop 1)).isSome)
 else if w.getD 0 [] = dt_ ∧ 0 < d2_ w b3_ then
  (⟨3, [], [], ex ((w.take (d2_ w b3_).toNat).drop 1), ex (w.drop ((d2_ w b3_).toNat + 1))⟩, (fl_ ((w.take (d2_ w b3_).toNat).drop 1)).isSome && (fl_ (w.drop ((d2_ w b3_).toNat + 1))).isSome)
 else (S0, false)
def k0_ (line : Str) : Option Sl :=
 match b1_ line with
 | none => none
 | some ts => if (e4_ (ts.map (·.s))).2 = true ∧ sok (e4_ (ts.map (·.s))).1 = true ∧ wb_ (e4_ (ts.map (·.s))).1 = line then some (e4_ (ts.map (·.s))).1 else none
theorem lz_ {s : Sl} (h : sok s = true) : (b9_ (sw' s)).length ≤ 116 ∧
  (s = S0 ∨ (s.kind = 1 ∧ gj_ s.name = true ∧ e9_ s.type = true ∧ eok s.expr = true ∧ s.thn = E0) ∨ (s.kind = 2 ∧ s.name = [] ∧ s.type = [] ∧ eok s.expr = true ∧ s.thn = E0) ∨ (s.kind = 3 ∧ s.name = [] ∧ s.type = [] ∧ eok s.expr = true ∧ eok s.thn = true)) := by
 simp only [sok, T5_, T3_] at h
 refine ⟨h.2, ?_⟩
 have h := h.1
 unfold cz_ at h
 by_cases k0 : s.kind = 0
 ·simp [k0, dp_] at h
  left; cases s; simp_all [S0]
 by_cases k1 : s.kind = 1
 ·simp [k1, dp_] at h; exact .inr (.inl ⟨k1, h.1.1.1, h.1.1.2, h.1.2, h.2⟩)
 by_cases k2 : s.kind = 2
 ·simp [k2, dp_] at h; exact .inr (.inr (.inl ⟨k2, h.1.1.1, h.1.1.2, h.1.2, h.2⟩))
 by_cases k3 : s.kind = 3
 ·simp [k3] at h; exact .inr (.inr (.inr ⟨k3, h.1.1.1, h.1.1.2, h.1.2, h.2⟩))
 ·simp [k0, k1, k2, k3] at h
theorem l2_ {s : Bl} (h : bok s = true) : (b9_ (bw s)).length ≤ 120 ∧
  (s = B0 ∨ (s.kind = 1 ∧ gj_ s.name = true ∧ pe s.expr = true ∧ s.thn = E0) ∨ (s.kind = 2 ∧ s.name = [] ∧ pe s.expr = true ∧ s.thn = E0) ∨ (s.kind = 3 ∧ s.name = [] ∧ pe s.expr = true ∧ pe s.thn = true)) := by
 simp only [bok, T5_, T3_] at h
 refine ⟨h.2, ?_⟩
 have h := h.1
 unfold j7_ at h
 by_cases k0 : s.kind = 0
 ·simp [k0, dp_] at h
  left; cases s; simp_all [B0]
 by_cases k1 : s.kind = 1
 ·simp [k1, dp_] at h; exact .inr (.inl ⟨k1, h.1.1, h.1.2, h.2⟩)
 by_cases k2 : s.kind = 2
 ·simp [k2, dp_] at h; exact .inr (.inr (.inl ⟨k2, h.1.1, h.1.2, h.2⟩))
 by_cases k3 : s.kind = 3
 ·simp [k3] at h; exact .inr (.inr (.inr ⟨k3, h.1.1, h.1.2, h.2⟩))
 ·simp [k0, k1, k2, k3] at h
theorem sh_ : ed_ hm_ := g8_ (by decide)
theorem ux_ : ed_ wEq := g8_ (by decide)
theorem aci_ {s : Sl} (h : sok s = true) : ∀ w ∈ sw' s, ed_ w := by
 obtain ⟨_, h | ⟨k, h1, h2, h3, h4⟩ | ⟨k, h1, h2, h3, h4⟩ | ⟨k, h1, h2, h3, h4⟩⟩ := lz_ h
 ·subst h; intro w hw; simp [sw', S0] at hw
 ·intro w hw
  simp only [sw', k, if_true, List.mem_cons] at hw
  rcases hw with rfl | rfl | rfl | rfl | rfl | hw
  ·exact eh_ (by decide)
  ·exact pm_ h1
  ·exact sh_
  ·exact qy_ h2
  ·exact ux_
  ·exact d8_ 5 _ 1 (b4_ h3) w hw
 ·intro w hw
  simp only [sw', k, show ¬ (2 : Int) = 1 by omega, if_false, if_true, List.mem_cons] at hw
  rcases hw with rfl | hw
  ·exact eh_ (by decide)
  ·exact d8_ 5 _ 1 (b4_ h3) w hw
 ·intro w hw
  simp only [sw', k, show ¬ (3 : Int) = 1 by omega, show ¬ (3 : Int) = 2 by omega, if_false, if_true, List.mem_cons, List.mem_append] at hw
  rcases hw with (rfl | hw) | rfl | hw
  ·exact eh_ (by decide)
  ·exact d8_ 5 _ 1 (b4_ h3) w hw
  ·exact eh_ (by decide)
  ·exact d8_ 5 _ 1 (b4_ h4) w hw
theorem wh_ {s : Bl} (h : bok s = true) : ∀ w ∈ bw s, ed_ w := by
 obtain ⟨_, h | ⟨k, h1, h3, h4⟩ | ⟨k, h1, h3, h4⟩ | ⟨k, h1, h3, h4⟩⟩ := l2_ h
 ·subst h; intro w hw; simp [bw, B0] at hw
 ·intro w hw
  simp only [bw, k, if_true, List.mem_cons] at hw
  rcases hw with rfl | rfl | hw
  ·exact pm_ h1
  ·exact ux_
  ·exact d8_ 5 _ 1 (b4_ (gt_ h3)) w hw
 ·intro w hw
  simp only [bw, k, show ¬ (2 : Int) = 1 by omega, if_false, if_true, List.mem_cons] at hw
  rcases hw with rfl | hw
  ·exact eh_ (by decide)
  ·exact d8_ 5 _ 1 (b4_ (gt_ h3)) w hw
 ·intro w hw
  simp only [bw, k, show ¬ (3 : Int) = 1 by omega, show ¬ (3 : Int) = 2 by omega, if_false, if_true, List.mem_cons, List.mem_append] at hw
  rcases hw with (rfl | hw) | rfl | rfl | hw
  ·exact eh_ (by decide)
  ·exact d8_ 5 _ 1 (b4_ (gt_ h3)) w hw
  ·exact sh_
  ·exact eh_ (by decide)
  ·exact d8_ 5 _ 1 (b4_ (gt_ h4)) w hw
theorem se_ {s : Sl} (h : sok s = true) : b1_ (wb_ s) = some (tf_ 0 (sw' s)) := kg_ (aci_ h) (by have := (lz_ h).1; omega)
theorem z8_ {s : Bl} (h : bok s = true) : b1_ (zs_ s) = some (tf_ 0 (bw s)) := kg_ (wh_ h) (l2_ h).1
theorem rc_ {e : E} {d : Nat} {r : List Str} (h : form e d = true) (must : Int) : d2_ (dt_ :: wds e must ++ b3_ :: r) b3_ = (wds e must).length + 1 := by
 rw [abz_]
 ·simp
 ·intro x hx
  rcases List.mem_cons.1 hx with rfl | hx
  ·decide
  ·exact (oi_ d e must h x hx).1
theorem l7_ {e : E} (h : eok e = true) : fl_ (wds e 1) = some e := ju_.2 ⟨h, rfl⟩
theorem cut1 {a : Str} {l r : List Str} {x : Str} : ((a :: l ++ x :: r).take (l.length + 1)).drop 1 = l := by simp
theorem cut2 {a : Str} {l r : List Str} {x : Str} : (a :: l ++ x :: r).drop (l.length + 1 + 1) = r := by simp
theorem ajs_ {s : Sl} (h : sok s = true) : rdS (sw' s) = s := by
 obtain ⟨_, h | ⟨k, h1, h2, h3, h4⟩ | ⟨k, h1, h2, h3, h4⟩ | ⟨k, h1, h2, h3, h4⟩⟩ := lz_ h
 ·subst h; rfl
 ·have hw : sw' s = h1_ :: s.name :: hm_ :: s.type :: wEq :: wds s.expr 1 := by simp only [sw', k, if_true]
  have := (cp_ h3 1).1
  rw [hw, rdS, if_pos ⟨by simp; omega, rfl⟩]
  simp only [List.getD_cons_succ, List.getD_cons_zero, List.drop_succ_cons, List.drop_zero, i5_ h3]
  cases s; simp_all
 ·have hw : sw' s = b3_ :: wds s.expr 1 := by simp [sw', k]
  rw [hw, rdS, if_neg (fun hh => absurd (show b3_ = h1_ from hh.2) (by decide)), if_pos ⟨by simp, rfl⟩]
  simp only [List.drop_succ_cons, List.drop_zero, i5_ h3]
  cases s; simp_all
 ·have hw : sw' s = dt_ :: wds s.expr 1 ++ b3_ :: wds s.thn 1 := by simp [sw', k]
  rw [hw, rdS, if_neg (fun hh => absurd (show dt_ = h1_ from hh.2) (by decide)), if_neg (fun hh => absurd (show dt_ = b3_ from hh.2) (by decide)), if_pos ⟨by simp, rfl⟩, rc_ (b4_ h3) 1, if_pos (by omega),
   show ((wds s.expr 1).length + 1 : Int).toNat = (wds s.expr 1).length + 1 by omega, cut1, cut2, i5_ h3, i5_ h4]
  cases s; simp_all
theorem aiz_ {s : Sl} (h : sok s = true) : e4_ (sw' s) = (s, true) := by
 obtain ⟨_, h | ⟨k, h1, h2, h3, h4⟩ | ⟨k, h1, h2, h3, h4⟩ | ⟨k, h1, h2, h3, h4⟩⟩ := lz_ h
 ·subst h; rfl
 ·have hw : sw' s = h1_ :: s.name :: hm_ :: s.type :: wEq :: wds s.expr 1 := by simp only [sw', k, if_true]
  have := (cp_ h3 1).1
  rw [hw, e4_, if_neg (by simp), if_pos ⟨rfl, by simp; omega, rfl, rfl⟩]
  simp only [List.getD_cons_succ, List.getD_cons_zero, List.drop_succ_cons, List.drop_zero, i5_ h3, l7_ h3]
  cases s; simp_all
 ·have hw : sw' s = b3_ :: wds s.expr 1 := by simp [sw', k]
  rw [hw, e4_, if_neg (by simp), if_neg (fun hh => absurd (show b3_ = h1_ from hh.1) (by decide)), if_pos (show (b3_ :: wds s.expr 1).getD 0 [] = b3_ from rfl)]
  simp only [List.drop_succ_cons, List.drop_zero, i5_ h3, l7_ h3]
  cases s; simp_all
 ·have hw : sw' s = dt_ :: wds s.expr 1 ++ b3_ :: wds s.thn 1 := by simp [sw', k]
  rw [hw, e4_, if_neg (by simp), if_neg (fun hh => absurd (show dt_ = h1_ from hh.1) (by decide)), if_neg (show ¬ (dt_ :: wds s.expr 1 ++ b3_ :: wds s.thn 1).getD 0 [] = b3_ from fun hh => absurd (show dt_ = b3_ from hh) (by decide)), rc_ (b4_ h3) 1, if_pos ⟨rfl, by omega⟩,
   show ((wds s.expr 1).length + 1 : Int).toNat = (wds s.expr 1).length + 1 by omega, cut1, cut2, i5_ h3, i5_ h4, l7_ h3, l7_ h4]
  cases s; simp_all
theorem mv_ {line : Str} {s : Sl} : dm_ line = some s ↔ sok s = true ∧ wb_ s = line := by
 unfold dm_
 constructor
 ·intro h
  split at h
  ·cases h
  ·split at h
   ·rename_i hh; cases h; exact hh
   ·cases h
 ·rintro ⟨h1, rfl⟩
  rw [se_ h1]
  simp only [tx_, ajs_ h1, h1, and_self, if_true]
theorem xp_ {line : Str} {s : Sl} : k0_ line = some s ↔ sok s = true ∧ wb_ s = line := by
 unfold k0_
 constructor
 ·intro h
  split at h
  ·cases h
  ·split at h
   ·rename_i hh; cases h; exact hh.2
   ·cases h
 ·rintro ⟨h1, rfl⟩
  rw [se_ h1]
  simp only [tx_, aiz_ h1, h1, and_self, if_true]
theorem agm_ {α : Type} {x y : Option α} (h : ∀ a, x = some a ↔ y = some a) : x = y := by
 cases x with
 | some a => exact ((h a).1 rfl).symm
 | none =>
  cases y with
  | none => rfl
  | some b => exact (h b).2 rfl
theorem acg_ (line : Str) : dm_ line = k0_ line := agm_ fun s => by rw [mv_, xp_]
end
section
mutual
theorem rw_ : ∀ (e : E) (d k : Nat), form e d = true → form e ((d + k : Nat) : Int) = true ∧ many e ((d + k : Nat) : Int) = many e d
 | .mk kd n s kids, d, k, h => by
  have hd : 1 ≤ d := by have := (bu_ h).1; omega
  obtain ⟨d, rfl⟩ : ∃ d', d = d' + 1 := ⟨d - 1, by omega⟩
  have e1 : ((d + 1 : Nat) : Int) - 1 = (d : Int) := by omega
  have e2 : ((d + 1 + k : Nat) : Int) - 1 = ((d + k : Nat) : Int) := by omega
  simp only [form, T5_, T3_] at h ⊢
  rw [e1] at h
  have := op_ kids d k h.2
  rw [e2]
  refine ⟨⟨⟨by omega, h.1.2⟩, this.1⟩, ?_⟩
  simp only [many]
  rw [if_pos (by omega), if_pos (by omega), e1, e2, this.2]
theorem op_ : ∀ (l : List E) (d k : Nat), dn_ l d = true → dn_ l ((d + k : Nat) : Int) = true ∧ c7_ l ((d + k : Nat) : Int) = c7_ l d
 | [], d, k, _ => by simp [dn_, c7_]
 | e :: r, d, k, h => by
  simp only [dn_, T5_] at h ⊢
  have h1 := rw_ e d k h.1
  have h2 := op_ r d k h.2
  simp only [c7_]
  exact ⟨⟨h1.1, h2.1⟩, by rw [h1.2, h2.2]⟩
end
def wid (l : List Str) : Nat := (l.map fun s => s.length + 1).sum
theorem s7_ : wid [] = 0 := rfl
theorem ij_ (s : Str) (l : List Str) : wid (s :: l) = s.length + 1 + wid l := rfl
theorem iq_ (a b : List Str) : wid (a ++ b) = wid a + wid b := by simp [wid, List.sum_append]
theorem z3_ (l : List Str) : wid l = (l.map List.length).sum + l.length := by
 induction l with
 | nil => rfl
 | cons s l ih => rw [ij_, ih, List.map_cons, List.sum_cons, T7_]; omega
theorem un_ {l : List Str} (h : l ≠ []) : (b9_ l).length + 1 = wid l := by rw [gm_ l h, z3_]
theorem E.ext4 {e : E} {k n : Int} {s : Str} {l : List E} (h1 : e.kind = k) (h2 : e.n = n) (h3 : e.s = s) (h4 : e.kids = l) : e = .mk k n s l := by cases e; simp only [E.kind, E.n, E.s, E.kids] at *; subst h1 h2 h3 h4; rfl
theorem fk_ {e : E} (k : e.kind ≠ 4) (hl : e.kids = []) : bare e = e := by
 rw [m9_ k, hl]; simp only [e8_]; exact (E.ext4 rfl rfl rfl hl).symm
theorem l0_ {e : E} (k : e.kind = 3) (hl : e.kids.length = 2) : bare e = .mk 3 e.n e.s [bare (e.kids.getD 0 E0), bare (e.kids.getD 1 E0)] := by
 rw [m9_ (by omega), k]; conv => lhs; rw [im_ hl]
 simp only [e8_]
theorem n0_ {e : E} (k : e.kind = 4) (hl : e.kids.length = 1) : bare e = bare (e.kids.getD 0 E0) := sf_ k (by omega)
theorem fn_ : ∀ (d : Nat) (e : E), form e d = true → form (bare e) d = true ∧ many (bare e) d ≤ many e d
 | 0, e, h => by have := (bu_ h).1; omega
 | d + 1, e, h => by
  have e1 : ((d + 1 : Nat) : Int) - 1 = (d : Int) := by omega
  obtain ⟨h0, h1 | h1 | h1 | h1⟩ := bu_ h
  ·rw [fk_ (by omega) h1.2.2.2.2]; exact ⟨h, Int.le_refl _⟩
  ·rw [fk_ (by omega) h1.2.2.2]; exact ⟨h, Int.le_refl _⟩
  ·obtain ⟨k, hn, ho, hl, ha, hb⟩ := h1
   rw [e1] at ha hb
   obtain ⟨a1, a2⟩ := fn_ d _ ha
   obtain ⟨b1, b2⟩ := fn_ d _ hb
   rw [l0_ k hl, ik_ h0 hl, e1]
   refine ⟨?_, ?_⟩
   ·simp only [form, dn_, e1, a1, b1, Bool.and_true, T5_, T3_]
    exact ⟨h0, by simp [shape, hn, ho]⟩
   ·rw [ik_ (e := .mk 3 e.n e.s [_, _]) h0 rfl, e1]
    show 1 + many (bare (e.kids.getD 0 E0)) d + many (bare (e.kids.getD 1 E0)) d ≤ _
    omega
  ·obtain ⟨k, hn, ho, hl, ha⟩ := h1
   rw [e1] at ha
   obtain ⟨a1, a2⟩ := fn_ d _ ha
   rw [n0_ k hl, jc_ h0 hl, e1]
   obtain ⟨m1, m2⟩ := rw_ _ d 1 a1
   exact ⟨m1, by rw [m2]; omega⟩
theorem n1_ {e : E} (h : eok e = true) : pe (bare e) = true := by
 have h1 := fn_ 5 e (b4_ h)
 have h2 := ip_ h
 simp only [pe, eok, T5_, T3_]
 exact ⟨⟨h1.1, Int.le_trans h1.2 h2⟩, lx_ e (mq_ h)⟩
theorem aeq_ {e : E} {d : Nat} (h : form e d = true) {a b : Int} (hab : a ≤ b) : wid (wds e a) ≤ wid (wds e b) := by
 obtain ⟨h0, h1 | h1 | h1 | h1⟩ := bu_ h
 ·rw [dz_ h1.1, dz_ h1.1]; exact Nat.le_refl _
 ·rw [dg_ h1.1, dg_ h1.1]; exact Nat.le_refl _
 ·rw [ei_ h1.1 h1.2.2.2.1, ei_ h1.1 h1.2.2.2.1]
  split <;> split
  ·exact Nat.le_refl _
  ·omega
  ·simp only [iq_]; omega
  ·exact Nat.le_refl _
 ·rw [hj_ h1.1 h1.2.2.2.1, hj_ h1.1 h1.2.2.2.1]; exact Nat.le_refl _
theorem l3_ : ∀ (d : Nat) (e : E) (must : Int), must ≤ 4 → form e d = true → wid (wds (bare e) must) ≤ wid (wds e must)
 | 0, e, must, _, h => by have := (bu_ h).1; omega
 | d + 1, e, must, hm, h => by
  have e1 : ((d + 1 : Nat) : Int) - 1 = (d : Int) := by omega
  obtain ⟨h0, h1 | h1 | h1 | h1⟩ := bu_ h
  ·rw [fk_ (by omega) h1.2.2.2.2]; exact Nat.le_refl _
  ·rw [fk_ (by omega) h1.2.2.2]; exact Nat.le_refl _
  ·obtain ⟨k, hn, ho, hl, ha, hb⟩ := h1
   rw [e1] at ha hb
   have ht := cr_ ho
   have A := l3_ d _ (max 2 (bl_ e.s)) (by omega) ha
   have B := l3_ d _ (bl_ e.s + 1) (by omega) hb
   rw [l0_ k hl, ei_ k hl, ei_ (e := .mk 3 e.n e.s [_, _]) rfl rfl]
   show wid (if bl_ e.s < must then [[40]] ++ (wds (bare (e.kids.getD 0 E0)) (max 2 (bl_ e.s)) ++ [e.s] ++ wds (bare (e.kids.getD 1 E0)) (bl_ e.s + 1)) ++ [[41]] else wds (bare (e.kids.getD 0 E0)) (max 2 (bl_ e.s)) ++ [e.s] ++ wds (bare (e.kids.getD 1 E0)) (bl_ e.s + 1)) ≤ _
   split <;> simp only [iq_] <;> omega
  ·obtain ⟨k, hn, ho, hl, ha⟩ := h1
   rw [e1] at ha
   have A := l3_ d _ 4 (by omega) ha
   have M := aeq_ (fn_ d _ ha).1 hm
   rw [n0_ k hl, hj_ k hl, iq_]; omega
def offW (w : Str) : Prop := w ≠ wAs ∧ w ≠ [105, 110, 116] ∧ w ≠ [98, 111, 111, 108] ∧ w ≠ h1_ ∧ w ≠ b3_ ∧ w ≠ dt_
instance (w : Str) : Decidable (offW w) := by unfold offW; exact inferInstance
theorem ail_ {s : Sl} (h : cz_ s = true) : wid (bw (bof s)) ≤ wid (sw' s) + 2 := by
 unfold cz_ at h
 by_cases k0 : s.kind = 0
 ·simp [bw, sw', bof, k0, s7_]
 have hb : ∀ e : E, eok e = true → wid (wds (bare e) 1) ≤ wid (wds e 1) := fun e he => l3_ 5 e 1 (by decide) (b4_ he)
 by_cases k1 : s.kind = 1
 ·simp [k1] at h
  have := hb _ h.1.2
  simp [bw, sw', bof, k1, ij_, wEq, h1_, hm_]; omega
 by_cases k2 : s.kind = 2
 ·simp [k2] at h
  have := hb _ h.1.2
  simp [bw, sw', bof, k2, ij_, fc_, b3_]; omega
 by_cases k3 : s.kind = 3
 ·simp [k3] at h
  have h1 := hb _ h.1.2
  have h2 := hb _ h.2
  simp [bw, sw', bof, k3, ij_, iq_, fc_, b3_, wIf, dt_, hm_]; omega
 ·simp [k0, k1, k2, k3] at h
theorem hh_ {s : Sl} (h : cz_ s = true) : j7_ (bof s) = true := by
 unfold cz_ at h
 by_cases k0 : s.kind = 0
 ·simp [k0, dp_] at h; simp [j7_, bof, k0, h, qb_]
 by_cases k1 : s.kind = 1
 ·simp [k1, dp_] at h; simp [j7_, bof, k1, h, qb_, n1_ h.1.2]
 by_cases k2 : s.kind = 2
 ·simp [k2, dp_] at h; simp [j7_, bof, k2, h, qb_, n1_ h.1.2]
 by_cases k3 : s.kind = 3
 ·simp [k3] at h; simp [j7_, bof, k3, h, n1_ h.1.2, n1_ h.2]
 ·simp [k0, k1, k2, k3] at h
theorem amm_ {s : Sl} (h : s.kind = 1 ∨ s.kind = 2 ∨ s.kind = 3) : sw' s ≠ [] ∧ bw (bof s) ≠ [] := by
 rcases h with k | k | k <;> simp [sw', bw, bof, k]
theorem adj_ {s : Sl} (h : cz_ s = true) : (b9_ (bw (bof s))).length ≤ (b9_ (sw' s)).length + 2 := by
 have h1 := ail_ h
 by_cases hk : s.kind = 1 ∨ s.kind = 2 ∨ s.kind = 3
 ·obtain ⟨n1, n2⟩ := amm_ hk
  have t1 := un_ n1
  have t2 := un_ n2
  omega
 ·have : bw (bof s) = [] := by
   simp only [not_or] at hk
   simp [bw, bof, hk]
  rw [this]; simp [fm_]
theorem ahu_ {s : Sl} (h : sok s = true) : cz_ s = true ∧ (b9_ (sw' s)).length ≤ 116 := by
 simpa [sok] using h
theorem tq_ {s : Sl} (h : sok s = true) : bok (bof s) = true := by
 obtain ⟨h1, h2⟩ := ahu_ h
 have h3 := adj_ h1
 simp only [bok, hh_ h1, Bool.true_and, T3_]; omega
end
section
def shf (k : Int) (l : Wd) : Wd := l.map fun p => if 0 ≤ p.2 then (p.1, p.2 + k) else p
theorem aif_ (k : Int) (a b : Wd) : shf k (a ++ b) = shf k a ++ shf k b := by simp [shf]
theorem a0_ (k : Int) (a : Wd) : (shf k a).length = a.length := by simp [shf]
theorem lg_ (a : Wd) : shf 0 a = a := by
 unfold shf
 conv => rhs; rw [← List.map_id a]
 congr 1; funext p
 split <;> simp
theorem tb_ (k : Int) (a : Wd) : (shf k a).map (·.1) = a.map (·.1) := by
 unfold shf; rw [List.map_map]; congr 1; funext p; simp only [Function.comp]; split <;> rfl
mutual
def l8 : E → Int → Int → Wd
 | .mk k n s kids, t, b =>
  if k = 1 then [(Go.Lib.decDigits n.toNat, 0)]
  else if k = 2 then [(s, 0)]
  else if k = 3 then brk (decide (bl_ s < b)) (shf (if bl_ s < t then 1 else 0) (l8A kids (max 2 (bl_ s)) (max 2 (bl_ s)) ++ (s, wlA kids (max 2 (bl_ s))) :: shf (wlA kids (max 2 (bl_ s)) + 1) (l8B kids (bl_ s + 1))))
  else if k = 4 then l8A kids 4 b
  else []
def l8A : List E → Int → Int → Wd
 | [], _, _ => []
 | e :: _, t, b => l8 e t b
def l8B : List E → Int → Wd
 | [], _ => []
 | _ :: r, t => l8A r t t
def wlA : List E → Int → Int
 | [], _ => 0
 | e :: _, t => (wds e t).length
end
theorem afa_ {e : E} (h : e.kind = 1) (t b : Int) : l8 e t b = [(Go.Lib.decDigits e.n.toNat, 0)] := by
 cases e; simp only [E.kind] at h; subst h; simp [l8, E.n]
theorem y9_ {e : E} (h : e.kind = 2) (t b : Int) : l8 e t b = [(e.s, 0)] := by
 cases e; simp only [E.kind] at h; subst h; simp [l8, E.s]
theorem ab5_ {e : E} (h : e.kind = 3) (hl : e.kids.length = 2) (t b : Int) : l8 e t b = brk (decide (bl_ e.s < b)) (shf (if bl_ e.s < t then 1 else 0) (l8 (e.kids.getD 0 E0) (max 2 (bl_ e.s)) (max 2 (bl_ e.s)) ++ (e.s, ((wds (e.kids.getD 0 E0) (max 2 (bl_ e.s))).length : Int)) :: shf ((wds (e.kids.getD 0 E0) (max 2 (bl_ e.s))).length + 1) (l8 (e.kids.getD 1 E0) (bl_ e.s + 1) (bl_ e.s + 1)))) := by
 cases e with
 | mk k n s kids =>
  simp only [E.kind] at h; subst h
  simp only [E.kids] at hl
  match kids, hl with
  | [x, y], _ => simp [l8, l8A, l8B, wlA, E.s, E.kids]; rfl
theorem ajd_ {e : E} (h : e.kind = 4) (hl : e.kids.length = 1) (t b : Int) : l8 e t b = l8 (e.kids.getD 0 E0) 4 b := by
 cases e with
 | mk k n s kids =>
  simp only [E.kind] at h; subst h
  simp only [E.kids] at hl
  match kids, hl with
  | [a], _ => simp [l8, l8A, E.kids]
def Trc (L : Wd) : Wd → Wd → Prop
 | [], [] => True
 | w :: B, c :: C => c.1 = w.1 ∧ ((w.2 = -1 ∧ c.2 = -1) ∨ (0 ≤ w.2 ∧ 0 ≤ c.2 ∧ L[c.2.toNat]? = some w)) ∧ Trc L B C
 | _, _ => False
theorem Trc.app {L : Wd} : ∀ {B C B' C' : Wd}, Trc L B C → Trc L B' C' → Trc L (B ++ B') (C ++ C')
 | [], [], _, _, _, h => h
 | [], _ :: _, _, _, h, _ => by simp [Trc] at h
 | _ :: _, [], _, _, h, _ => by simp [Trc] at h
 | w :: B, c :: C, B', C', h, k => by
  simp only [Trc] at h
  simp only [List.cons_append, Trc]
  exact ⟨h.1, h.2.1, h.2.2.app k⟩
theorem Trc.shf {L P : Wd} : ∀ {B C : Wd}, Trc L B C → Trc (P ++ L) B (Go.Proofs.YtcigkafioinfoaaGreatDoor.shf P.length C)
 | [], [], _ => by simp [Go.Proofs.YtcigkafioinfoaaGreatDoor.shf, Trc]
 | [], _ :: _, h => by simp [Trc] at h
 | _ :: _, [], h => by simp [Trc] at h
 | w :: B, c :: C, h => by
  simp only [Trc] at h
  have ih := h.2.2.shf (P := P)
  simp only [Go.Proofs.YtcigkafioinfoaaGreatDoor.shf, List.map_cons, Trc] at ih ⊢
  rcases h.2.1 with ⟨h1, h2⟩ | ⟨h1, h2, h3⟩
  ·rw [if_neg (by omega)]; exact ⟨h.1, .inl ⟨h1, h2⟩, ih⟩
  ·rw [if_pos h2]
   refine ⟨h.1, .inr ⟨h1, by dsimp only; omega, ?_⟩, ih⟩
   dsimp only
   rw [show (c.2 + (P.length : Int)).toNat = P.length + c.2.toNat by omega, List.getElem?_append_right (by omega), Nat.add_sub_cancel_left]
   exact h3
theorem Trc.right {L Q : Wd} : ∀ {B C : Wd}, Trc L B C → Trc (L ++ Q) B C
 | [], [], _ => by simp [Trc]
 | [], _ :: _, h => by simp [Trc] at h
 | _ :: _, [], h => by simp [Trc] at h
 | w :: B, c :: C, h => by
  simp only [Trc] at h ⊢
  refine ⟨h.1, ?_, h.2.2.right⟩
  rcases h.2.1 with h1 | ⟨h1, h2, h3⟩
  ·exact .inl h1
  ·exact .inr ⟨h1, h2, by rw [List.getElem?_append_left (List.getElem?_eq_some_iff.1 h3).1]; exact h3⟩
theorem Trc.brk {L B C : Wd} (b : Bool) (h : Trc L B C) : Trc L (Go.Proofs.YtcigkafioinfoaaGreatDoor.brk b B) (Go.Proofs.YtcigkafioinfoaaGreatDoor.brk b C) := by
 cases b with
 | false => exact h
 | true =>
  simp only [Go.Proofs.YtcigkafioinfoaaGreatDoor.brk, if_true, Trc]
  refine ⟨trivial, .inl ⟨trivial, trivial⟩, h.app ?_⟩
  simp [Trc]
theorem vv_ {e : E} (h : e.kind = 1 ∨ e.kind = 2) (hl : e.kids = []) : cnt e = 1 := by
 cases e; simp only [E.kind, E.kids] at h hl; subst hl; rcases h with h | h <;> subst h <;> simp [cnt, qs_]
theorem ji_ : ∀ (d : Nat) (e : E), form e d = true → cnt (bare e) = cnt e
 | 0, e, h => by have := (bu_ h).1; omega
 | d + 1, e, h => by
  have e1 : ((d + 1 : Nat) : Int) - 1 = (d : Int) := by omega
  obtain ⟨h0, h1 | h1 | h1 | h1⟩ := bu_ h
  ·rw [fk_ (by omega) h1.2.2.2.2]
  ·rw [fk_ (by omega) h1.2.2.2]
  ·obtain ⟨k, hn, ho, hl, ha, hb⟩ := h1
   rw [e1] at ha hb
   rw [l0_ k hl, le_ (e := .mk 3 e.n e.s [_, _]) rfl rfl, le_ k hl]
   show 1 + cnt (bare (e.kids.getD 0 E0)) + cnt (bare (e.kids.getD 1 E0)) = _
   rw [ji_ d _ ha, ji_ d _ hb]
  ·obtain ⟨k, hn, ho, hl, ha⟩ := h1
   rw [e1] at ha
   rw [n0_ k hl, sz_ k hl, ji_ d _ ha]
theorem n7_ {e : E} (h : e.kind = 1) (must nx : Int) : src e must nx = [(Go.Lib.decDigits e.n.toNat, nx)] := by
 cases e; simp only [E.kind] at h; subst h; simp [src, E.n]
theorem k9_ {e : E} (h : e.kind = 2) (must nx : Int) : src e must nx = [(e.s, nx)] := by
 cases e; simp only [E.kind] at h; subst h; simp [src, E.s]
theorem na_ (e : E) (must nx : Int) : (src e must nx).length = (wds e must).length := by
 rw [← et_ e must nx, List.length_map]
theorem i0_ : ∀ (d : Nat) (e : E) (t b nx : Int), form e d = true → t ≤ 4 → b ≤ 4 → 0 ≤ nx → Trc (src e t nx) (src (bare e) b nx) (l8 e t b)
 | 0, e, t, b, nx, h, _, _, _ => by have := (bu_ h).1; omega
 | d + 1, e, t, b, nx, h, ht, hb4, hn0 => by
  have e1 : ((d + 1 : Nat) : Int) - 1 = (d : Int) := by omega
  obtain ⟨h0, h1 | h1 | h1 | h1⟩ := bu_ h
  ·rw [fk_ (by omega) h1.2.2.2.2, n7_ h1.1, n7_ h1.1, afa_ h1.1]
   simp [Trc, hn0]
  ·rw [fk_ (by omega) h1.2.2.2, k9_ h1.1, k9_ h1.1, y9_ h1.1]
   simp [Trc, hn0]
  ·obtain ⟨k, hn, ho, hl, ha, hb⟩ := h1
   rw [e1] at ha hb
   have htt := cr_ ho
   have A := i0_ d _ (max 2 (bl_ e.s)) (max 2 (bl_ e.s)) (nx + 1) ha (by omega) (by omega) (by omega)
   have hc := dd_ d _ 0 ha
   have B := i0_ d _ (bl_ e.s + 1) (bl_ e.s + 1) (nx + 1 + cnt (e.kids.getD 0 E0)) hb (by omega) (by omega) (by omega)
   rw [l0_ k hl, hu_ k hl, hu_ (e := .mk 3 e.n e.s [_, _]) rfl rfl, ab5_ k hl]
   refine Trc.brk _ ?_
   show Trc _ (src (bare (e.kids.getD 0 E0)) (max 2 (bl_ e.s)) (nx + 1) ++ (e.s, nx) :: src (bare (e.kids.getD 1 E0)) (bl_ e.s + 1) (nx + 1 + cnt (bare (e.kids.getD 0 E0)))) _
   rw [ji_ d _ ha]
   have core : Trc (src (e.kids.getD 0 E0) (max 2 (bl_ e.s)) (nx + 1) ++ (e.s, nx) :: src (e.kids.getD 1 E0) (bl_ e.s + 1) (nx + 1 + cnt (e.kids.getD 0 E0)))
     (src (bare (e.kids.getD 0 E0)) (max 2 (bl_ e.s)) (nx + 1) ++ (e.s, nx) :: src (bare (e.kids.getD 1 E0)) (bl_ e.s + 1) (nx + 1 + cnt (e.kids.getD 0 E0)))
     (l8 (e.kids.getD 0 E0) (max 2 (bl_ e.s)) (max 2 (bl_ e.s)) ++ (e.s, ((wds (e.kids.getD 0 E0) (max 2 (bl_ e.s))).length : Int)) :: shf ((wds (e.kids.getD 0 E0) (max 2 (bl_ e.s))).length + 1) (l8 (e.kids.getD 1 E0) (bl_ e.s + 1) (bl_ e.s + 1))) := by
    refine A.right.app ?_
    have B2 := B.shf (P := src (e.kids.getD 0 E0) (max 2 (bl_ e.s)) (nx + 1) ++ [(e.s, nx)])
    rw [T2_, na_, List.length_singleton, List.append_assoc, List.singleton_append] at B2
    simp only [Trc]
    refine ⟨trivial, .inr ⟨hn0, by omega, ?_⟩, by simpa using B2⟩
    rw [Int.toNat_natCast, ← na_ _ _ (nx + 1), List.getElem?_append_right (Nat.le_refl _), Nat.sub_self]; rfl
   cases hlt : decide (bl_ e.s < t) with
   | false =>
    simp only [T4_] at hlt
    rw [if_neg hlt, lg_]; exact core
   | true =>
    simp only [T3_] at hlt
    rw [if_pos hlt]
    have := (core.shf (P := [([40], -1)])).right (Q := [([41], -1)])
    simpa [brk] using this
  ·obtain ⟨k, hn, ho, hl, ha⟩ := h1
   rw [e1] at ha
   rw [n0_ k hl, m0_ k hl, ajd_ k hl]
   exact (i0_ d _ 4 b nx ha (by omega) hb4 hn0).right
theorem Trc.fst {L : Wd} : ∀ {B C : Wd}, Trc L B C → C.map (·.1) = B.map (·.1)
 | [], [], _ => rfl
 | [], _ :: _, h => by simp [Trc] at h
 | _ :: _, [], h => by simp [Trc] at h
 | w :: B, c :: C, h => by
  simp only [Trc] at h
  simp only [List.map_cons, h.1, h.2.2.fst]
def ids (l : Wd) : List Int := (l.map (·.2)).filter fun k => decide (0 ≤ k)
theorem ok_ (a b : Wd) : ids (a ++ b) = ids a ++ ids b := by simp [ids]
theorem ib_ (p : Str × Int) (b : Wd) : ids (p :: b) = if 0 ≤ p.2 then p.2 :: ids b else ids b := by
 simp only [ids, List.map_cons, List.filter_cons, T3_]
theorem y7_ : ids [] = [] := rfl
theorem agq_ (b : Bool) (l : Wd) : ids (brk b l) = ids l := by
 cases b <;> simp [brk, ok_, ib_, y7_]
theorem n2_ : ∀ (d : Nat) (e : E) (must nx : Int), form e d = true → 0 ≤ nx → (ids (src e must nx)).Nodup ∧ ∀ i ∈ ids (src e must nx), nx ≤ i ∧ i < nx + cnt e
 | 0, e, must, nx, h, _ => by have := (bu_ h).1; omega
 | d + 1, e, must, nx, h, hn0 => by
  have e1 : ((d + 1 : Nat) : Int) - 1 = (d : Int) := by omega
  obtain ⟨h0, h1 | h1 | h1 | h1⟩ := bu_ h
  ·rw [n7_ h1.1, vv_ (.inl h1.1) h1.2.2.2.2]; simp [ids, hn0]; omega
  ·rw [k9_ h1.1, vv_ (.inr h1.1) h1.2.2.2]; simp [ids, hn0]; omega
  ·obtain ⟨k, hn, ho, hl, ha, hb⟩ := h1
   rw [e1] at ha hb
   have hc := dd_ d _ 0 ha
   have hc2 := dd_ d _ 0 hb
   obtain ⟨a1, a2⟩ := n2_ d _ (max 2 (bl_ e.s)) (nx + 1) ha (by omega)
   obtain ⟨b1, b2⟩ := n2_ d _ (bl_ e.s + 1) (nx + 1 + cnt (e.kids.getD 0 E0)) hb (by omega)
   rw [hu_ k hl, agq_, ok_, ib_, if_pos hn0, le_ k hl]
   refine ⟨?_, fun i hi => ?_⟩
   ·rw [List.nodup_append]
    refine ⟨a1, List.nodup_cons.2 ⟨fun hm => by have := b2 _ hm; omega, b1⟩, fun x hx y hy => ?_⟩
    have q1 := a2 x hx
    rcases List.mem_cons.1 hy with rfl | hy
    ·omega
    ·have q2 := b2 y hy; omega
   ·rcases List.mem_append.1 hi with hi | hi
    ·have := a2 i hi; omega
    ·rcases List.mem_cons.1 hi with rfl | hi
     ·omega
     ·have := b2 i hi; omega
  ·obtain ⟨k, hn, ho, hl, ha⟩ := h1
   rw [e1] at ha
   rw [m0_ k hl, ok_, sz_ k hl]
   have := n2_ d _ 4 nx ha hn0
   have e2 : ids [([97, 115], -1), (e.s, -1)] = [] := by simp [ids]
   rw [e2, List.append_nil]; exact this
def fu_ : Int → Wd → Int → Int
 | _, [], _ => -1
 | c, w :: r, i => if w.2 = i then c else fu_ (c + w.1.length + 1) r i
def gp_ (l : Wd) : Int := (wid (l.map (·.1)) : Int)
theorem rr_ (w : Str × Int) (l : Wd) : gp_ (w :: l) = w.1.length + 1 + gp_ l := by simp [gp_, ij_]
theorem lw_ (a b : Wd) : gp_ (a ++ b) = gp_ a + gp_ b := by simp [gp_, iq_]
theorem lt_ : gp_ [] = 0 := rfl
theorem os_ (l : Wd) : 0 ≤ gp_ l := by unfold gp_; omega
theorem ml_ (i : Int) : ∀ (a b : Wd) (c : Int), fu_ c (a ++ b) i = if i ∈ a.map (·.2) then fu_ c a i else fu_ (c + gp_ a) b i
 | [], b, c => by simp [lt_]
 | w :: a, b, c => by
  have ih := ml_ i a b (c + w.1.length + 1)
  simp only [List.cons_append, fu_, List.map_cons, List.mem_cons]
  by_cases h : w.2 = i
  ·simp [h]
  ·have h' : ¬ i = w.2 := fun e => h e.symm
   simp only [h, if_false, h', false_or, ih, rr_]
   split
   ·rfl
   ·congr 1; omega
theorem mj_ (i : Int) (d : Int) : ∀ (a : Wd) (c : Int), i ∈ a.map (·.2) → fu_ (c + d) a i = fu_ c a i + d
 | [], c, h => by simp at h
 | w :: a, c, h => by
  simp only [fu_]
  by_cases e : w.2 = i
  ·rw [if_pos e, if_pos e]
  ·rw [if_neg e, if_neg e]
   simp only [List.map_cons, List.mem_cons] at h
   have := mj_ i d a (c + w.1.length + 1) (h.resolve_left fun q => e q.symm)
   rw [← this]; congr 1; omega
theorem su_ {l : Wd} {i : Int} : i ∈ ids l ↔ i ∈ l.map (·.2) ∧ 0 ≤ i := by simp [ids]
theorem lq_ : ∀ {l : Wd} {j : Nat} {w : Str × Int} (c : Int), (ids l).Nodup → l[j]? = some w → 0 ≤ w.2 → (ct_ c (l.map (·.1)))[j]? = some (fu_ c l w.2)
 | [], j, w, c, _, h, _ => by simp at h
 | v :: l, 0, w, c, _, h, _ => by
  simp only [List.getElem?_cons_zero, Option.some.injEq] at h; subst h
  simp [ct_, fu_]
 | v :: l, j + 1, w, c, hn, h, h0 => by
  simp only [List.getElem?_cons_succ] at h
  have hm : w.2 ∈ ids l := su_.2 ⟨List.mem_map.2 ⟨w, List.mem_of_getElem? h, rfl⟩, h0⟩
  rw [ib_] at hn
  have hne : v.2 ≠ w.2 := fun e => by
   rw [if_pos (by omega)] at hn
   exact (List.nodup_cons.1 hn).1 (by rw [e]; exact hm)
  have hn' : (ids l).Nodup := by
   split at hn
   ·exact (List.nodup_cons.1 hn).2
   ·exact hn
  simp only [List.map_cons, ct_, List.getElem?_cons_succ, fu_, if_neg hne]
  exact lq_ _ hn' h h0
theorem rb_ : ∀ (M : List (Int × Int)) (k v i : Int), jm_ (j9_ M k v) i = if i = k then some v else jm_ M i
 | [], k, v, i => by simp [j9_, jm_]
 | (a, b) :: M, k, v, i => by
  have ih := rb_ M k v i
  simp only [j9_]
  by_cases h : k = a
  ·subst h
   simp only [if_true, jm_]
   split <;> rfl
  ·rw [if_neg h]
   simp only [jm_, ih]
   by_cases e : i = a
   ·rw [if_pos e, if_neg (fun q => h (q.symm.trans e)), if_pos e]
   ·rw [if_neg e, if_neg e]
def nq_ (l : Wd) (k : Nat) : List (Int × Int) := (((l.map (·.2)).zip (ct_ 0 (l.map (·.1)))).take k).foldl (fun M p => j9_ M p.1 p.2) []
theorem ba_ : ∀ (c : Int) (l : List Str), (ct_ c l).length = l.length
 | _, [] => rfl
 | c, w :: r => by simp only [ct_, T7_, ba_]
theorem abm_ (l : Wd) : nq_ l 0 = [] := rfl
theorem abi_ {l : Wd} {k : Nat} (h : k < l.length) : nq_ l (k + 1) = j9_ (nq_ l k) (l.getD k ([], 0)).2 ((ct_ 0 (l.map (·.1))).getD k 0) := by
 have h2 : k < ((l.map (·.2)).zip (ct_ 0 (l.map (·.1)))).length := by rw [List.length_zip, List.length_map, ba_, List.length_map]; omega
 have h3 : k < (ct_ 0 (l.map (·.1))).length := by rw [ba_, List.length_map]; exact h
 unfold nq_
 rw [List.take_add_one, T6_ h2, List.foldl_append]
 simp [T8_, T6_ h, T6_ h3]
theorem q9_ (i v : Int) : ∀ (Z M : List (Int × Int)), (∀ c, (i, c) ∈ Z → c = v) → ((i, v) ∈ Z ∨ jm_ M i = some v) → jm_ (Z.foldl (fun M p => j9_ M p.1 p.2) M) i = some v
 | [], M, _, h => by simpa using h
 | (a, b) :: Z, M, hu, h => by
  refine q9_ i v Z _ (fun c hc => hu c (List.mem_cons_of_mem _ hc)) ?_
  rw [rb_]
  by_cases e : i = a
  ·subst e
   have := hu b List.mem_cons_self
   subst this
   right; simp
  ·rw [if_neg e]
   rcases h with h | h
   ·rcases List.mem_cons.1 h with h | h
    ·simp only [Prod.mk.injEq] at h; exact absurd h.1 e
    ·exact .inl h
   ·exact .inr h
theorem af3_ {l : Wd} (hn : (ids l).Nodup) {i : Int} (hi : i ∈ ids l) : jm_ (nq_ l l.length) i = some (fu_ 0 l i) := by
 obtain ⟨hm, h0⟩ := su_.1 hi
 obtain ⟨w, hw, hwi⟩ := List.mem_map.1 hm
 have hz : ∀ c, (i, c) ∈ (l.map (·.2)).zip (ct_ 0 (l.map (·.1))) → c = fu_ 0 l i := fun c hc => by
  obtain ⟨j, hj⟩ := List.mem_iff_getElem?.1 hc
  rw [List.getElem?_zip_eq_some] at hj
  obtain ⟨j1, j2⟩ := hj
  rw [List.getElem?_map] at j1
  obtain ⟨u, u1, u2⟩ := Option.map_eq_some_iff.1 j1
  have := lq_ 0 hn u1 (by rw [u2]; exact h0)
  rw [j2, u2] at this
  exact Option.some.inj this
 unfold nq_
 rw [T1_ (by rw [List.length_zip, List.length_map]; omega)]
 refine q9_ i _ _ _ hz (.inl ?_)
 obtain ⟨j, hj⟩ := List.mem_iff_getElem?.1 hw
 have := lq_ 0 hn hj (by rw [hwi]; exact h0)
 rw [hwi] at this
 refine List.mem_iff_getElem?.2 ⟨j, ?_⟩
 rw [List.getElem?_zip_eq_some]
 exact ⟨by rw [List.getElem?_map, hj]; simp [hwi], this⟩
theorem m4_ : ∀ (l : List Str) (c : Int) {k : Nat}, k < l.length → (ct_ c l).getD k 0 = c + wid (l.take k)
 | [], c, k, h => by simp at h
 | w :: r, c, 0, _ => by simp [ct_, s7_]
 | w :: r, c, k + 1, h => by
  have := m4_ r (c + w.length + 1) (k := k) (by simpa using h)
  simp only [ct_, List.getD_cons_succ, List.take_succ_cons, ij_, this]
  omega
theorem afq_ {l : List Str} {k : Nat} (h : k < l.length) : wid (l.take (k + 1)) = wid (l.take k) + ((l.getD k []).length + 1) := by
 rw [List.take_add_one, T6_ h, iq_, T8_, T6_ h]; rfl
theorem ahd_ (l : List Str) (k : Nat) : wid (l.take k) ≤ wid l := by
 conv => rhs; rw [← List.take_append_drop k l]
 rw [iq_]; omega
theorem Trc.lt {L : Wd} : ∀ {B C : Wd}, Trc L B C → ∀ p ∈ C, -1 ≤ p.2 ∧ p.2 < (L.length : Int)
 | [], [], _ => by simp
 | [], _ :: _, h => by simp [Trc] at h
 | _ :: _, [], h => by simp [Trc] at h
 | w :: B, c :: C, h => by
  simp only [Trc] at h
  intro p hp
  rcases List.mem_cons.1 hp with rfl | hp
  ·rcases h.2.1 with ⟨_, h2⟩ | ⟨_, h2, h3⟩
   ·omega
   ·have := (List.getElem?_eq_some_iff.1 h3).1; omega
  ·exact h.2.2.lt p hp
theorem Trc.len {L : Wd} {B C : Wd} (h : Trc L B C) : C.length = B.length := by
 have := congrArg List.length h.fst; simpa using this
theorem ie_ (d : Nat) (e : E) (h : form e d = true) (hm : many e d ≤ 1000) (m : Int) : (wds e m).length ≤ 3000 := by
 have := dd_ d e m h; omega
theorem lc_ {d : Nat} {e : E} {t b : Int} (h : form e d = true) (hm : many e d ≤ 1000) (ht : t ≤ 4) (hb : b ≤ 4) : (l8 e t b).length ≤ 3000 ∧ ∀ p ∈ l8 e t b, -1 ≤ p.2 ∧ p.2 ≤ 3000 := by
 have T := i0_ d e t b 0 h ht hb (by decide)
 have h1 := fn_ d e h
 have q1 := ie_ d e h hm t
 have q2 := ie_ d (bare e) h1.1 (by omega) b
 refine ⟨by rw [T.len, na_]; exact q2, fun p hp => ?_⟩
 have := T.lt p hp
 rw [na_] at this
 omega
def l8c (e : E) : Wd :=
 if e.kind = 1 then [(Go.Lib.decDigits e.n.toNat, 0)]
 else if e.kind = 2 then [(e.s, 0)]
 else l8 (e.kids.getD 0 E0) (max 2 (bl_ e.s)) (max 2 (bl_ e.s)) ++ (e.s, ((wds (e.kids.getD 0 E0) (max 2 (bl_ e.s))).length : Int)) :: shf ((wds (e.kids.getD 0 E0) (max 2 (bl_ e.s))).length + 1) (l8 (e.kids.getD 1 E0) (bl_ e.s + 1) (bl_ e.s + 1))
theorem ah1_ {e : E} (hk : e.kind = 1 ∨ e.kind = 2 ∨ e.kind = 3 ∧ e.kids.length = 2) (t b : Int) : l8 e t b = brk (decide (e.kind = 3 ∧ bl_ e.s < b)) (shf (if e.kind = 3 ∧ bl_ e.s < t then 1 else 0) (l8c e)) := by
 rcases hk with hk | hk | ⟨hk, hl⟩
 ·rw [afa_ hk]; simp [l8c, hk, lg_, brk]
 ·rw [y9_ hk]; simp [l8c, hk, lg_, brk]
 ·rw [ab5_ hk hl]; simp [l8c, hk]
def l8L (s : Sl) : Wd :=
 if s.kind = 1 then (s.name, 1) :: (wEq, 4) :: shf 5 (l8 s.expr 1 1)
 else if s.kind = 2 then (fc_, 0) :: shf 1 (l8 s.expr 1 1)
 else if s.kind = 3 then ((wIf, 0) :: shf 1 (l8 s.expr 1 1) ++ [(hm_, -1), (fc_, ((wds s.expr 1).length : Int) + 1)]) ++ shf ((wds s.expr 1).length + 2) (l8 s.thn 1 1)
 else []
def i9_ (s : Sl) : List Int := (l8L s).map fun c => if c.2 < 0 then -1 else (ct_ 0 (sw' s)).getD c.2.toNat 0
end
end Go.Proofs.YtcigkafioinfoaaGreatDoor
