/- The program's reader of what is reckoned, as a plain function; it reads back what is written. Conditions: none. -/
import Derived.Test.YtcigkafioinfoaaGreatDoorKc
import Derived.Test.YtcigkafioinfoaaGreatDoorKb
set_option linter.unusedVariables false
set_option linter.unusedSimpArgs false
namespace Go.Proofs.YtcigkafioinfoaaGreatDoor
section
structure RS where
 left : List Str
 bad : Bool
 deep : Int
def wAs : Str := [97, 115]
def yd_ (s : RS) : RS := match s.left with | [] => { s with bad := true } | _ :: r => { s with left := r }
def asL : List Str → E → Int → E × RS
 | [], e, d => (e, ⟨[], false, d⟩)
 | [w], e, d => if w = wAs then (.mk 4 0 [] [e], ⟨[], true, d⟩) else (e, ⟨[w], false, d⟩)
 | w :: t :: r, e, d => if w = wAs then asL r (.mk 4 0 t [e]) d else (e, ⟨w :: t :: r, false, d⟩)
def asR (s : RS) (e : E) : E × RS := if s.bad then (e, s) else asL s.left e s.deep
theorem po_ : ∀ (l : List Str) (e : E) (d : Int), (asL l e d).2.left.length ≤ l.length ∧ (asL l e d).2.deep = d
 | [], e, d => by simp [asL]
 | [w], e, d => by simp only [asL]; split <;> simp
 | w :: t :: r, e, d => by
  simp only [asL]
  split
  ·have := po_ r (.mk 4 0 t [e]) d; simp only [T7_]; omega
  ·simp
theorem abo_ (s : RS) (e : E) : (asR s e).2.left.length ≤ s.left.length := by
 unfold asR; split
 ·exact Nat.le_refl _
 ·exact (po_ s.left e s.deep).1
theorem ze_ (s : RS) (e : E) : (asR s e).2.deep = s.deep := by
 unfold asR; split
 ·rfl
 ·exact (po_ s.left e s.deep).2
def eff (e : E) (must : Int) : Int := if e.kind = 3 ∧ ¬ bo_ e.s < must then bo_ e.s else 4
end
section
end
section
def aea_ : Str := [43, 45, 42, 60, 40, 41, 58, 61]
def ch_ : Int → List Str → List Int
 | _, [] => []
 | c, w :: r => c :: ch_ (c + w.length + 1) r
end
section
end
section
mutual
theorem nt_ : ∀ (e : E) (d k : Nat), form e d = true → form e ((d + k : Nat) : Int) = true ∧ many e ((d + k : Nat) : Int) = many e d
 | .mk kd n s kids, d, k, h => by
  have hd : 1 ≤ d := by have := (bt_ h).1; omega
  obtain ⟨d, rfl⟩ : ∃ d', d = d' + 1 := ⟨d - 1, by omega⟩
  have e1 : ((d + 1 : Nat) : Int) - 1 = (d : Int) := by omega
  have e2 : ((d + 1 + k : Nat) : Int) - 1 = ((d + k : Nat) : Int) := by omega
  simp only [form, T5_, T3_] at h ⊢
  rw [e1] at h
  have := ls_ kids d k h.2
  rw [e2]
  refine ⟨⟨⟨by omega, h.1.2⟩, this.1⟩, ?_⟩
  simp only [many]
  rw [if_pos (by omega), if_pos (by omega), e1, e2, this.2]
theorem ls_ : ∀ (l : List E) (d k : Nat), c1_ l d = true → c1_ l ((d + k : Nat) : Int) = true ∧ cq_ l ((d + k : Nat) : Int) = cq_ l d
 | [], d, k, _ => by simp [c1_, cq_]
 | e :: r, d, k, h => by
  simp only [c1_, T5_] at h ⊢
  have h1 := nt_ e d k h.1
  have h2 := ls_ r d k h.2
  simp only [cq_]
  exact ⟨⟨h1.1, h2.1⟩, by rw [h1.2, h2.2]⟩
end
def wid (l : List Str) : Nat := (l.map fun s => s.length + 1).sum
theorem ue_ : wid [] = 0 := rfl
theorem l0_ (s : Str) (l : List Str) : wid (s :: l) = s.length + 1 + wid l := rfl
theorem o6_ (a b : List Str) : wid (a ++ b) = wid a + wid b := by simp [wid, List.sum_append]
theorem aag_ (l : List Str) : wid l = (l.map List.length).sum + l.length := by
 induction l with
 | nil => rfl
 | cons s l ih => rw [l0_, ih, List.map_cons, List.sum_cons, T7_]; omega
theorem E.ext4 {e : E} {k n : Int} {s : Str} {l : List E} (h1 : e.kind = k) (h2 : e.n = n) (h3 : e.s = s) (h4 : e.kids = l) : e = .mk k n s l := by cases e; simp only [E.kind, E.n, E.s, E.kids] at *; subst h1 h2 h3 h4; rfl
theorem fh_ {e : E} (k : e.kind ≠ 4) (hl : e.kids = []) : bare e = e := by
 rw [jo_ k, hl]; simp only [de_]; exact (E.ext4 rfl rfl rfl hl).symm
theorem lx_ {e : E} (k : e.kind = 3) (hl : e.kids.length = 2) : bare e = .mk 3 e.n e.s [bare (e.kids.getD 0 E0), bare (e.kids.getD 1 E0)] := by
 rw [jo_ (by omega), k]; conv => lhs; rw [my_ hl]
 simp only [de_]
theorem pf_ {e : E} (k : e.kind = 4) (hl : e.kids.length = 1) : bare e = bare (e.kids.getD 0 E0) := nu_ k (by omega)
theorem ek_ : ∀ (d : Nat) (e : E), form e d = true → form (bare e) d = true ∧ many (bare e) d ≤ many e d
 | 0, e, h => by have := (bt_ h).1; omega
 | d + 1, e, h => by
  have e1 : ((d + 1 : Nat) : Int) - 1 = (d : Int) := by omega
  obtain ⟨h0, h1 | h1 | h1 | h1⟩ := bt_ h
  ·rw [fh_ (by omega) h1.2.2.2.2]; exact ⟨h, Int.le_refl _⟩
  ·rw [fh_ (by omega) h1.2.2.2]; exact ⟨h, Int.le_refl _⟩
  ·obtain ⟨k, hn, ho, hl, ha, hb⟩ := h1
   rw [e1] at ha hb
   obtain ⟨a1, a2⟩ := ek_ d _ ha
   obtain ⟨b1, b2⟩ := ek_ d _ hb
   rw [lx_ k hl, gu_ h0 hl, e1]
   refine ⟨?_, ?_⟩
   ·simp only [form, c1_, e1, a1, b1, Bool.and_true, T5_, T3_]
    exact ⟨h0, by simp [shape, hn, ho]⟩
   ·rw [gu_ (e := .mk 3 e.n e.s [_, _]) h0 rfl, e1]
    show 1 + many (bare (e.kids.getD 0 E0)) d + many (bare (e.kids.getD 1 E0)) d ≤ _
    omega
  ·obtain ⟨k, hn, ho, hl, ha⟩ := h1
   rw [e1] at ha
   obtain ⟨a1, a2⟩ := ek_ d _ ha
   rw [pf_ k hl, hq_ h0 hl, e1]
   obtain ⟨m1, m2⟩ := nt_ _ d 1 a1
   exact ⟨m1, by rw [m2]; omega⟩
theorem lo_ {e : E} (h : eok e = true) : pe (bare e) = true := by
 have h1 := ek_ 5 e (b1_ h)
 have h2 := iv_ h
 simp only [pe, eok, T5_, T3_]
 exact ⟨⟨h1.1, Int.le_trans h1.2 h2⟩, hm_ e (hl_ h)⟩
def offW (w : Str) : Prop := w ≠ wAs ∧ w ≠ [105, 110, 116] ∧ w ≠ [98, 111, 111, 108] ∧ w ≠ vh_ ∧ w ≠ g5_ ∧ w ≠ g3_
instance (w : Str) : Decidable (offW w) := by unfold offW; exact inferInstance
theorem hn_ {s : Sl} (h : cs_ s = true) : cz_ (bof s) = true := by
 unfold cs_ at h
 by_cases k0 : s.kind = 0
 ·simp [k0, en_] at h; simp [cz_, bof, k0, h, lu_]
 by_cases k1 : s.kind = 1
 ·simp [k1, en_] at h; simp [cz_, bof, k1, h, lu_, lo_ h.1.2]
 by_cases k2 : s.kind = 2
 ·simp [k2, en_] at h; simp [cz_, bof, k2, h, lu_, lo_ h.1.2]
 by_cases k3 : s.kind = 3
 ·simp [k3] at h; simp [cz_, bof, k3, h, lo_ h.1.2, lo_ h.2]
 ·simp [k0, k1, k2, k3] at h
end
section
def shf (k : Int) (l : Wd) : Wd := l.map fun p => if 0 ≤ p.2 then (p.1, p.2 + k) else p
theorem aal_ (k : Int) (a b : Wd) : shf k (a ++ b) = shf k a ++ shf k b := by simp [shf]
theorem av_ (k : Int) (a : Wd) : (shf k a).length = a.length := by simp [shf]
theorem jb_ (a : Wd) : shf 0 a = a := by
 unfold shf
 conv => rhs; rw [← List.map_id a]
 congr 1; funext p
 split <;> simp
theorem pc_ (k : Int) (a : Wd) : (shf k a).map (·.1) = a.map (·.1) := by
 unfold shf; rw [List.map_map]; congr 1; funext p; simp only [Function.comp]; split <;> rfl
mutual
def l8 : E → Int → Int → Wd
 | .mk k n s kids, t, b =>
  if k = 1 then [(Go.Lib.decDigits n.toNat, 0)]
  else if k = 2 then [(s, 0)]
  else if k = 3 then brk (decide (bo_ s < b)) (shf (if bo_ s < t then 1 else 0) (l8A kids (max 2 (bo_ s)) (max 2 (bo_ s)) ++ (s, wlA kids (max 2 (bo_ s))) :: shf (wlA kids (max 2 (bo_ s)) + 1) (l8B kids (bo_ s + 1))))
  else if k = 4 then l8A kids 4 b
  else []
def l8A : List E → Int → Int → Wd
 | [], _, _ => []
 | e :: _, t, b => l8 e t b
def l8B : List E → Int → Wd
 | [], _ => []
 | _ :: r, t => l8A r t t
def wlA : List E → Int → Int
 | [], _ => 0
 | e :: _, t => (wds e t).length
end
theorem wv_ {e : E} (h : e.kind = 1) (t b : Int) : l8 e t b = [(Go.Lib.decDigits e.n.toNat, 0)] := by
 cases e; simp only [E.kind] at h; subst h; simp [l8, E.n]
theorem t5_ {e : E} (h : e.kind = 2) (t b : Int) : l8 e t b = [(e.s, 0)] := by
 cases e; simp only [E.kind] at h; subst h; simp [l8, E.s]
theorem xl_ {e : E} (h : e.kind = 3) (hl : e.kids.length = 2) (t b : Int) : l8 e t b = brk (decide (bo_ e.s < b)) (shf (if bo_ e.s < t then 1 else 0) (l8 (e.kids.getD 0 E0) (max 2 (bo_ e.s)) (max 2 (bo_ e.s)) ++ (e.s, ((wds (e.kids.getD 0 E0) (max 2 (bo_ e.s))).length : Int)) :: shf ((wds (e.kids.getD 0 E0) (max 2 (bo_ e.s))).length + 1) (l8 (e.kids.getD 1 E0) (bo_ e.s + 1) (bo_ e.s + 1)))) := by
 cases e with
 | mk k n s kids =>
  simp only [E.kind] at h; subst h
  simp only [E.kids] at hl
  match kids, hl with
  | [x, y], _ => simp [l8, l8A, l8B, wlA, E.s, E.kids]; rfl
theorem acb_ {e : E} (h : e.kind = 4) (hl : e.kids.length = 1) (t b : Int) : l8 e t b = l8 (e.kids.getD 0 E0) 4 b := by
 cases e with
 | mk k n s kids =>
  simp only [E.kind] at h; subst h
  simp only [E.kids] at hl
  match kids, hl with
  | [a], _ => simp [l8, l8A, E.kids]
def Trc (L : Wd) : Wd → Wd → Prop
 | [], [] => True
 | w :: B, c :: C => c.1 = w.1 ∧ ((w.2 = -1 ∧ c.2 = -1) ∨ (0 ≤ w.2 ∧ 0 ≤ c.2 ∧ L[c.2.toNat]? = some w)) ∧ Trc L B C
 | _, _ => False
theorem Trc.app {L : Wd} : ∀ {B C B' C' : Wd}, Trc L B C → Trc L B' C' → Trc L (B ++ B') (C ++ C')
 | [], [], _, _, _, h => h
 | [], _ :: _, _, _, h, _ => by simp [Trc] at h
 | _ :: _, [], _, _, h, _ => by simp [Trc] at h
 | w :: B, c :: C, B', C', h, k => by
  simp only [Trc] at h
  simp only [List.cons_append, Trc]
  exact ⟨h.1, h.2.1, h.2.2.app k⟩
theorem Trc.shf {L P : Wd} : ∀ {B C : Wd}, Trc L B C → Trc (P ++ L) B (Go.Proofs.YtcigkafioinfoaaGreatDoor.shf P.length C)
 | [], [], _ => by simp [Go.Proofs.YtcigkafioinfoaaGreatDoor.shf, Trc]
 | [], _ :: _, h => by simp [Trc] at h
 | _ :: _, [], h => by simp [Trc] at h
 | w :: B, c :: C, h => by
  simp only [Trc] at h
  have ih := h.2.2.shf (P := P)
  simp only [Go.Proofs.YtcigkafioinfoaaGreatDoor.shf, List.map_cons, Trc] at ih ⊢
  rcases h.2.1 with ⟨h1, h2⟩ | ⟨h1, h2, h3⟩
  ·rw [if_neg (by omega)]; exact ⟨h.1, .inl ⟨h1, h2⟩, ih⟩
  ·rw [if_pos h2]
   refine ⟨h.1, .inr ⟨h1, by dsimp only; omega, ?_⟩, ih⟩
   dsimp only
   rw [show (c.2 + (P.length : Int)).toNat = P.length + c.2.toNat by omega, List.getElem?_append_right (by omega), Nat.add_sub_cancel_left]
   exact h3
theorem Trc.right {L Q : Wd} : ∀ {B C : Wd}, Trc L B C → Trc (L ++ Q) B C
 | [], [], _ => by simp [Trc]
 | [], _ :: _, h => by simp [Trc] at h
 | _ :: _, [], h => by simp [Trc] at h
 | w :: B, c :: C, h => by
  simp only [Trc] at h ⊢
  refine ⟨h.1, ?_, h.2.2.right⟩
  rcases h.2.1 with h1 | ⟨h1, h2, h3⟩
  ·exact .inl h1
  ·exact .inr ⟨h1, h2, by rw [List.getElem?_append_left (List.getElem?_eq_some_iff.1 h3).1]; exact h3⟩
theorem Trc.brk {L B C : Wd} (b : Bool) (h : Trc L B C) : Trc L (Go.Proofs.YtcigkafioinfoaaGreatDoor.brk b B) (Go.Proofs.YtcigkafioinfoaaGreatDoor.brk b C) := by
 cases b with
 | false => exact h
 | true =>
  simp only [Go.Proofs.YtcigkafioinfoaaGreatDoor.brk, if_true, Trc]
  refine ⟨trivial, .inl ⟨trivial, trivial⟩, h.app ?_⟩
  simp [Trc]
theorem re_ {e : E} (h : e.kind = 1 ∨ e.kind = 2) (hl : e.kids = []) : cnt e = 1 := by
 cases e; simp only [E.kind, E.kids] at h hl; subst hl; rcases h with h | h <;> subst h <;> simp [cnt, m8_]
theorem hc_ : ∀ (d : Nat) (e : E), form e d = true → cnt (bare e) = cnt e
 | 0, e, h => by have := (bt_ h).1; omega
 | d + 1, e, h => by
  have e1 : ((d + 1 : Nat) : Int) - 1 = (d : Int) := by omega
  obtain ⟨h0, h1 | h1 | h1 | h1⟩ := bt_ h
  ·rw [fh_ (by omega) h1.2.2.2.2]
  ·rw [fh_ (by omega) h1.2.2.2]
  ·obtain ⟨k, hn, ho, hl, ha, hb⟩ := h1
   rw [e1] at ha hb
   rw [lx_ k hl, io_ (e := .mk 3 e.n e.s [_, _]) rfl rfl, io_ k hl]
   show 1 + cnt (bare (e.kids.getD 0 E0)) + cnt (bare (e.kids.getD 1 E0)) = _
   rw [hc_ d _ ha, hc_ d _ hb]
  ·obtain ⟨k, hn, ho, hl, ha⟩ := h1
   rw [e1] at ha
   rw [pf_ k hl, om_ k hl, hc_ d _ ha]
theorem lg_ {e : E} (h : e.kind = 1) (must nx : Int) : src e must nx = [(Go.Lib.decDigits e.n.toNat, nx)] := by
 cases e; simp only [E.kind] at h; subst h; simp [src, E.n]
theorem ip_ {e : E} (h : e.kind = 2) (must nx : Int) : src e must nx = [(e.s, nx)] := by
 cases e; simp only [E.kind] at h; subst h; simp [src, E.s]
theorem jq_ (e : E) (must nx : Int) : (src e must nx).length = (wds e must).length := by
 rw [← dz_ e must nx, List.length_map]
theorem g0_ : ∀ (d : Nat) (e : E) (t b nx : Int), form e d = true → t ≤ 4 → b ≤ 4 → 0 ≤ nx → Trc (src e t nx) (src (bare e) b nx) (l8 e t b)
 | 0, e, t, b, nx, h, _, _, _ => by have := (bt_ h).1; omega
 | d + 1, e, t, b, nx, h, ht, hb4, hn0 => by
  have e1 : ((d + 1 : Nat) : Int) - 1 = (d : Int) := by omega
  obtain ⟨h0, h1 | h1 | h1 | h1⟩ := bt_ h
  ·rw [fh_ (by omega) h1.2.2.2.2, lg_ h1.1, lg_ h1.1, wv_ h1.1]
   simp [Trc, hn0]
  ·rw [fh_ (by omega) h1.2.2.2, ip_ h1.1, ip_ h1.1, t5_ h1.1]
   simp [Trc, hn0]
  ·obtain ⟨k, hn, ho, hl, ha, hb⟩ := h1
   rw [e1] at ha hb
   have htt := d0_ ho
   have A := g0_ d _ (max 2 (bo_ e.s)) (max 2 (bo_ e.s)) (nx + 1) ha (by omega) (by omega) (by omega)
   have hc := cx_ d _ 0 ha
   have B := g0_ d _ (bo_ e.s + 1) (bo_ e.s + 1) (nx + 1 + cnt (e.kids.getD 0 E0)) hb (by omega) (by omega) (by omega)
   rw [lx_ k hl, f6_ k hl, f6_ (e := .mk 3 e.n e.s [_, _]) rfl rfl, xl_ k hl]
   refine Trc.brk _ ?_
   show Trc _ (src (bare (e.kids.getD 0 E0)) (max 2 (bo_ e.s)) (nx + 1) ++ (e.s, nx) :: src (bare (e.kids.getD 1 E0)) (bo_ e.s + 1) (nx + 1 + cnt (bare (e.kids.getD 0 E0)))) _
   rw [hc_ d _ ha]
   have core : Trc (src (e.kids.getD 0 E0) (max 2 (bo_ e.s)) (nx + 1) ++ (e.s, nx) :: src (e.kids.getD 1 E0) (bo_ e.s + 1) (nx + 1 + cnt (e.kids.getD 0 E0)))
     (src (bare (e.kids.getD 0 E0)) (max 2 (bo_ e.s)) (nx + 1) ++ (e.s, nx) :: src (bare (e.kids.getD 1 E0)) (bo_ e.s + 1) (nx + 1 + cnt (e.kids.getD 0 E0)))
     (l8 (e.kids.getD 0 E0) (max 2 (bo_ e.s)) (max 2 (bo_ e.s)) ++ (e.s, ((wds (e.kids.getD 0 E0) (max 2 (bo_ e.s))).length : Int)) :: shf ((wds (e.kids.getD 0 E0) (max 2 (bo_ e.s))).length + 1) (l8 (e.kids.getD 1 E0) (bo_ e.s + 1) (bo_ e.s + 1))) := by
    refine A.right.app ?_
    have B2 := B.shf (P := src (e.kids.getD 0 E0) (max 2 (bo_ e.s)) (nx + 1) ++ [(e.s, nx)])
    rw [T2_, jq_, List.length_singleton, List.append_assoc, List.singleton_append] at B2
    simp only [Trc]
    refine ⟨trivial, .inr ⟨hn0, by omega, ?_⟩, by simpa using B2⟩
    rw [Int.toNat_natCast, ← jq_ _ _ (nx + 1), List.getElem?_append_right (Nat.le_refl _), Nat.sub_self]; rfl
   cases hlt : decide (bo_ e.s < t) with
   | false =>
    simp only [T4_] at hlt
    rw [if_neg hlt, jb_]; exact core
   | true =>
    simp only [T3_] at hlt
    rw [if_pos hlt]
    have := (core.shf (P := [([40], -1)])).right (Q := [([41], -1)])
    simpa [brk] using this
  ·obtain ⟨k, hn, ho, hl, ha⟩ := h1
   rw [e1] at ha
   rw [pf_ k hl, j6_ k hl, acb_ k hl]
   exact (g0_ d _ 4 b nx ha (by omega) hb4 hn0).right
theorem Trc.fst {L : Wd} : ∀ {B C : Wd}, Trc L B C → C.map (·.1) = B.map (·.1)
 | [], [], _ => rfl
 | [], _ :: _, h => by simp [Trc] at h
 | _ :: _, [], h => by simp [Trc] at h
 | w :: B, c :: C, h => by
  simp only [Trc] at h
  simp only [List.map_cons, h.1, h.2.2.fst]
def ids (l : Wd) : List Int := (l.map (·.2)).filter fun k => decide (0 ≤ k)
theorem ll_ (a b : Wd) : ids (a ++ b) = ids a ++ ids b := by simp [ids]
theorem gb_ (p : Str × Int) (b : Wd) : ids (p :: b) = if 0 ≤ p.2 then p.2 :: ids b else ids b := by
 simp only [ids, List.map_cons, List.filter_cons, T3_]
theorem tb_ : ids [] = [] := rfl
theorem abb_ (b : Bool) (l : Wd) : ids (brk b l) = ids l := by
 cases b <;> simp [brk, ll_, gb_, tb_]
theorem k8_ : ∀ (d : Nat) (e : E) (must nx : Int), form e d = true → 0 ≤ nx → (ids (src e must nx)).Nodup ∧ ∀ i ∈ ids (src e must nx), nx ≤ i ∧ i < nx + cnt e
 | 0, e, must, nx, h, _ => by have := (bt_ h).1; omega
 | d + 1, e, must, nx, h, hn0 => by
  have e1 : ((d + 1 : Nat) : Int) - 1 = (d : Int) := by omega
  obtain ⟨h0, h1 | h1 | h1 | h1⟩ := bt_ h
  ·rw [lg_ h1.1, re_ (.inl h1.1) h1.2.2.2.2]; simp [ids, hn0]; omega
  ·rw [ip_ h1.1, re_ (.inr h1.1) h1.2.2.2]; simp [ids, hn0]; omega
  ·obtain ⟨k, hn, ho, hl, ha, hb⟩ := h1
   rw [e1] at ha hb
   have hc := cx_ d _ 0 ha
   have hc2 := cx_ d _ 0 hb
   obtain ⟨a1, a2⟩ := k8_ d _ (max 2 (bo_ e.s)) (nx + 1) ha (by omega)
   obtain ⟨b1, b2⟩ := k8_ d _ (bo_ e.s + 1) (nx + 1 + cnt (e.kids.getD 0 E0)) hb (by omega)
   rw [f6_ k hl, abb_, ll_, gb_, if_pos hn0, io_ k hl]
   refine ⟨?_, fun i hi => ?_⟩
   ·rw [List.nodup_append]
    refine ⟨a1, List.nodup_cons.2 ⟨fun hm => by have := b2 _ hm; omega, b1⟩, fun x hx y hy => ?_⟩
    have q1 := a2 x hx
    rcases List.mem_cons.1 hy with rfl | hy
    ·omega
    ·have q2 := b2 y hy; omega
   ·rcases List.mem_append.1 hi with hi | hi
    ·have := a2 i hi; omega
    ·rcases List.mem_cons.1 hi with rfl | hi
     ·omega
     ·have := b2 i hi; omega
  ·obtain ⟨k, hn, ho, hl, ha⟩ := h1
   rw [e1] at ha
   rw [j6_ k hl, ll_, om_ k hl]
   have := k8_ d _ 4 nx ha hn0
   have e2 : ids [([97, 115], -1), (e.s, -1)] = [] := by simp [ids]
   rw [e2, List.append_nil]; exact this
def d7_ : Int → Wd → Int → Int
 | _, [], _ => -1
 | c, w :: r, i => if w.2 = i then c else d7_ (c + w.1.length + 1) r i
def e4_ (l : Wd) : Int := (wid (l.map (·.1)) : Int)
theorem n0_ (w : Str × Int) (l : Wd) : e4_ (w :: l) = w.1.length + 1 + e4_ l := by simp [e4_, l0_]
theorem je_ (a b : Wd) : e4_ (a ++ b) = e4_ a + e4_ b := by simp [e4_, o6_]
theorem i3_ : e4_ [] = 0 := rfl
theorem m7_ (l : Wd) : 0 ≤ e4_ l := by unfold e4_; omega
theorem jx_ (i : Int) : ∀ (a b : Wd) (c : Int), d7_ c (a ++ b) i = if i ∈ a.map (·.2) then d7_ c a i else d7_ (c + e4_ a) b i
 | [], b, c => by simp [i3_]
 | w :: a, b, c => by
  have ih := jx_ i a b (c + w.1.length + 1)
  simp only [List.cons_append, d7_, List.map_cons, List.mem_cons]
  by_cases h : w.2 = i
  ·simp [h]
  ·have h' : ¬ i = w.2 := fun e => h e.symm
   simp only [h, if_false, h', false_or, ih, n0_]
   split
   ·rfl
   ·congr 1; omega
theorem ka_ (i : Int) (d : Int) : ∀ (a : Wd) (c : Int), i ∈ a.map (·.2) → d7_ (c + d) a i = d7_ c a i + d
 | [], c, h => by simp at h
 | w :: a, c, h => by
  simp only [d7_]
  by_cases e : w.2 = i
  ·rw [if_pos e, if_pos e]
  ·rw [if_neg e, if_neg e]
   simp only [List.map_cons, List.mem_cons] at h
   have := ka_ i d a (c + w.1.length + 1) (h.resolve_left fun q => e q.symm)
   rw [← this]; congr 1; omega
theorem o1_ {l : Wd} {i : Int} : i ∈ ids l ↔ i ∈ l.map (·.2) ∧ 0 ≤ i := by simp [ids]
theorem i6_ : ∀ {l : Wd} {j : Nat} {w : Str × Int} (c : Int), (ids l).Nodup → l[j]? = some w → 0 ≤ w.2 → (ch_ c (l.map (·.1)))[j]? = some (d7_ c l w.2)
 | [], j, w, c, _, h, _ => by simp at h
 | v :: l, 0, w, c, _, h, _ => by
  simp only [List.getElem?_cons_zero, Option.some.injEq] at h; subst h
  simp [ch_, d7_]
 | v :: l, j + 1, w, c, hn, h, h0 => by
  simp only [List.getElem?_cons_succ] at h
  have hm : w.2 ∈ ids l := o1_.2 ⟨List.mem_map.2 ⟨w, List.mem_of_getElem? h, rfl⟩, h0⟩
  rw [gb_] at hn
  have hne : v.2 ≠ w.2 := fun e => by
   rw [if_pos (by omega)] at hn
   exact (List.nodup_cons.1 hn).1 (by rw [e]; exact hm)
  have hn' : (ids l).Nodup := by
   split at hn
   ·exact (List.nodup_cons.1 hn).2
   ·exact hn
  simp only [List.map_cons, ch_, List.getElem?_cons_succ, d7_, if_neg hne]
  exact i6_ _ hn' h h0
theorem oc_ : ∀ (M : List (Int × Int)) (k v i : Int), hh_ (h3_ M k v) i = if i = k then some v else hh_ M i
 | [], k, v, i => by simp [h3_, hh_]
 | (a, b) :: M, k, v, i => by
  have ih := oc_ M k v i
  simp only [h3_]
  by_cases h : k = a
  ·subst h
   simp only [if_true, hh_]
   split <;> rfl
  ·rw [if_neg h]
   simp only [hh_, ih]
   by_cases e : i = a
   ·rw [if_pos e, if_neg (fun q => h (q.symm.trans e)), if_pos e]
   ·rw [if_neg e, if_neg e]
def k3_ (l : Wd) (k : Nat) : List (Int × Int) := (((l.map (·.2)).zip (ch_ 0 (l.map (·.1)))).take k).foldl (fun M p => h3_ M p.1 p.2) []
theorem a4_ : ∀ (c : Int) (l : List Str), (ch_ c l).length = l.length
 | _, [] => rfl
 | c, w :: r => by simp only [ch_, T7_, a4_]
theorem u9_ (l : Wd) : k3_ l 0 = [] := rfl
theorem vb_ {l : Wd} {k : Nat} (h : k < l.length) : k3_ l (k + 1) = h3_ (k3_ l k) (l.getD k ([], 0)).2 ((ch_ 0 (l.map (·.1))).getD k 0) := by
 have h2 : k < ((l.map (·.2)).zip (ch_ 0 (l.map (·.1)))).length := by rw [List.length_zip, List.length_map, a4_, List.length_map]; omega
 have h3 : k < (ch_ 0 (l.map (·.1))).length := by rw [a4_, List.length_map]; exact h
 unfold k3_
 rw [List.take_add_one, T6_ h2, List.foldl_append]
 simp [T8_, T6_ h, T6_ h3]
theorem nl_ (i v : Int) : ∀ (Z M : List (Int × Int)), (∀ c, (i, c) ∈ Z → c = v) → ((i, v) ∈ Z ∨ hh_ M i = some v) → hh_ (Z.foldl (fun M p => h3_ M p.1 p.2) M) i = some v
 | [], M, _, h => by simpa using h
 | (a, b) :: Z, M, hu, h => by
  refine nl_ i v Z _ (fun c hc => hu c (List.mem_cons_of_mem _ hc)) ?_
  rw [oc_]
  by_cases e : i = a
  ·subst e
   have := hu b List.mem_cons_self
   subst this
   right; simp
  ·rw [if_neg e]
   rcases h with h | h
   ·rcases List.mem_cons.1 h with h | h
    ·simp only [Prod.mk.injEq] at h; exact absurd h.1 e
    ·exact .inl h
   ·exact .inr h
theorem zq_ {l : Wd} (hn : (ids l).Nodup) {i : Int} (hi : i ∈ ids l) : hh_ (k3_ l l.length) i = some (d7_ 0 l i) := by
 obtain ⟨hm, h0⟩ := o1_.1 hi
 obtain ⟨w, hw, hwi⟩ := List.mem_map.1 hm
 have hz : ∀ c, (i, c) ∈ (l.map (·.2)).zip (ch_ 0 (l.map (·.1))) → c = d7_ 0 l i := fun c hc => by
  obtain ⟨j, hj⟩ := List.mem_iff_getElem?.1 hc
  rw [List.getElem?_zip_eq_some] at hj
  obtain ⟨j1, j2⟩ := hj
  rw [List.getElem?_map] at j1
  obtain ⟨u, u1, u2⟩ := Option.map_eq_some_iff.1 j1
  have := i6_ 0 hn u1 (by rw [u2]; exact h0)
  rw [j2, u2] at this
  exact Option.some.inj this
 unfold k3_
 rw [T1_ (by rw [List.length_zip, List.length_map]; omega)]
 refine nl_ i _ _ _ hz (.inl ?_)
 obtain ⟨j, hj⟩ := List.mem_iff_getElem?.1 hw
 have := i6_ 0 hn hj (by rw [hwi]; exact h0)
 rw [hwi] at this
 refine List.mem_iff_getElem?.2 ⟨j, ?_⟩
 rw [List.getElem?_zip_eq_some]
 exact ⟨by rw [List.getElem?_map, hj]; simp [hwi], this⟩
theorem j8_ : ∀ (l : List Str) (c : Int) {k : Nat}, k < l.length → (ch_ c l).getD k 0 = c + wid (l.take k)
 | [], c, k, h => by simp at h
 | w :: r, c, 0, _ => by simp [ch_, ue_]
 | w :: r, c, k + 1, h => by
  have := j8_ r (c + w.length + 1) (k := k) (by simpa using h)
  simp only [ch_, List.getD_cons_succ, List.take_succ_cons, l0_, this]
  omega
theorem x3_ {l : List Str} {k : Nat} (h : k < l.length) : wid (l.take (k + 1)) = wid (l.take k) + ((l.getD k []).length + 1) := by
 rw [List.take_add_one, T6_ h, o6_, T8_, T6_ h]; rfl
theorem aa3_ (l : List Str) (k : Nat) : wid (l.take k) ≤ wid l := by
 conv => rhs; rw [← List.take_append_drop k l]
 rw [o6_]; omega
theorem Trc.lt {L : Wd} : ∀ {B C : Wd}, Trc L B C → ∀ p ∈ C, -1 ≤ p.2 ∧ p.2 < (L.length : Int)
 | [], [], _ => by simp
 | [], _ :: _, h => by simp [Trc] at h
 | _ :: _, [], h => by simp [Trc] at h
 | w :: B, c :: C, h => by
  simp only [Trc] at h
  intro p hp
  rcases List.mem_cons.1 hp with rfl | hp
  ·rcases h.2.1 with ⟨_, h2⟩ | ⟨_, h2, h3⟩
   ·omega
   ·have := (List.getElem?_eq_some_iff.1 h3).1; omega
  ·exact h.2.2.lt p hp
theorem Trc.len {L : Wd} {B C : Wd} (h : Trc L B C) : C.length = B.length := by
 have := congrArg List.length h.fst; simpa using this
theorem gm_ (d : Nat) (e : E) (h : form e d = true) (hm : many e d ≤ 1000) (m : Int) : (wds e m).length ≤ 3000 := by
 have := cx_ d e m h; omega
theorem iu_ {d : Nat} {e : E} {t b : Int} (h : form e d = true) (hm : many e d ≤ 1000) (ht : t ≤ 4) (hb : b ≤ 4) : (l8 e t b).length ≤ 3000 ∧ ∀ p ∈ l8 e t b, -1 ≤ p.2 ∧ p.2 ≤ 3000 := by
 have T := g0_ d e t b 0 h ht hb (by decide)
 have h1 := ek_ d e h
 have q1 := gm_ d e h hm t
 have q2 := gm_ d (bare e) h1.1 (by omega) b
 refine ⟨by rw [T.len, jq_]; exact q2, fun p hp => ?_⟩
 have := T.lt p hp
 rw [jq_] at this
 omega
def l8c (e : E) : Wd :=
 if e.kind = 1 then [(Go.Lib.decDigits e.n.toNat, 0)]
 else if e.kind = 2 then [(e.s, 0)]
 else l8 (e.kids.getD 0 E0) (max 2 (bo_ e.s)) (max 2 (bo_ e.s)) ++ (e.s, ((wds (e.kids.getD 0 E0) (max 2 (bo_ e.s))).length : Int)) :: shf ((wds (e.kids.getD 0 E0) (max 2 (bo_ e.s))).length + 1) (l8 (e.kids.getD 1 E0) (bo_ e.s + 1) (bo_ e.s + 1))
theorem z2_ {e : E} (hk : e.kind = 1 ∨ e.kind = 2 ∨ e.kind = 3 ∧ e.kids.length = 2) (t b : Int) : l8 e t b = brk (decide (e.kind = 3 ∧ bo_ e.s < b)) (shf (if e.kind = 3 ∧ bo_ e.s < t then 1 else 0) (l8c e)) := by
 rcases hk with hk | hk | ⟨hk, hl⟩
 ·rw [wv_ hk]; simp [l8c, hk, jb_, brk]
 ·rw [t5_ hk]; simp [l8c, hk, jb_, brk]
 ·rw [xl_ hk hl]; simp [l8c, hk]
def l8L (s : Sl) : Wd :=
 if s.kind = 1 then (s.name, 1) :: (wEq, 4) :: shf 5 (l8 s.expr 1 1)
 else if s.kind = 2 then (d6_, 0) :: shf 1 (l8 s.expr 1 1)
 else if s.kind = 3 then ((wIf, 0) :: shf 1 (l8 s.expr 1 1) ++ [(jv_, -1), (d6_, ((wds s.expr 1).length : Int) + 1)]) ++ shf ((wds s.expr 1).length + 2) (l8 s.thn 1 1)
 else []
def hg_ (s : Sl) : List Int := (l8L s).map fun c => if c.2 < 0 then -1 else (ch_ 0 (sw' s)).getD c.2.toNat 0
end
end Go.Proofs.YtcigkafioinfoaaGreatDoor
