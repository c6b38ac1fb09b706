/- Expressions as trees of places of one's own. Conditions: none. -/
import Derived.Test.YtefmbmafdgedmaaGreatDoorKb
import Derived.Test.YtefmbmafdgedmaaGreatDoorKe
import Derived.Test.YtefmbmafdgedmaaGreatDoorKj
import Derived.Test.YtefmbmafdgedmaaGreatDoorKl
import Derived.Test.YtefmbmafdgedmaaGreatDoorKr
import Derived.Test.YtefmbmafdgedmaaGreatDoorKq
set_option linter.unusedVariables false
set_option linter.unusedSimpArgs false
namespace Go.Proofs.YtefmbmafdgedmaaGreatDoor
section
open Go.RowKit
set_option maxRecDepth 100000
mutual
def eN : E → Nat
 | .mk _ _ _ kids => lN kids + 1
def lN : List E → Nat
 | [] => 0
 | e :: r => eN e + lN r
end
theorem ma_ (e : E) : eN e = lN e.kids + 1 := by cases e; simp only [eN, E.kids]
theorem afl_ : lN [] = 0 := by simp only [lN]
theorem acc_ (e : E) (r : List E) : lN (e :: r) = eN e + lN r := by simp only [lN]
def eO (b : Nat) (e : E) : List V := [.i .i64 e.kind, .i .i64 e.n, .s e.s, .ow b 4 0 e.kids.length]
def eOR : Nat → List E → List (List V)
 | _, [] => []
 | b, e :: r => eO b e :: eOR (b + eN e) r
mutual
def eB : Nat → E → List Blk
 | b, .mk _ _ _ kids => ⟨48, 4, eOR (b + 1) kids⟩ :: eBL (b + 1) kids
def eBL : Nat → List E → List Blk
 | _, [] => []
 | b, e :: r => eB b e ++ eBL (b + eN e) r
end
theorem ahc_ (b : Nat) (e : E) : eB b e = ⟨48, 4, eOR (b + 1) e.kids⟩ :: eBL (b + 1) e.kids := by cases e; simp only [eB, E.kids]
theorem abk_ (b : Nat) : eBL b [] = [] := by simp only [eBL]
theorem x0_ (b : Nat) (e : E) (r : List E) : eBL b (e :: r) = eB b e ++ eBL (b + eN e) r := by simp only [eBL]
mutual
theorem qs_ : ∀ (e : E) (b : Nat), (eB b e).length = eN e
 | .mk _ _ _ kids, b => by simp only [eB, eN, T7_, u0_ kids (b + 1)]
theorem u0_ : ∀ (l : List E) (b : Nat), (eBL b l).length = lN l
 | [], b => by simp only [eBL, lN, List.length_nil]
 | e :: r, b => by simp only [eBL, lN, T2_, qs_ e b, u0_ r (b + eN e)]
end
theorem u1_ : ∀ (b : Nat) (l : List E), (eOR b l).length = l.length
 | _, [] => rfl
 | b, e :: r => by simp only [eOR, T7_, u1_]
/-! ### other names -/
mutual
theorem aaa_ : ∀ (e : E) (η : List Nat) (b c : Nat), (∀ i, i < eN e → η.getD (b + i) 0 = c + i) → (eB b e).map (rnB η) = eB c e
 | .mk k n s kids, η, b, c, h => by
  simp only [eN] at h
  have h1 : ∀ i, i < lN kids → η.getD (b + 1 + i) 0 = c + 1 + i := fun i hi => by
   have := h (i + 1) (by omega)
   rw [show b + 1 + i = b + (i + 1) by omega, this]; omega
  obtain ⟨q1, q2⟩ := v6_ kids η (b + 1) (c + 1) h1
  simp only [eB, List.map_cons, q2, rnB, q1]
theorem v6_ : ∀ (l : List E) (η : List Nat) (b c : Nat), (∀ i, i < lN l → η.getD (b + i) 0 = c + i) → rnr η (eOR b l) = eOR c l ∧ (eBL b l).map (rnB η) = eBL c l
 | [], η, b, c, _ => by simp only [eOR, rnr, eBL, List.map_nil, and_self]
 | e :: r, η, b, c, h => by
  simp only [lN] at h
  have he := ma_ e
  have h1 : ∀ i, i < lN r → η.getD (b + eN e + i) 0 = c + eN e + i := fun i hi => by
   have := h (eN e + i) (by omega)
   rw [Nat.add_assoc, this]; omega
  obtain ⟨q1, q2⟩ := v6_ r η (b + eN e) (c + eN e) h1
  have q3 := aaa_ e η b c (fun i hi => h i (by omega))
  have q4 : η.getD b 0 = c := by simpa using h 0 (by omega)
  refine ⟨?_, ?_⟩
  ·simp only [eOR, rnr, q1, eO, rns, rn, q4]
  ·simp only [eBL, List.map_append, q3, q2]
end
mutual
theorem ad7_ : ∀ (e : E) (b n : Nat), b + eN e ≤ n → ∀ x ∈ eB b e, clr n x.rows = true
 | .mk k m s kids, b, n, h, x, hx => by
  simp only [eN] at h
  obtain ⟨q1, q2⟩ := ya_ kids (b + 1) n (by omega)
  simp only [eB, List.mem_cons] at hx
  rcases hx with rfl | hx
  ·exact q1
  ·exact q2 x hx
theorem ya_ : ∀ (l : List E) (b n : Nat), b + lN l ≤ n → clr n (eOR b l) = true ∧ ∀ x ∈ eBL b l, clr n x.rows = true
 | [], b, n, _ => ⟨by simp only [eOR, clr], fun x hx => by simp [eBL] at hx⟩
 | e :: r, b, n, h => by
  simp only [lN] at h
  have he := ma_ e
  obtain ⟨q1, q2⟩ := ya_ r (b + eN e) n (by omega)
  refine ⟨?_, fun x hx => ?_⟩
  ·simp only [eOR, clr, q1, eO, cls, V.cl, Bool.and_true, Bool.true_and, T3_]; omega
  ·simp only [eBL, List.mem_append] at hx
   rcases hx with hx | hx
   ·exact ad7_ e b n (by omega) x hx
   ·exact q2 x hx
end
mutual
theorem zs_ : ∀ (e : E) (b : Nat) (u : Nat → Bool), (∀ i, i < eN e → u (b + i) = true) → ∀ x ∈ eB b e, a0_ u x.rows = true
 | .mk k m s kids, b, u, h, x, hx => by
  simp only [eN] at h
  obtain ⟨q1, q2⟩ := v1_ kids (b + 1) u (fun i hi => by have := h (i + 1) (by omega); rwa [show b + (i + 1) = b + 1 + i by omega] at this)
  simp only [eB, List.mem_cons] at hx
  rcases hx with rfl | hx
  ·exact q1
  ·exact q2 x hx
theorem v1_ : ∀ (l : List E) (b : Nat) (u : Nat → Bool), (∀ i, i < lN l → u (b + i) = true) → a0_ u (eOR b l) = true ∧ ∀ x ∈ eBL b l, a0_ u x.rows = true
 | [], b, u, _ => ⟨by simp only [eOR, a0_], fun x hx => by simp [eBL] at hx⟩
 | e :: r, b, u, h => by
  simp only [lN] at h
  have he := ma_ e
  obtain ⟨q1, q2⟩ := v1_ r (b + eN e) u (fun i hi => by have := h (eN e + i) (by omega); rwa [← Nat.add_assoc] at this)
  refine ⟨?_, fun x hx => ?_⟩
  ·have := h 0 (by omega)
   simp only [eOR, a0_, q1, eO, az_, V.inn, Bool.and_true, Bool.true_and]; simpa using this
  ·simp only [eBL, List.mem_append] at hx
   rcases hx with hx | hx
   ·exact zs_ e b u (fun i hi => h i (by omega)) x hx
   ·exact q2 x hx
end
mutual
theorem yp_ : ∀ (e : E) (b : Nat), ∀ x ∈ eB b e, kg_ x.rows = true
 | .mk k m s kids, b, x, hx => by
  obtain ⟨q1, q2⟩ := u9_ kids (b + 1)
  simp only [eB, List.mem_cons] at hx
  rcases hx with rfl | hx
  ·exact q1
  ·exact q2 x hx
theorem u9_ : ∀ (l : List E) (b : Nat), kg_ (eOR b l) = true ∧ ∀ x ∈ eBL b l, kg_ x.rows = true
 | [], b => ⟨by simp only [eOR, kg_, List.all_nil], fun x hx => by simp [eBL] at hx⟩
 | e :: r, b => by
  obtain ⟨q1, q2⟩ := u9_ r (b + eN e)
  refine ⟨?_, fun x hx => ?_⟩
  ·unfold kg_ at q1 ⊢
   simp only [eOR, List.all_cons, q1, eO, id_, V.own, Bool.and_true]
  ·simp only [eBL, List.mem_append] at hx
   rcases hx with hx | hx
   ·exact yp_ e b x hx
   ·exact q2 x hx
end
/-! ### lent -/
mutual
theorem ad2_ : ∀ (e : E) (b : Nat) (m : Mem), (∀ i x, (eB b e)[i]? = some x → m (b + i) = some x) → LDs m (eO b e) (eC e)
 | .mk k n s kids, b, m, h => by
  simp only [eB] at h
  have h0 := h 0 _ rfl
  have q := yo_ kids (b + 1) m (fun i x hx => by have := h (i + 1) x (by simpa using hx); rwa [show b + (i + 1) = b + 1 + i by omega] at this)
  simp only [eC, eO, E.kind, E.n, E.s, E.kids]
  refine .cons (by simp only [LD, leV, and_self]) (.cons (by simp only [LD, leV, and_self]) (.cons (by simp only [LD, leV]) (.cons ?_ .nil)))
  exact LD.ow h0 rfl (by rw [u1_]) q
theorem yo_ : ∀ (l : List E) (b : Nat) (m : Mem), (∀ i x, (eBL b l)[i]? = some x → m (b + i) = some x) → LDr m (eOR b l) (eR l)
 | [], b, m, _ => by simp only [eOR, eR]; exact .nil
 | e :: r, b, m, h => by
  simp only [eBL] at h
  have q1 := ad2_ e b m (fun i x hx => h i x (by rw [List.getElem?_append_left (List.getElem?_eq_some_iff.1 hx).1]; exact hx))
  have q2 := yo_ r (b + eN e) m (fun i x hx => by
   have := h (eN e + i) x (by rw [List.getElem?_append_right (by rw [qs_]; omega), qs_, Nat.add_sub_cancel_left]; exact hx)
   rwa [← Nat.add_assoc] at this)
  simp only [eOR, eR]
  exact .cons q1 q2
end
theorem b2_ {c n i : Nat} (h : i < n) : (List.range' c n).getD i 0 = c + i := by simp [T8_, List.getElem?_range', h]
end
section
open Go.RowKit
set_option maxRecDepth 100000
structure TT (α : Type) where
 N : α → Nat
 O : Nat → α → List V
 B : Nat → α → List Blk
 C : α → List V
 len : ∀ a b, (B b a).length = N a
 map : ∀ a (η : List Nat) b c, (∀ i, i < N a → η.getD (b + i) 0 = c + i) → rns η (O b a) = O c a ∧ (B b a).map (rnB η) = B c a
 cl : ∀ a b n, b + N a ≤ n → cls n (O b a) = true ∧ ∀ x ∈ B b a, clr n x.rows = true
 inn : ∀ a b (u : Nat → Bool), (∀ i, i < N a → u (b + i) = true) → az_ u (O b a) = true ∧ ∀ x ∈ B b a, a0_ u x.rows = true
 own : ∀ a b, id_ (O b a) = true ∧ ∀ x ∈ B b a, kg_ x.rows = true
 ld : ∀ a b (m : Mem), (∀ i x, (B b a)[i]? = some x → m (b + i) = some x) → LDs m (O b a) (C a)
namespace TT
variable {α : Type} (t : TT α)
/-! lists -/
def NL : List α → Nat
 | [] => 0
 | a :: r => t.N a + NL r
def OR : Nat → List α → List (List V)
 | _, [] => []
 | b, a :: r => t.O b a :: OR (b + t.N a) r
def BL : Nat → List α → List Blk
 | _, [] => []
 | b, a :: r => t.B b a ++ BL (b + t.N a) r
theorem NL_app : ∀ a b : List α, t.NL (a ++ b) = t.NL a + t.NL b
 | [], b => by simp [NL]
 | e :: a, b => by simp only [List.cons_append, NL, NL_app a b, Nat.add_assoc]
theorem NL_take {l : List α} {k : Nat} {d : α} (h : k < l.length) : t.NL (l.take (k + 1)) = t.NL (l.take k) + t.N (l.getD k d) := by
 rw [List.take_add_one, T6_ h, T8_, T6_ h, NL_app]
 simp [NL]
theorem NL_le (l : List α) (k : Nat) : t.NL (l.take k) ≤ t.NL l := by
 have := t.NL_app (l.take k) (l.drop k)
 rw [List.take_append_drop] at this; omega
theorem nz_ : ∀ (l : List α) (b : Nat), (t.BL b l).length = t.NL l
 | [], b => rfl
 | e :: r, b => by simp only [BL, NL, T2_, t.len, nz_ r]
theorem OR_len : ∀ (b : Nat) (l : List α), (t.OR b l).length = l.length
 | _, [] => rfl
 | b, e :: r => by simp only [OR, T7_, OR_len]
theorem q7_ : ∀ (b : Nat) (a c : List α), t.OR b (a ++ c) = t.OR b a ++ t.OR (b + t.NL a) c
 | b, [], c => by simp [OR, NL]
 | b, e :: a, c => by simp only [List.cons_append, OR, q7_ (b + t.N e) a c, NL, Nat.add_assoc]
theorem qz_ : ∀ (b : Nat) (a c : List α), t.BL b (a ++ c) = t.BL b a ++ t.BL (b + t.NL a) c
 | b, [], c => by simp [BL, NL]
 | b, e :: a, c => by simp only [List.cons_append, BL, qz_ (b + t.N e) a c, NL, Nat.add_assoc, List.append_assoc]
theorem splitD {l : List α} {k : Nat} {d : α} (h : k < l.length) : l = l.take k ++ l.getD k d :: l.drop (k + 1) := by
 rw [T8_, T6_ h, Option.getD_some, ← List.drop_eq_getElem_cons h, List.take_append_drop]
theorem BL_map : ∀ (l : List α) (η : List Nat) (b c : Nat), (∀ i, i < t.NL l → η.getD (b + i) 0 = c + i) → rnr η (t.OR b l) = t.OR c l ∧ (t.BL b l).map (rnB η) = t.BL c l
 | [], η, b, c, _ => by simp only [OR, rnr, BL, List.map_nil, and_self]
 | e :: r, η, b, c, h => by
  simp only [NL] at h
  have h1 : ∀ i, i < t.NL r → η.getD (b + t.N e + i) 0 = c + t.N e + i := fun i hi => by
   have := h (t.N e + i) (by omega)
   rw [Nat.add_assoc, this]; omega
  obtain ⟨q1, q2⟩ := BL_map r η (b + t.N e) (c + t.N e) h1
  obtain ⟨q3, q4⟩ := t.map e η b c (fun i hi => h i (by omega))
  exact ⟨by simp only [OR, rnr, q1, q3], by simp only [BL, List.map_append, q4, q2]⟩
theorem BL_cl : ∀ (l : List α) (b n : Nat), b + t.NL l ≤ n → clr n (t.OR b l) = true ∧ ∀ x ∈ t.BL b l, clr n x.rows = true
 | [], b, n, _ => ⟨by simp only [OR, Go.Proofs.YtefmbmafdgedmaaGreatDoor.clr], fun x hx => by simp [BL] at hx⟩
 | e :: r, b, n, h => by
  simp only [NL] at h
  obtain ⟨q1, q2⟩ := BL_cl r (b + t.N e) n (by omega)
  obtain ⟨q3, q4⟩ := t.cl e b n (by omega)
  refine ⟨by simp only [OR, Go.Proofs.YtefmbmafdgedmaaGreatDoor.clr, q1, q3, Bool.and_self], fun x hx => ?_⟩
  simp only [BL, List.mem_append] at hx
  rcases hx with hx | hx
  ·exact q4 x hx
  ·exact q2 x hx
theorem BL_inn : ∀ (l : List α) (b : Nat) (u : Nat → Bool), (∀ i, i < t.NL l → u (b + i) = true) → a0_ u (t.OR b l) = true ∧ ∀ x ∈ t.BL b l, a0_ u x.rows = true
 | [], b, u, _ => ⟨by simp only [OR, a0_], fun x hx => by simp [BL] at hx⟩
 | e :: r, b, u, h => by
  simp only [NL] at h
  obtain ⟨q1, q2⟩ := BL_inn r (b + t.N e) u (fun i hi => by have := h (t.N e + i) (by omega); rwa [← Nat.add_assoc] at this)
  obtain ⟨q3, q4⟩ := t.inn e b u (fun i hi => h i (by omega))
  refine ⟨by simp only [OR, a0_, q1, q3, Bool.and_self], fun x hx => ?_⟩
  simp only [BL, List.mem_append] at hx
  rcases hx with hx | hx
  ·exact q4 x hx
  ·exact q2 x hx
theorem seg (c : Nat) (a : α) : SegOk c [.ag (t.O 0 a)] [.ag (t.O c a)] (t.B 0 a) (t.B c a) := by
 obtain ⟨q1, q2⟩ := t.map a (List.range' c (t.N a)) 0 c fun i hi => by rw [Nat.zero_add]; exact b2_ hi
 obtain ⟨q3, q4⟩ := t.cl a 0 (t.N a) (by omega)
 refine ⟨by rw [t.len, t.len], by rw [t.len]; exact q2, ?_, ?_, fun b hb => ?_⟩
 ·rw [t.len]; simp only [rns, rn, q1]
 ·rw [t.len]; simp only [cls, V.cl, q3, Bool.and_self]
 ·rw [t.len]; exact q4 b hb
def lst (T z b : Nat) (l : List α) : List Blk := ⟨T, z, t.OR (b + 1) l⟩ :: t.BL (b + 1) l
theorem lst_len (T z b : Nat) (l : List α) : (t.lst T z b l).length = t.NL l + 1 := by simp [lst, nz_]
theorem lst_map (T z : Nat) (l : List α) (η : List Nat) (b c : Nat) (h : ∀ i, i < t.NL l + 1 → η.getD (b + i) 0 = c + i) : (t.lst T z b l).map (rnB η) = t.lst T z c l := by
 obtain ⟨q1, q2⟩ := t.BL_map l η (b + 1) (c + 1) fun i hi => by have := h (i + 1) (by omega); rw [show b + 1 + i = b + (i + 1) by omega, this]; omega
 simp only [lst, List.map_cons, rnB, q1, q2]
theorem lst_cl (T z : Nat) (l : List α) (b n : Nat) (h : b + t.NL l + 1 ≤ n) : ∀ x ∈ t.lst T z b l, clr n x.rows = true := fun x hx => by
 obtain ⟨q1, q2⟩ := t.BL_cl l (b + 1) n (by omega)
 rcases List.mem_cons.1 hx with rfl | hx
 ·exact q1
 ·exact q2 x hx
end TT
def ttE : TT E where
 N := eN
 O := eO
 B := eB
 C := eC
 len := qs_
 map := fun e η b c h => by
  have h0 := ma_ e
  have h1 := h 0 (by omega)
  exact ⟨by simp only [eO, rns, rn]; rw [show η.getD b 0 = c by simpa using h1], aaa_ e η b c h⟩
 cl := fun e b n h => by
  have h0 := ma_ e
  exact ⟨by simp only [eO, cls, V.cl, Bool.and_true, Bool.true_and, T3_]; omega, ad7_ e b n h⟩
 inn := fun e b u h => by
  have h0 := ma_ e
  have h1 := h 0 (by omega)
  exact ⟨by simp only [eO, az_, V.inn, Bool.and_true, Bool.true_and]; simpa using h1, zs_ e b u h⟩
 own := fun e b => ⟨by simp only [eO, id_, V.own, Bool.and_true], yp_ e b⟩
 ld := ad2_
theorem p5_ {n : Nat} : ∀ {a b : List V}, cls n a = true → cls n b = true → cls n (a ++ b) = true
 | [], _, _, h => h
 | v :: a, b, h, k => by simp only [List.cons_append, cls, T5_] at h ⊢; exact ⟨h.1, p5_ h.2 k⟩
theorem ng_ {u : Nat → Bool} : ∀ {a b : List V}, az_ u a = true → az_ u b = true → az_ u (a ++ b) = true
 | [], _, _, h => h
 | v :: a, b, h, k => by simp only [List.cons_append, az_, T5_] at h ⊢; exact ⟨h.1, ng_ h.2 k⟩
theorem n1_ : ∀ {a b : List V}, id_ a = true → id_ b = true → id_ (a ++ b) = true
 | [], _, _, h => h
 | v :: a, b, h, k => by simp only [List.cons_append, id_, T5_] at h ⊢; exact ⟨h.1, n1_ h.2 k⟩
theorem q8_ (η : List Nat) : ∀ a b : List V, rns η (a ++ b) = rns η a ++ rns η b
 | [], b => by simp only [List.nil_append, rns]
 | v :: a, b => by simp only [List.cons_append, rns, q8_ η a b]
theorem LDs.app {m : Mem} : ∀ {a' a b b' : List V}, LDs m a a' → LDs m b b' → LDs m (a ++ b) (a' ++ b')
 | [], a, b, b', h, k => by simp only [LDs] at h; subst h; exact k
 | v' :: a', a, b, b', h, k => by
  simp only [LDs] at h
  obtain ⟨v, r, rfl, h1, h2⟩ := h
  exact .cons h1 (h2.app k)
def V.lit : V → Bool
 | .i _ _ | .b _ | .s _ => true
 | _ => false
theorem sz_ (η : List Nat) : ∀ l : List V, l.all V.lit = true → rns η l = l
 | [], _ => by simp only [rns]
 | v :: l, h => by
  simp only [List.all_cons, T5_] at h
  have := sz_ η l h.2
  cases v <;> simp only [V.lit] at h <;> first | (simp only [rns, rn, this]; done) | exact absurd h.1 (by simp)
theorem ro_ (n : Nat) : ∀ l : List V, l.all V.lit = true → cls n l = true
 | [], _ => by simp only [cls]
 | v :: l, h => by
  simp only [List.all_cons, T5_] at h
  have := ro_ n l h.2
  cases v <;> simp only [V.lit] at h <;> first | (simp only [cls, V.cl, this, Bool.and_self]; done) | exact absurd h.1 (by simp)
theorem po_ (u : Nat → Bool) : ∀ l : List V, l.all V.lit = true → az_ u l = true
 | [], _ => by simp only [az_]
 | v :: l, h => by
  simp only [List.all_cons, T5_] at h
  have := po_ u l h.2
  cases v <;> simp only [V.lit] at h <;> first | (simp only [az_, V.inn, this, Bool.and_self]; done) | exact absurd h.1 (by simp)
theorem pb_ : ∀ l : List V, l.all V.lit = true → id_ l = true
 | [], _ => by simp only [id_]
 | v :: l, h => by
  simp only [List.all_cons, T5_] at h
  have := pb_ l h.2
  cases v <;> simp only [V.lit] at h <;> first | (simp only [id_, V.own, this, Bool.and_self]; done) | exact absurd h.1 (by simp)
theorem u2_ (m : Mem) : ∀ l : List V, l.all V.lit = true → LDs m l l
 | [], _ => .nil
 | v :: l, h => by
  simp only [List.all_cons, T5_] at h
  refine .cons ?_ (u2_ m l h.2)
  cases v <;> simp only [V.lit] at h <;> first | (simp only [LD, leV, and_self]; done) | exact absurd h.1 (by simp)
def TT.two {α β γ : Type} (t : TT α) (u : TT β) (P : γ → List V) (hP : ∀ c, (P c).all V.lit = true) (f : γ → α) (g : γ → β) : TT γ where
 N := fun c => t.N (f c) + u.N (g c)
 O := fun b c => P c ++ (t.O b (f c) ++ u.O (b + t.N (f c)) (g c))
 B := fun b c => t.B b (f c) ++ u.B (b + t.N (f c)) (g c)
 C := fun c => P c ++ (t.C (f c) ++ u.C (g c))
 len := fun c b => by simp [t.len, u.len]
 map := fun x η b c h => by
  obtain ⟨q1, q2⟩ := t.map (f x) η b c fun i hi => h i (by omega)
  obtain ⟨q3, q4⟩ := u.map (g x) η (b + t.N (f x)) (c + t.N (f x)) fun i hi => by have := h (t.N (f x) + i) (by omega); rw [Nat.add_assoc, this]; omega
  have q5 : rns η (P x) = P x := sz_ η _ (hP x)
  exact ⟨by rw [q8_, q8_, q1, q3, q5], by rw [List.map_append, q2, q4]⟩
 cl := fun x b n h => by
  obtain ⟨q1, q2⟩ := t.cl (f x) b n (by omega)
  obtain ⟨q3, q4⟩ := u.cl (g x) (b + t.N (f x)) n (by omega)
  refine ⟨p5_ (ro_ n _ (hP x)) (p5_ q1 q3), fun y hy => ?_⟩
  rcases List.mem_append.1 hy with hy | hy
  ·exact q2 y hy
  ·exact q4 y hy
 inn := fun x b u' h => by
  obtain ⟨q1, q2⟩ := t.inn (f x) b u' fun i hi => h i (by omega)
  obtain ⟨q3, q4⟩ := u.inn (g x) (b + t.N (f x)) u' fun i hi => by have := h (t.N (f x) + i) (by omega); rwa [← Nat.add_assoc] at this
  refine ⟨ng_ (po_ u' _ (hP x)) (ng_ q1 q3), fun y hy => ?_⟩
  rcases List.mem_append.1 hy with hy | hy
  ·exact q2 y hy
  ·exact q4 y hy
 own := fun x b => by
  obtain ⟨q1, q2⟩ := t.own (f x) b
  obtain ⟨q3, q4⟩ := u.own (g x) (b + t.N (f x))
  refine ⟨n1_ (pb_ _ (hP x)) (n1_ q1 q3), fun y hy => ?_⟩
  rcases List.mem_append.1 hy with hy | hy
  ·exact q2 y hy
  ·exact q4 y hy
 ld := fun x b m h => by
  have q1 := t.ld (f x) b m (fun i y hy => h i y (by rw [List.getElem?_append_left (List.getElem?_eq_some_iff.1 hy).1]; exact hy))
  have q2 := u.ld (g x) (b + t.N (f x)) m (fun i y hy => by
   have := h (t.N (f x) + i) y (by rw [List.getElem?_append_right (by rw [t.len]; omega), t.len, Nat.add_sub_cancel_left]; exact hy)
   rwa [← Nat.add_assoc] at this)
  exact (u2_ m _ (hP x)).app (q1.app q2)
def ttB : TT Bl := TT.two ttE ttE (fun s => [.i .i64 s.kind, .s s.name]) (fun s => rfl) (·.expr) (·.thn)
theorem agf_ (s : Bl) : ttB.C s = bC s := by simp only [ttB, TT.two, ttE]; rfl
theorem cb_ (b : Nat) (s : Bl) : ttB.O b s = [.i .i64 s.kind, .s s.name, .i .i64 s.expr.kind, .i .i64 s.expr.n, .s s.expr.s, .ow b 4 0 s.expr.kids.length, .i .i64 s.thn.kind, .i .i64 s.thn.n, .s s.thn.s, .ow (b + eN s.expr) 4 0 s.thn.kids.length] := rfl
end
section
open Go.RowKit
set_option maxRecDepth 100000
set_option maxHeartbeats 4000000
theorem yh_ : ∀ (b : Nat) (l : List E), eOR b l = ttE.OR b l
 | _, [] => rfl
 | b, e :: r => by rw [eOR, yh_ (b + eN e) r]; rfl
theorem za_ : ∀ (b : Nat) (l : List E), eBL b l = ttE.BL b l
 | b, [] => by rw [abk_]; rfl
 | b, e :: r => by rw [x0_, za_ (b + eN e) r]; rfl
theorem f6_ : ∀ l : List E, lN l = ttE.NL l
 | [] => by rw [afl_]; rfl
 | e :: r => by rw [acc_, f6_ r]; rfl
theorem l1_ (b : Nat) (e : E) : ttE.B b e = ttE.lst 48 4 b e.kids := by
 show eB b e = _
 rw [ahc_, yh_, za_]; rfl
theorem gi_ (e : E) : ttE.N e = ttE.NL e.kids + 1 := by
 show eN e = _
 rw [ma_, f6_]
theorem au_ (b : Nat) (e : E) : ttE.O b e = [.i .i64 e.kind, .i .i64 e.n, .s e.s, .ow b 4 0 e.kids.length] := rfl
theorem qm_ : ∀ l : List E, l.length ≤ ttE.NL l
 | [] => Nat.le_refl _
 | e :: r => by
  have := qm_ r
  have := gi_ e
  simp only [TT.NL, T7_]; omega
theorem aj_ {l b0} {c0 d : Nat} {bs : List Blk} {L : List (Nat × Blk)} (h : l < c0) : wrL ((l, b0) :: L) (ed_ (c0 + d) bs) = (l, b0) :: wrL L (ed_ (c0 + d) bs) := ij_ bs _ L (.inl (by omega))
theorem ae_ {l b0} {c : Nat} {bs : List Blk} {L : List (Nat × Blk)} (h : l < c) : wrL ((l, b0) :: L) (ed_ c bs) = (l, b0) :: wrL L (ed_ c bs) := ij_ bs _ L (.inl h)
theorem v0_ {k c : Nat} {A bs : List Blk} (h : c = k + A.length) : wrL (bl_ k A) (ed_ c bs) = bl_ k (A ++ bs) := by subst h; exact ip_ bs A
namespace TT
variable {α : Type} (t : TT α)
section
variable {E : Env} {fn : Func} {s : St} {lr : List ResultVar}
theorem out_one {c : Nat} {a : α} (hl : fn.results.toList = lr) (h1 : a4_ E.P s lr) (h2 : lr.map (bg_ E.P s) = [.ag (t.O c a)]) (hm : ∀ i b, (t.B c a)[i]? = some b → s.m (c + i) = some b) : Out E fn 0 [.ag (t.O 0 a)] (t.B 0 a) (List.range' c (t.N a)) s := by
 subst hl
 obtain ⟨q1, q2⟩ := t.map a (List.range' c (t.N a)) 0 c fun i hi => by rw [Nat.zero_add]; exact b2_ hi
 obtain ⟨q3, q4⟩ := t.cl a 0 (t.N a) (by omega)
 refine ⟨h1, ?_, by rw [t.len]; simp, Nat.zero_le _, rfl, List.nodup_range', ?_, fun b hb => ?_, fun i b hb => ?_⟩
 ·rw [h2]; simp only [rns, rn, q1]; exact eh_ _
 ·rw [t.len]; simp only [cls, V.cl, q3, Bool.and_self]
 ·rw [t.len]; exact q4 b hb
 ·have hi : i < t.N a := by rw [← t.len a 0]; exact (List.getElem?_eq_some_iff.1 hb).1
  rw [b2_ hi]
  refine hm i _ ?_
  rw [← q2, List.getElem?_map, hb]; rfl
end
end TT
mutual
theorem abf_ (m : Mem) : ∀ v : V, LD m v v
 | .sl t r => by simp only [LD]; exact .inl (g4_ _)
 | .ag cs => .ag (bk_ m cs)
 | .i _ _ | .b _ | .s _ | .ow _ _ _ _ | .pt _ _ _ _ | .rp _ | .np | .q _ | .fn _ _ _ | .tu _ | .gd _ _ | .no => by simp only [LD]; exact g4_ _
theorem bk_ (m : Mem) : ∀ vs : List V, LDs m vs vs
 | [] => .nil
 | v :: vs => .cons (abf_ m v) (bk_ m vs)
end
end
section
set_option maxRecDepth 100000
set_option maxHeartbeats 4000000
/-! lists -/
end
section
open Go.RowKit
set_option maxRecDepth 100000
set_option maxHeartbeats 4000000
/-! ### the walks -/
end
end Go.Proofs.YtefmbmafdgedmaaGreatDoor
