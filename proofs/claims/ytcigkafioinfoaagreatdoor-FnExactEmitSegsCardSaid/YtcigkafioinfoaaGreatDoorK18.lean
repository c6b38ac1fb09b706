/- Expressions as trees of places of one's own. Conditions: none. -/
import Derived.Test.YtcigkafioinfoaaGreatDoorKb
import Derived.Test.YtcigkafioinfoaaGreatDoorKe
import Derived.Test.YtcigkafioinfoaaGreatDoorKj
set_option linter.unusedVariables false
set_option linter.unusedSimpArgs false
namespace Go.Proofs.YtcigkafioinfoaaGreatDoor
section
open Go.RowKit
set_option maxRecDepth 100000
mutual
def eN : E → Nat
 | .mk _ _ _ kids => lN kids + 1
def lN : List E → Nat
 | [] => 0
 | e :: r => eN e + lN r
end
theorem iq_ (e : E) : eN e = lN e.kids + 1 := by cases e; simp only [eN, E.kids]
theorem age_ : lN [] = 0 := by simp only [lN]
theorem ae7_ (e : E) (r : List E) : lN (e :: r) = eN e + lN r := by simp only [lN]
def eO (b : Nat) (e : E) : List V := [.i .i64 e.kind, .i .i64 e.n, .s e.s, .ow b 4 0 e.kids.length]
def eOR : Nat → List E → List (List V)
 | _, [] => []
 | b, e :: r => eO b e :: eOR (b + eN e) r
mutual
def eB : Nat → E → List Blk
 | b, .mk _ _ _ kids => ⟨33, 4, eOR (b + 1) kids⟩ :: eBL (b + 1) kids
def eBL : Nat → List E → List Blk
 | _, [] => []
 | b, e :: r => eB b e ++ eBL (b + eN e) r
end
theorem aig_ (b : Nat) (e : E) : eB b e = ⟨33, 4, eOR (b + 1) e.kids⟩ :: eBL (b + 1) e.kids := by cases e; simp only [eB, E.kids]
theorem ae9_ (b : Nat) : eBL b [] = [] := by simp only [eBL]
theorem ab9_ (b : Nat) (e : E) (r : List E) : eBL b (e :: r) = eB b e ++ eBL (b + eN e) r := by simp only [eBL]
mutual
theorem rd_ : ∀ (e : E) (b : Nat), (eB b e).length = eN e
 | .mk _ _ _ kids, b => by simp only [eB, eN, T7_, v7_ kids (b + 1)]
theorem v7_ : ∀ (l : List E) (b : Nat), (eBL b l).length = lN l
 | [], b => by simp only [eBL, lN, List.length_nil]
 | e :: r, b => by simp only [eBL, lN, T2_, rd_ e b, v7_ r (b + eN e)]
end
theorem vx_ : ∀ (b : Nat) (l : List E), (eOR b l).length = l.length
 | _, [] => rfl
 | b, e :: r => by simp only [eOR, T7_, vx_]
/-! ### other names -/
mutual
theorem abw_ : ∀ (e : E) (η : List Nat) (b c : Nat), (∀ i, i < eN e → η.getD (b + i) 0 = c + i) → (eB b e).map (rnB η) = eB c e
 | .mk k n s kids, η, b, c, h => by
  simp only [eN] at h
  have h1 : ∀ i, i < lN kids → η.getD (b + 1 + i) 0 = c + 1 + i := fun i hi => by
   have := h (i + 1) (by omega)
   rw [show b + 1 + i = b + (i + 1) by omega, this]; omega
  obtain ⟨q1, q2⟩ := wm_ kids η (b + 1) (c + 1) h1
  simp only [eB, List.map_cons, q2, rnB, q1]
theorem wm_ : ∀ (l : List E) (η : List Nat) (b c : Nat), (∀ i, i < lN l → η.getD (b + i) 0 = c + i) → rnr η (eOR b l) = eOR c l ∧ (eBL b l).map (rnB η) = eBL c l
 | [], η, b, c, _ => by simp only [eOR, rnr, eBL, List.map_nil, and_self]
 | e :: r, η, b, c, h => by
  simp only [lN] at h
  have he := iq_ e
  have h1 : ∀ i, i < lN r → η.getD (b + eN e + i) 0 = c + eN e + i := fun i hi => by
   have := h (eN e + i) (by omega)
   rw [Nat.add_assoc, this]; omega
  obtain ⟨q1, q2⟩ := wm_ r η (b + eN e) (c + eN e) h1
  have q3 := abw_ e η b c (fun i hi => h i (by omega))
  have q4 : η.getD b 0 = c := by simpa using h 0 (by omega)
  refine ⟨?_, ?_⟩
  ·simp only [eOR, rnr, q1, eO, rns, rn, q4]
  ·simp only [eBL, List.map_append, q3, q2]
end
mutual
theorem afl_ : ∀ (e : E) (b n : Nat), b + eN e ≤ n → ∀ x ∈ eB b e, clr n x.rows = true
 | .mk k m s kids, b, n, h, x, hx => by
  simp only [eN] at h
  obtain ⟨q1, q2⟩ := aa9_ kids (b + 1) n (by omega)
  simp only [eB, List.mem_cons] at hx
  rcases hx with rfl | hx
  ·exact q1
  ·exact q2 x hx
theorem aa9_ : ∀ (l : List E) (b n : Nat), b + lN l ≤ n → clr n (eOR b l) = true ∧ ∀ x ∈ eBL b l, clr n x.rows = true
 | [], b, n, _ => ⟨by simp only [eOR, clr], fun x hx => by simp [eBL] at hx⟩
 | e :: r, b, n, h => by
  simp only [lN] at h
  have he := iq_ e
  obtain ⟨q1, q2⟩ := aa9_ r (b + eN e) n (by omega)
  refine ⟨?_, fun x hx => ?_⟩
  ·simp only [eOR, clr, q1, eO, cls, V.cl, Bool.and_true, Bool.true_and, T3_]; omega
  ·simp only [eBL, List.mem_append] at hx
   rcases hx with hx | hx
   ·exact afl_ e b n (by omega) x hx
   ·exact q2 x hx
end
mutual
theorem aaq_ : ∀ (e : E) (b : Nat) (u : Nat → Bool), (∀ i, i < eN e → u (b + i) = true) → ∀ x ∈ eB b e, ay_ u x.rows = true
 | .mk k m s kids, b, u, h, x, hx => by
  simp only [eN] at h
  obtain ⟨q1, q2⟩ := wr_ kids (b + 1) u (fun i hi => by have := h (i + 1) (by omega); rwa [show b + (i + 1) = b + 1 + i by omega] at this)
  simp only [eB, List.mem_cons] at hx
  rcases hx with rfl | hx
  ·exact q1
  ·exact q2 x hx
theorem wr_ : ∀ (l : List E) (b : Nat) (u : Nat → Bool), (∀ i, i < lN l → u (b + i) = true) → ay_ u (eOR b l) = true ∧ ∀ x ∈ eBL b l, ay_ u x.rows = true
 | [], b, u, _ => ⟨by simp only [eOR, ay_], fun x hx => by simp [eBL] at hx⟩
 | e :: r, b, u, h => by
  simp only [lN] at h
  have he := iq_ e
  obtain ⟨q1, q2⟩ := wr_ r (b + eN e) u (fun i hi => by have := h (eN e + i) (by omega); rwa [← Nat.add_assoc] at this)
  refine ⟨?_, fun x hx => ?_⟩
  ·have := h 0 (by omega)
   simp only [eOR, ay_, q1, eO, az_, V.inn, Bool.and_true, Bool.true_and]; simpa using this
  ·simp only [eBL, List.mem_append] at hx
   rcases hx with hx | hx
   ·exact aaq_ e b u (fun i hi => h i (by omega)) x hx
   ·exact q2 x hx
end
mutual
theorem zt_ : ∀ (e : E) (b : Nat), ∀ x ∈ eB b e, il_ x.rows = true
 | .mk k m s kids, b, x, hx => by
  obtain ⟨q1, q2⟩ := w0_ kids (b + 1)
  simp only [eB, List.mem_cons] at hx
  rcases hx with rfl | hx
  ·exact q1
  ·exact q2 x hx
theorem w0_ : ∀ (l : List E) (b : Nat), il_ (eOR b l) = true ∧ ∀ x ∈ eBL b l, il_ x.rows = true
 | [], b => ⟨by simp only [eOR, il_, List.all_nil], fun x hx => by simp [eBL] at hx⟩
 | e :: r, b => by
  obtain ⟨q1, q2⟩ := w0_ r (b + eN e)
  refine ⟨?_, fun x hx => ?_⟩
  ·unfold il_ at q1 ⊢
   simp only [eOR, List.all_cons, q1, eO, i4_, V.own, Bool.and_true]
  ·simp only [eBL, List.mem_append] at hx
   rcases hx with hx | hx
   ·exact zt_ e b x hx
   ·exact q2 x hx
end
/-! ### lent -/
mutual
theorem afm_ : ∀ (e : E) (b : Nat) (m : Mem), (∀ i x, (eB b e)[i]? = some x → m (b + i) = some x) → LDs m (eO b e) (eC e)
 | .mk k n s kids, b, m, h => by
  simp only [eB] at h
  have h0 := h 0 _ rfl
  have q := aal_ kids (b + 1) m (fun i x hx => by have := h (i + 1) x (by simpa using hx); rwa [show b + (i + 1) = b + 1 + i by omega] at this)
  simp only [eC, eO, E.kind, E.n, E.s, E.kids]
  refine .cons (by simp only [LD, leV, and_self]) (.cons (by simp only [LD, leV, and_self]) (.cons (by simp only [LD, leV]) (.cons ?_ .nil)))
  exact LD.ow h0 rfl (by rw [vx_]) q
theorem aal_ : ∀ (l : List E) (b : Nat) (m : Mem), (∀ i x, (eBL b l)[i]? = some x → m (b + i) = some x) → LDr m (eOR b l) (eR l)
 | [], b, m, _ => by simp only [eOR, eR]; exact .nil
 | e :: r, b, m, h => by
  simp only [eBL] at h
  have q1 := afm_ e b m (fun i x hx => h i x (by rw [List.getElem?_append_left (List.getElem?_eq_some_iff.1 hx).1]; exact hx))
  have q2 := aal_ r (b + eN e) m (fun i x hx => by
   have := h (eN e + i) x (by rw [List.getElem?_append_right (by rw [rd_]; omega), rd_, Nat.add_sub_cancel_left]; exact hx)
   rwa [← Nat.add_assoc] at this)
  simp only [eOR, eR]
  exact .cons q1 q2
end
theorem bp_ {c n i : Nat} (h : i < n) : (List.range' c n).getD i 0 = c + i := by simp [T8_, List.getElem?_range', h]
end
section
open Go.RowKit
set_option maxRecDepth 100000
structure TT (α : Type) where
 N : α → Nat
 O : Nat → α → List V
 B : Nat → α → List Blk
 C : α → List V
 len : ∀ a b, (B b a).length = N a
 map : ∀ a (η : List Nat) b c, (∀ i, i < N a → η.getD (b + i) 0 = c + i) → rns η (O b a) = O c a ∧ (B b a).map (rnB η) = B c a
 cl : ∀ a b n, b + N a ≤ n → cls n (O b a) = true ∧ ∀ x ∈ B b a, clr n x.rows = true
 inn : ∀ a b (u : Nat → Bool), (∀ i, i < N a → u (b + i) = true) → az_ u (O b a) = true ∧ ∀ x ∈ B b a, ay_ u x.rows = true
 own : ∀ a b, i4_ (O b a) = true ∧ ∀ x ∈ B b a, il_ x.rows = true
 ld : ∀ a b (m : Mem), (∀ i x, (B b a)[i]? = some x → m (b + i) = some x) → LDs m (O b a) (C a)
namespace TT
variable {α : Type} (t : TT α)
/-! lists -/
def NL : List α → Nat
 | [] => 0
 | a :: r => t.N a + NL r
def OR : Nat → List α → List (List V)
 | _, [] => []
 | b, a :: r => t.O b a :: OR (b + t.N a) r
def BL : Nat → List α → List Blk
 | _, [] => []
 | b, a :: r => t.B b a ++ BL (b + t.N a) r
theorem NL_app : ∀ a b : List α, t.NL (a ++ b) = t.NL a + t.NL b
 | [], b => by simp [NL]
 | e :: a, b => by simp only [List.cons_append, NL, NL_app a b, Nat.add_assoc]
theorem NL_take {l : List α} {k : Nat} {d : α} (h : k < l.length) : t.NL (l.take (k + 1)) = t.NL (l.take k) + t.N (l.getD k d) := by
 rw [List.take_add_one, T6_ h, T8_, T6_ h, NL_app]
 simp [NL]
theorem NL_le (l : List α) (k : Nat) : t.NL (l.take k) ≤ t.NL l := by
 have := t.NL_app (l.take k) (l.drop k)
 rw [List.take_append_drop] at this; omega
theorem BL_len : ∀ (l : List α) (b : Nat), (t.BL b l).length = t.NL l
 | [], b => rfl
 | e :: r, b => by simp only [BL, NL, T2_, t.len, BL_len r]
theorem OR_len : ∀ (b : Nat) (l : List α), (t.OR b l).length = l.length
 | _, [] => rfl
 | b, e :: r => by simp only [OR, T7_, OR_len]
theorem ok_ : ∀ (b : Nat) (a c : List α), t.OR b (a ++ c) = t.OR b a ++ t.OR (b + t.NL a) c
 | b, [], c => by simp [OR, NL]
 | b, e :: a, c => by simp only [List.cons_append, OR, ok_ (b + t.N e) a c, NL, Nat.add_assoc]
theorem og_ : ∀ (b : Nat) (a c : List α), t.BL b (a ++ c) = t.BL b a ++ t.BL (b + t.NL a) c
 | b, [], c => by simp [BL, NL]
 | b, e :: a, c => by simp only [List.cons_append, BL, og_ (b + t.N e) a c, NL, Nat.add_assoc, List.append_assoc]
theorem splitD {l : List α} {k : Nat} {d : α} (h : k < l.length) : l = l.take k ++ l.getD k d :: l.drop (k + 1) := by
 rw [T8_, T6_ h, Option.getD_some, ← List.drop_eq_getElem_cons h, List.take_append_drop]
theorem OR_get {l : List α} {k : Nat} {d : α} (h : k < l.length) (b : Nat) : (t.OR b l).getD k [] = t.O (b + t.NL (l.take k)) (l.getD k d) := by
 conv => lhs; rw [splitD (d := d) h]
 rw [ok_, T8_, List.getElem?_append_right (by rw [OR_len, List.length_take]; omega), OR_len, List.length_take, Nat.min_eq_left (by omega), Nat.sub_self]
 simp only [OR, List.getElem?_cons_zero, Option.getD_some]
theorem BL_take {l : List α} {k : Nat} {d : α} (h : k < l.length) (b : Nat) : t.BL b (l.take (k + 1)) = t.BL b (l.take k) ++ t.B (b + t.NL (l.take k)) (l.getD k d) := by
 have e : l.take (k + 1) = l.take k ++ [l.getD k d] := by
  rw [List.take_add_one, T6_ h, T8_, T6_ h]; rfl
 rw [e, og_]; simp [BL]
theorem BL_map : ∀ (l : List α) (η : List Nat) (b c : Nat), (∀ i, i < t.NL l → η.getD (b + i) 0 = c + i) → rnr η (t.OR b l) = t.OR c l ∧ (t.BL b l).map (rnB η) = t.BL c l
 | [], η, b, c, _ => by simp only [OR, rnr, BL, List.map_nil, and_self]
 | e :: r, η, b, c, h => by
  simp only [NL] at h
  have h1 : ∀ i, i < t.NL r → η.getD (b + t.N e + i) 0 = c + t.N e + i := fun i hi => by
   have := h (t.N e + i) (by omega)
   rw [Nat.add_assoc, this]; omega
  obtain ⟨q1, q2⟩ := BL_map r η (b + t.N e) (c + t.N e) h1
  obtain ⟨q3, q4⟩ := t.map e η b c (fun i hi => h i (by omega))
  exact ⟨by simp only [OR, rnr, q1, q3], by simp only [BL, List.map_append, q4, q2]⟩
theorem BL_cl : ∀ (l : List α) (b n : Nat), b + t.NL l ≤ n → clr n (t.OR b l) = true ∧ ∀ x ∈ t.BL b l, clr n x.rows = true
 | [], b, n, _ => ⟨by simp only [OR, Go.Proofs.YtcigkafioinfoaaGreatDoor.clr], fun x hx => by simp [BL] at hx⟩
 | e :: r, b, n, h => by
  simp only [NL] at h
  obtain ⟨q1, q2⟩ := BL_cl r (b + t.N e) n (by omega)
  obtain ⟨q3, q4⟩ := t.cl e b n (by omega)
  refine ⟨by simp only [OR, Go.Proofs.YtcigkafioinfoaaGreatDoor.clr, q1, q3, Bool.and_self], fun x hx => ?_⟩
  simp only [BL, List.mem_append] at hx
  rcases hx with hx | hx
  ·exact q4 x hx
  ·exact q2 x hx
theorem BL_inn : ∀ (l : List α) (b : Nat) (u : Nat → Bool), (∀ i, i < t.NL l → u (b + i) = true) → ay_ u (t.OR b l) = true ∧ ∀ x ∈ t.BL b l, ay_ u x.rows = true
 | [], b, u, _ => ⟨by simp only [OR, ay_], fun x hx => by simp [BL] at hx⟩
 | e :: r, b, u, h => by
  simp only [NL] at h
  obtain ⟨q1, q2⟩ := BL_inn r (b + t.N e) u (fun i hi => by have := h (t.N e + i) (by omega); rwa [← Nat.add_assoc] at this)
  obtain ⟨q3, q4⟩ := t.inn e b u (fun i hi => h i (by omega))
  refine ⟨by simp only [OR, ay_, q1, q3, Bool.and_self], fun x hx => ?_⟩
  simp only [BL, List.mem_append] at hx
  rcases hx with hx | hx
  ·exact q4 x hx
  ·exact q2 x hx
theorem BL_own : ∀ (l : List α) (b : Nat), il_ (t.OR b l) = true ∧ ∀ x ∈ t.BL b l, il_ x.rows = true
 | [], b => ⟨rfl, fun x hx => by simp [BL] at hx⟩
 | e :: r, b => by
  obtain ⟨q1, q2⟩ := BL_own r (b + t.N e)
  obtain ⟨q3, q4⟩ := t.own e b
  refine ⟨?_, fun x hx => ?_⟩
  ·unfold il_ at q1 ⊢
   simp only [OR, List.all_cons, q1, q3, Bool.and_self]
  ·simp only [BL, List.mem_append] at hx
   rcases hx with hx | hx
   ·exact q4 x hx
   ·exact q2 x hx
theorem BL_ld : ∀ (l : List α) (b : Nat) (m : Mem), (∀ i x, (t.BL b l)[i]? = some x → m (b + i) = some x) → LDr m (t.OR b l) (l.map t.C)
 | [], b, m, _ => .nil
 | e :: r, b, m, h => by
  simp only [BL] at h
  have q1 := t.ld e b m (fun i x hx => h i x (by rw [List.getElem?_append_left (List.getElem?_eq_some_iff.1 hx).1]; exact hx))
  have q2 := BL_ld r (b + t.N e) m (fun i x hx => by
   have := h (t.N e + i) x (by rw [List.getElem?_append_right (by rw [t.len]; omega), t.len, Nat.add_sub_cancel_left]; exact hx)
   rwa [← Nat.add_assoc] at this)
  exact .cons q1 q2
theorem seg (c : Nat) (a : α) : SegOk c [.ag (t.O 0 a)] [.ag (t.O c a)] (t.B 0 a) (t.B c a) := by
 obtain ⟨q1, q2⟩ := t.map a (List.range' c (t.N a)) 0 c fun i hi => by rw [Nat.zero_add]; exact bp_ hi
 obtain ⟨q3, q4⟩ := t.cl a 0 (t.N a) (by omega)
 refine ⟨by rw [t.len, t.len], by rw [t.len]; exact q2, ?_, ?_, fun b hb => ?_⟩
 ·rw [t.len]; simp only [rns, rn, q1]
 ·rw [t.len]; simp only [cls, V.cl, q3, Bool.and_self]
 ·rw [t.len]; exact q4 b hb
def lst (T z b : Nat) (l : List α) : List Blk := ⟨T, z, t.OR (b + 1) l⟩ :: t.BL (b + 1) l
theorem lst_len (T z b : Nat) (l : List α) : (t.lst T z b l).length = t.NL l + 1 := by simp [lst, BL_len]
theorem lst_map (T z : Nat) (l : List α) (η : List Nat) (b c : Nat) (h : ∀ i, i < t.NL l + 1 → η.getD (b + i) 0 = c + i) : (t.lst T z b l).map (rnB η) = t.lst T z c l := by
 obtain ⟨q1, q2⟩ := t.BL_map l η (b + 1) (c + 1) fun i hi => by have := h (i + 1) (by omega); rw [show b + 1 + i = b + (i + 1) by omega, this]; omega
 simp only [lst, List.map_cons, rnB, q1, q2]
theorem lst_cl (T z : Nat) (l : List α) (b n : Nat) (h : b + t.NL l + 1 ≤ n) : ∀ x ∈ t.lst T z b l, clr n x.rows = true := fun x hx => by
 obtain ⟨q1, q2⟩ := t.BL_cl l (b + 1) n (by omega)
 rcases List.mem_cons.1 hx with rfl | hx
 ·exact q1
 ·exact q2 x hx
theorem lst_own (T z : Nat) (l : List α) (b : Nat) : ∀ x ∈ t.lst T z b l, il_ x.rows = true := fun x hx => by
 obtain ⟨q1, q2⟩ := t.BL_own l (b + 1)
 rcases List.mem_cons.1 hx with rfl | hx
 ·exact q1
 ·exact q2 x hx
theorem lst_seg (T z c : Nat) (l : List α) : SegOk c [.ow 0 z 0 l.length] [.ow c z 0 l.length] (t.lst T z 0 l) (t.lst T z c l) := by
 have h0 : ∀ i, i < t.NL l + 1 → (List.range' c (t.NL l + 1)).getD (0 + i) 0 = c + i := fun i hi => by rw [Nat.zero_add]; exact bp_ hi
 refine ⟨by rw [lst_len, lst_len], ?_, ?_, ?_, fun b hb => ?_⟩
 ·rw [lst_len]; exact t.lst_map T z l _ 0 c h0
 ·rw [lst_len]
  have := h0 0 (by omega)
  simp only [rns, rn]
  rw [Nat.zero_add] at this
  rw [this, Nat.add_zero]
 ·rw [lst_len]; simp only [cls, V.cl, Bool.and_true, T3_]; omega
 ·rw [lst_len]; exact t.lst_cl T z l 0 _ (by omega) b hb
theorem lst_ld (T z : Nat) (l : List α) (b : Nat) (m : Mem) (h : ∀ i x, (t.lst T z b l)[i]? = some x → m (b + i) = some x) : LD m (.ow b z 0 l.length) (.sl false (l.map t.C)) := by
 have h0 := h 0 _ rfl
 refine LD.ow h0 rfl (by rw [OR_len]) (t.BL_ld l (b + 1) m fun i x hx => ?_)
 have := h (i + 1) x (by simpa [lst] using hx)
 rwa [show b + (i + 1) = b + 1 + i by omega] at this
end TT
def ttE : TT E where
 N := eN
 O := eO
 B := eB
 C := eC
 len := rd_
 map := fun e η b c h => by
  have h0 := iq_ e
  have h1 := h 0 (by omega)
  exact ⟨by simp only [eO, rns, rn]; rw [show η.getD b 0 = c by simpa using h1], abw_ e η b c h⟩
 cl := fun e b n h => by
  have h0 := iq_ e
  exact ⟨by simp only [eO, cls, V.cl, Bool.and_true, Bool.true_and, T3_]; omega, afl_ e b n h⟩
 inn := fun e b u h => by
  have h0 := iq_ e
  have h1 := h 0 (by omega)
  exact ⟨by simp only [eO, az_, V.inn, Bool.and_true, Bool.true_and]; simpa using h1, aaq_ e b u h⟩
 own := fun e b => ⟨by simp only [eO, i4_, V.own, Bool.and_true], zt_ e b⟩
 ld := afm_
theorem rr_ {n : Nat} : ∀ {a b : List V}, cls n a = true → cls n b = true → cls n (a ++ b) = true
 | [], _, _, h => h
 | v :: a, b, h, k => by simp only [List.cons_append, cls, T5_] at h ⊢; exact ⟨h.1, rr_ h.2 k⟩
theorem o0_ {u : Nat → Bool} : ∀ {a b : List V}, az_ u a = true → az_ u b = true → az_ u (a ++ b) = true
 | [], _, _, h => h
 | v :: a, b, h, k => by simp only [List.cons_append, az_, T5_] at h ⊢; exact ⟨h.1, o0_ h.2 k⟩
theorem oy_ : ∀ {a b : List V}, i4_ a = true → i4_ b = true → i4_ (a ++ b) = true
 | [], _, _, h => h
 | v :: a, b, h, k => by simp only [List.cons_append, i4_, T5_] at h ⊢; exact ⟨h.1, oy_ h.2 k⟩
theorem rf_ (η : List Nat) : ∀ a b : List V, rns η (a ++ b) = rns η a ++ rns η b
 | [], b => by simp only [List.nil_append, rns]
 | v :: a, b => by simp only [List.cons_append, rns, rf_ η a b]
theorem LDs.app {m : Mem} : ∀ {a' a b b' : List V}, LDs m a a' → LDs m b b' → LDs m (a ++ b) (a' ++ b')
 | [], a, b, b', h, k => by simp only [LDs] at h; subst h; exact k
 | v' :: a', a, b, b', h, k => by
  simp only [LDs] at h
  obtain ⟨v, r, rfl, h1, h2⟩ := h
  exact .cons h1 (h2.app k)
def V.lit : V → Bool
 | .i _ _ | .b _ | .s _ => true
 | _ => false
theorem s8_ (η : List Nat) : ∀ l : List V, l.all V.lit = true → rns η l = l
 | [], _ => by simp only [rns]
 | v :: l, h => by
  simp only [List.all_cons, T5_] at h
  have := s8_ η l h.2
  cases v <;> simp only [V.lit] at h <;> first | (simp only [rns, rn, this]; done) | exact absurd h.1 (by simp)
theorem ua_ (n : Nat) : ∀ l : List V, l.all V.lit = true → cls n l = true
 | [], _ => by simp only [cls]
 | v :: l, h => by
  simp only [List.all_cons, T5_] at h
  have := ua_ n l h.2
  cases v <;> simp only [V.lit] at h <;> first | (simp only [cls, V.cl, this, Bool.and_self]; done) | exact absurd h.1 (by simp)
theorem qe_ (u : Nat → Bool) : ∀ l : List V, l.all V.lit = true → az_ u l = true
 | [], _ => by simp only [az_]
 | v :: l, h => by
  simp only [List.all_cons, T5_] at h
  have := qe_ u l h.2
  cases v <;> simp only [V.lit] at h <;> first | (simp only [az_, V.inn, this, Bool.and_self]; done) | exact absurd h.1 (by simp)
theorem py_ : ∀ l : List V, l.all V.lit = true → i4_ l = true
 | [], _ => by simp only [i4_]
 | v :: l, h => by
  simp only [List.all_cons, T5_] at h
  have := py_ l h.2
  cases v <;> simp only [V.lit] at h <;> first | (simp only [i4_, V.own, this, Bool.and_self]; done) | exact absurd h.1 (by simp)
theorem wl_ (m : Mem) : ∀ l : List V, l.all V.lit = true → LDs m l l
 | [], _ => .nil
 | v :: l, h => by
  simp only [List.all_cons, T5_] at h
  refine .cons ?_ (wl_ m l h.2)
  cases v <;> simp only [V.lit] at h <;> first | (simp only [LD, leV, and_self]; done) | exact absurd h.1 (by simp)
def TT.two {α β γ : Type} (t : TT α) (u : TT β) (P : γ → List V) (hP : ∀ c, (P c).all V.lit = true) (f : γ → α) (g : γ → β) : TT γ where
 N := fun c => t.N (f c) + u.N (g c)
 O := fun b c => P c ++ (t.O b (f c) ++ u.O (b + t.N (f c)) (g c))
 B := fun b c => t.B b (f c) ++ u.B (b + t.N (f c)) (g c)
 C := fun c => P c ++ (t.C (f c) ++ u.C (g c))
 len := fun c b => by simp [t.len, u.len]
 map := fun x η b c h => by
  obtain ⟨q1, q2⟩ := t.map (f x) η b c fun i hi => h i (by omega)
  obtain ⟨q3, q4⟩ := u.map (g x) η (b + t.N (f x)) (c + t.N (f x)) fun i hi => by have := h (t.N (f x) + i) (by omega); rw [Nat.add_assoc, this]; omega
  have q5 : rns η (P x) = P x := s8_ η _ (hP x)
  exact ⟨by rw [rf_, rf_, q1, q3, q5], by rw [List.map_append, q2, q4]⟩
 cl := fun x b n h => by
  obtain ⟨q1, q2⟩ := t.cl (f x) b n (by omega)
  obtain ⟨q3, q4⟩ := u.cl (g x) (b + t.N (f x)) n (by omega)
  refine ⟨rr_ (ua_ n _ (hP x)) (rr_ q1 q3), fun y hy => ?_⟩
  rcases List.mem_append.1 hy with hy | hy
  ·exact q2 y hy
  ·exact q4 y hy
 inn := fun x b u' h => by
  obtain ⟨q1, q2⟩ := t.inn (f x) b u' fun i hi => h i (by omega)
  obtain ⟨q3, q4⟩ := u.inn (g x) (b + t.N (f x)) u' fun i hi => by have := h (t.N (f x) + i) (by omega); rwa [← Nat.add_assoc] at this
  refine ⟨o0_ (qe_ u' _ (hP x)) (o0_ q1 q3), fun y hy => ?_⟩
  rcases List.mem_append.1 hy with hy | hy
  ·exact q2 y hy
  ·exact q4 y hy
 own := fun x b => by
  obtain ⟨q1, q2⟩ := t.own (f x) b
  obtain ⟨q3, q4⟩ := u.own (g x) (b + t.N (f x))
  refine ⟨oy_ (py_ _ (hP x)) (oy_ q1 q3), fun y hy => ?_⟩
  rcases List.mem_append.1 hy with hy | hy
  ·exact q2 y hy
  ·exact q4 y hy
 ld := fun x b m h => by
  have q1 := t.ld (f x) b m (fun i y hy => h i y (by rw [List.getElem?_append_left (List.getElem?_eq_some_iff.1 hy).1]; exact hy))
  have q2 := u.ld (g x) (b + t.N (f x)) m (fun i y hy => by
   have := h (t.N (f x) + i) y (by rw [List.getElem?_append_right (by rw [t.len]; omega), t.len, Nat.add_sub_cancel_left]; exact hy)
   rwa [← Nat.add_assoc] at this)
  exact (wl_ m _ (hP x)).app (q1.app q2)
def ttS : TT Sl := TT.two ttE ttE (fun s => [.i .i64 s.kind, .s s.name, .s s.type]) (fun s => rfl) (·.expr) (·.thn)
def ttB : TT Bl := TT.two ttE ttE (fun s => [.i .i64 s.kind, .s s.name]) (fun s => rfl) (·.expr) (·.thn)
theorem abr_ (s : Sl) : ttS.C s = sC s := by simp only [ttS, TT.two, ttE]; rfl
theorem ah4_ (s : Bl) : ttB.C s = bC s := by simp only [ttB, TT.two, ttE]; rfl
theorem ce_ (b : Nat) (s : Sl) : ttS.O b s = [.i .i64 s.kind, .s s.name, .s s.type, .i .i64 s.expr.kind, .i .i64 s.expr.n, .s s.expr.s, .ow b 4 0 s.expr.kids.length, .i .i64 s.thn.kind, .i .i64 s.thn.n, .s s.thn.s, .ow (b + eN s.expr) 4 0 s.thn.kids.length] := rfl
theorem ch_ (b : Nat) (s : Bl) : ttB.O b s = [.i .i64 s.kind, .s s.name, .i .i64 s.expr.kind, .i .i64 s.expr.n, .s s.expr.s, .ow b 4 0 s.expr.kids.length, .i .i64 s.thn.kind, .i .i64 s.thn.n, .s s.thn.s, .ow (b + eN s.expr) 4 0 s.thn.kids.length] := rfl
end
section
open Go.RowKit
set_option maxRecDepth 100000
set_option maxHeartbeats 4000000
theorem zf_ : ∀ (b : Nat) (l : List E), eOR b l = ttE.OR b l
 | _, [] => rfl
 | b, e :: r => by rw [eOR, zf_ (b + eN e) r]; rfl
theorem z4_ : ∀ (b : Nat) (l : List E), eBL b l = ttE.BL b l
 | b, [] => by rw [ae9_]; rfl
 | b, e :: r => by rw [ab9_, z4_ (b + eN e) r]; rfl
theorem em_ : ∀ l : List E, lN l = ttE.NL l
 | [] => by rw [age_]; rfl
 | e :: r => by rw [ae7_, em_ r]; rfl
theorem kw_ (b : Nat) (e : E) : ttE.B b e = ttE.lst 33 4 b e.kids := by
 show eB b e = _
 rw [aig_, zf_, z4_]; rfl
theorem dz_ (e : E) : ttE.N e = ttE.NL e.kids + 1 := by
 show eN e = _
 rw [iq_, em_]
theorem bz_ (b : Nat) (e : E) : ttE.O b e = [.i .i64 e.kind, .i .i64 e.n, .s e.s, .ow b 4 0 e.kids.length] := rfl
theorem nd_ : ∀ l : List E, l.length ≤ ttE.NL l
 | [] => Nat.le_refl _
 | e :: r => by
  have := nd_ r
  have := dz_ e
  simp only [TT.NL, T7_]; omega
theorem ap_ {l b0} {c0 d : Nat} {bs : List Blk} {L : List (Nat × Blk)} (h : l < c0) : wrL ((l, b0) :: L) (dx_ (c0 + d) bs) = (l, b0) :: wrL L (dx_ (c0 + d) bs) := e9_ bs _ L (.inl (by omega))
theorem aj_ {l b0} {c : Nat} {bs : List Blk} {L : List (Nat × Blk)} (h : l < c) : wrL ((l, b0) :: L) (dx_ c bs) = (l, b0) :: wrL L (dx_ c bs) := e9_ bs _ L (.inl h)
theorem b6_ {k c : Nat} {A bs : List Blk} (h : c = k + A.length) : wrL (bu_ k A) (dx_ c bs) = bu_ k (A ++ bs) := by subst h; exact i5_ bs A
theorem in_ {u : Nat → Bool} : ∀ {l : List (List V)}, ay_ u l = true ↔ ∀ r ∈ l, az_ u r = true
 | [] => by simp [ay_]
 | r :: l => by simp only [ay_, T5_, List.mem_cons, forall_eq_or_imp, in_ (l := l)]
theorem sy_ {u : Nat → Bool} {R : List (List V)} {z : List V} {k : Nat} (h : ay_ u (R.take k) = true) (hz : az_ u z = true) : ay_ u (de_ R z k) = true := by
 rw [in_] at h ⊢
 intro r hr
 obtain ⟨j, hj⟩ := List.mem_iff_getElem?.1 hr
 rw [h8_] at hj
 obtain ⟨q, h1, h2⟩ := Option.map_eq_some_iff.1 hj
 split at h2
 ·rename_i hjk
  subst h2
  exact h q (List.mem_iff_getElem?.2 ⟨j, by rw [List.getElem?_take_of_lt hjk]; exact h1⟩)
 ·subst h2; exact hz
theorem zd_ {R : List (List V)} {z : List V} {n : Nat} (hR : ∀ r ∈ R, r.length = n) (hz : z.length = n) (k j : Nat) : ((de_ R z k).getD j []).drop n = [] := by
 rw [T8_]
 cases h : (de_ R z k)[j]? with
 | none => exact List.drop_of_length_le (by simp)
 | some r =>
  have hm := List.mem_of_getElem? h
  have : r.length = n := by
   rcases hp_ hm with hm | rfl
   ·exact hR r hm
   ·exact hz
  simp only [Option.getD_some]; exact List.drop_of_length_le (by omega)
namespace TT
variable {α : Type} (t : TT α)
theorem OR_take' : ∀ (b : Nat) (l : List α) (k : Nat), (t.OR b l).take k = t.OR b (l.take k)
 | _, [], k => by simp [OR]
 | b, a :: l, 0 => by simp [OR]
 | b, a :: l, k + 1 => by simp only [OR, List.take_succ_cons, OR_take' _ l k]
theorem N_mem {l : List α} {a : α} (h : a ∈ l) : t.N a ≤ t.NL l := by
 induction l with
 | nil => cases h
 | cons x l ih =>
  simp only [NL]
  rcases List.mem_cons.1 h with rfl | h
  ·omega
  ·have := ih h; omega
theorem OR_rows {n : Nat} (hn : ∀ b a, (t.O b a).length = n) : ∀ (b : Nat) (l : List α), ∀ r ∈ t.OR b l, r.length = n
 | _, [], r, h => by simp [OR] at h
 | b, a :: l, r, h => by
  simp only [OR, List.mem_cons] at h
  rcases h with rfl | h
  ·exact hn _ _
  ·exact OR_rows hn _ l r h
section
variable {E : Env} {fn : Func} {s : St} {lr : List ResultVar}
theorem out_one {c : Nat} {a : α} (hl : fn.results.toList = lr) (h1 : ba_ E.P s lr) (h2 : lr.map (bq_ E.P s) = [.ag (t.O c a)]) (hm : ∀ i b, (t.B c a)[i]? = some b → s.m (c + i) = some b) : Out E fn 0 [.ag (t.O 0 a)] (t.B 0 a) (List.range' c (t.N a)) s := by
 subst hl
 obtain ⟨q1, q2⟩ := t.map a (List.range' c (t.N a)) 0 c fun i hi => by rw [Nat.zero_add]; exact bp_ hi
 obtain ⟨q3, q4⟩ := t.cl a 0 (t.N a) (by omega)
 refine ⟨h1, ?_, by rw [t.len]; simp, Nat.zero_le _, rfl, List.nodup_range', ?_, fun b hb => ?_, fun i b hb => ?_⟩
 ·rw [h2]; simp only [rns, rn, q1]; exact ep_ _
 ·rw [t.len]; simp only [cls, V.cl, q3, Bool.and_self]
 ·rw [t.len]; exact q4 b hb
 ·have hi : i < t.N a := by rw [← t.len a 0]; exact (List.getElem?_eq_some_iff.1 hb).1
  rw [bp_ hi]
  refine hm i _ ?_
  rw [← q2, List.getElem?_map, hb]; rfl
theorem out_lst {T z l c : Nat} {xs : List α} (hl : fn.results.toList = lr) (h1 : ba_ E.P s lr) (h2 : lr.map (bq_ E.P s) = [.ow l z 0 xs.length]) (hlt : l < c) (hm : s.m = bf_ ((l, ⟨T, z, t.OR c xs⟩) :: bu_ c (t.BL c xs))) : Out E fn 0 [.ow 0 z 0 xs.length] (t.lst T z 0 xs) (l :: List.range' c (t.NL xs)) s := by
 subst hl
 have hη : ∀ i, i < t.NL xs → (l :: List.range' c (t.NL xs)).getD (1 + i) 0 = c + i := fun i hi => by
  rw [Nat.add_comm 1 i, List.getD_cons_succ]; exact bp_ hi
 obtain ⟨q1, q2⟩ := t.BL_map xs (l :: List.range' c (t.NL xs)) 1 c hη
 have hB : (t.lst T z 0 xs).map (rnB (l :: List.range' c (t.NL xs))) = ⟨T, z, t.OR c xs⟩ :: t.BL c xs := by
  simp only [lst, Nat.zero_add, List.map_cons, rnB, q1, q2]
 refine ⟨h1, ?_, by rw [lst_len]; simp, Nat.zero_le _, rfl, ?_, ?_, fun b hb => ?_, fun i b hb => ?_⟩
 ·rw [h2]; simp only [rns, rn, List.getD_cons_zero]; exact ep_ _
 ·rw [List.nodup_cons]
  exact ⟨fun h => by rw [List.mem_range'_1] at h; omega, List.nodup_range'⟩
 ·rw [lst_len]; simp only [cls, V.cl, Bool.and_true, T3_]; omega
 ·rw [lst_len]; exact t.lst_cl T z xs 0 _ (by omega) b hb
 ·have hb' : (⟨T, z, t.OR c xs⟩ :: t.BL c xs)[i]? = some (rnB (l :: List.range' c (t.NL xs)) b) := by rw [← hB, List.getElem?_map, hb]; rfl
  rw [hm]
  cases i with
  | zero => simp only [List.getD_cons_zero, as_, if_true]; simpa using hb'
  | succ i =>
   have hi : i < t.NL xs := by
    have := (List.getElem?_eq_some_iff.1 hb).1
    rw [lst_len] at this; omega
   rw [List.getD_cons_succ, bp_ hi, as_, if_neg (by omega), at_]
   simpa using hb'
end
theorem subM_lst {T z l c : Nat} {xs : List α} {k : Nat} {b0 : Blk} {zc : List V} {U : List Nat} (hU : ∀ i, i < t.NL (xs.take k) → us U (c + i) = true) (hl : us U l = true) (hlc : l < c) (hz : ∀ u, az_ u zc = true) (hb : b0 = ⟨T, z, de_ (t.OR c xs) zc k⟩) :
  a2_ ((l, b0) :: bu_ c (t.BL c (xs.take k))) U ((l, ⟨T, z, de_ (t.OR c xs) zc k⟩) :: bu_ c (t.BL c (xs.take k))) := by
 obtain ⟨q1, q2⟩ := t.BL_inn (xs.take k) c (us U) hU
 simp only [a2_]
 refine ⟨by simp [bf_, hb], hl, sy_ (by rw [OR_take']; exact q1) (hz _), k3_ fun i b hb' => ?_⟩
 have hi : i < t.NL (xs.take k) := by rw [← t.BL_len _ c]; exact (List.getElem?_eq_some_iff.1 hb').1
 refine ⟨?_, hU i hi, q2 b (List.mem_of_getElem? hb')⟩
 rw [as_, if_neg (by omega), at_]; exact hb'
theorem wk0 {T z l c n : Nat} {xs : List α} {zc : List V} (hn : n = xs.length) (hz : ∀ u, az_ u zc = true) : some (⟨T, z, List.replicate n zc⟩ : Blk) = some ⟨T, z, de_ (t.OR c xs) zc 0⟩ ∧ ay_ (us (l :: List.range' c (t.NL []))) (de_ (t.OR c xs) zc 0) = true ∧ a2_ [(l, ⟨T, z, List.replicate n zc⟩)] (l :: List.range' c (t.NL [])) (bu_ c (t.BL c [])) :=
 ⟨by rw [gx_, OR_len, hn], sy_ (by simp [ay_]) (hz _), by simp only [BL, bu_, a2_]⟩
theorem fil_set {c : Nat} {xs : List α} {k : Nat} {d : α} (hk : k < xs.length) (zc : List V) : (de_ (t.OR c xs) zc k).set k (t.O (c + t.NL (xs.take k)) (xs.getD k d)) = de_ (t.OR c xs) zc (k + 1) := by
 rw [← g8_ (by rw [OR_len]; exact hk), OR_get (d := d) t hk]
theorem wkS {T z l c : Nat} {xs : List α} {k : Nat} {d : α} {zc : List V} (hk : k < xs.length) (hlc : l < c) (hO : ∀ b a, (t.O b a).length = z) (hz : ∀ u, az_ u zc = true) (hzl : zc.length = z) :
  some (⟨T, z, (de_ (t.OR c xs) zc k).set k (t.O (c + t.NL (xs.take k)) (xs.getD k d) ++ List.drop (t.O (c + t.NL (xs.take k)) (xs.getD k d)).length ((de_ (t.OR c xs) zc k).getD k []))⟩ : Blk) = some ⟨T, z, de_ (t.OR c xs) zc (k + 1)⟩ ∧
   ay_ (us (l :: List.range' c (t.NL (xs.take (k + 1))))) (de_ (t.OR c xs) zc (k + 1)) = true ∧
   a2_ ((l, ⟨T, z, (de_ (t.OR c xs) zc k).set k (t.O (c + t.NL (xs.take k)) (xs.getD k d) ++ List.drop (t.O (c + t.NL (xs.take k)) (xs.getD k d)).length ((de_ (t.OR c xs) zc k).getD k []))⟩) :: bu_ c (t.BL c (xs.take (k + 1)))) (l :: List.range' c (t.NL (xs.take (k + 1)))) (bu_ c (t.BL c (xs.take (k + 1)))) := by
 have hU : ∀ i, i < t.NL (xs.take (k + 1)) → us (l :: List.range' c (t.NL (xs.take (k + 1)))) (c + i) = true := fun i hi => by
  simp only [us, List.contains_eq_mem, Bool.or_eq_true, T3_, List.mem_cons, List.mem_range'_1]
  exact .inr (.inr ⟨by omega, by omega⟩)
 have hl : us (l :: List.range' c (t.NL (xs.take (k + 1)))) l = true := by simp [us]
 have hd := zd_ (t.OR_rows hO c xs) hzl k k
 rw [hO, hd, List.append_nil, t.fil_set hk]
 have h := t.subM_lst (T := T) (z := z) (l := l) (c := c) (xs := xs) (k := k + 1) (zc := zc) hU hl hlc hz rfl
 simp only [a2_] at h
 exact ⟨rfl, h.2.2.1, h.2.2.2⟩
end TT
mutual
theorem aee_ (m : Mem) : ∀ v : V, LD m v v
 | .sl t r => by simp only [LD]; exact .inl (fk_ _)
 | .ag cs => .ag (ao_ m cs)
 | .i _ _ | .b _ | .s _ | .ow _ _ _ _ | .pt _ _ _ _ | .rp _ | .np | .q _ | .fn _ _ _ | .tu _ | .gd _ _ | .no => by simp only [LD]; exact fk_ _
theorem ao_ (m : Mem) : ∀ vs : List V, LDs m vs vs
 | [] => .nil
 | v :: vs => .cons (aee_ m v) (ao_ m vs)
end
theorem aa2_ {h c m n : Nat} (hh : h < c) (h10 : 10 ≤ c) (hn : c + m + n ≤ 1000000000) : ((List.range' (c + m) n).all fun x => !(decide (x < 10) || decide (1000000000 ≤ x) || (x == h || (List.range' c m).contains x))) = true := by
 rw [List.all_eq_true]
 intro x hx
 rw [List.mem_range'_1] at hx
 simp only [Bool.not_eq_true', Bool.or_eq_false_iff, T4_, List.contains_eq_mem, beq_eq_false_iff_ne, List.mem_range'_1]
 omega
end
end Go.Proofs.YtcigkafioinfoaaGreatDoor
