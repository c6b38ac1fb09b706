/- Expressions as trees of places of one's own. Conditions: none. -/
import Derived.Test.YtefmbmafdgedmaaGreatDoorNb
import Derived.Test.YtefmbmafdgedmaaGreatDoorNe
import Derived.Test.YtefmbmafdgedmaaGreatDoorNj
import Derived.Test.YtefmbmafdgedmaaGreatDoorNl
import Derived.Test.YtefmbmafdgedmaaGreatDoorNr
import Derived.Test.YtefmbmafdgedmaaGreatDoorNq
set_option linter.unusedVariables false
set_option linter.unusedSimpArgs false
namespace Go.Proofs.YtefmbmafdgedmaaGreatDoor
section
open Go.RowKit
set_option maxRecDepth 100000
/-! ### other names -/
/-! ### lent -/
theorem fd_ {c n i : Nat} (h : i < n) : (List.range' c n).getD i 0 = c + i := by simp [List.getD_eq_getElem?_getD, List.getElem?_range', h]
end
section
open Go.RowKit
set_option maxRecDepth 100000
structure TT (α : Type) where
 N : α → Nat
 O : Nat → α → List V
 B : Nat → α → List Blk
 C : α → List V
 len : ∀ a b, (B b a).length = N a
 map : ∀ a (η : List Nat) b c, (∀ i, i < N a → η.getD (b + i) 0 = c + i) → rns η (O b a) = O c a ∧ (B b a).map (rnB η) = B c a
 cl : ∀ a b n, b + N a ≤ n → cls n (O b a) = true ∧ ∀ x ∈ B b a, clr n x.rows = true
 inn : ∀ a b (u : Nat → Bool), (∀ i, i < N a → u (b + i) = true) → al_ u (O b a) = true ∧ ∀ x ∈ B b a, am_ u x.rows = true
 own : ∀ a b, jx_ (O b a) = true ∧ ∀ x ∈ B b a, pl_ x.rows = true
 ld : ∀ a b (m : Mem), (∀ i x, (B b a)[i]? = some x → m (b + i) = some x) → LDs m (O b a) (C a)
namespace TT
variable {α : Type} (t : TT α)
/-! lists -/
def NL : List α → Nat
 | [] => 0
 | a :: r => t.N a + NL r
def OR : Nat → List α → List (List V)
 | _, [] => []
 | b, a :: r => t.O b a :: OR (b + t.N a) r
def BL : Nat → List α → List Blk
 | _, [] => []
 | b, a :: r => t.B b a ++ BL (b + t.N a) r
theorem NL_app : ∀ a b : List α, t.NL (a ++ b) = t.NL a + t.NL b
 | [], b => by simp [NL]
 | e :: a, b => by simp only [List.cons_append, NL, NL_app a b, Nat.add_assoc]
theorem NL_take {l : List α} {k : Nat} {d : α} (h : k < l.length) : t.NL (l.take (k + 1)) = t.NL (l.take k) + t.N (l.getD k d) := by
 rw [List.take_add_one, List.getElem?_eq_getElem h, List.getD_eq_getElem?_getD, List.getElem?_eq_getElem h, NL_app]
 simp [NL]
theorem NL_le (l : List α) (k : Nat) : t.NL (l.take k) ≤ t.NL l := by
 have := t.NL_app (l.take k) (l.drop k)
 rw [List.take_append_drop] at this; omega
theorem BL_len : ∀ (l : List α) (b : Nat), (t.BL b l).length = t.NL l
 | [], b => rfl
 | e :: r, b => by simp only [BL, NL, List.length_append, t.len, BL_len r]
theorem OR_len : ∀ (b : Nat) (l : List α), (t.OR b l).length = l.length
 | _, [] => rfl
 | b, e :: r => by simp only [OR, List.length_cons, OR_len]
theorem pi_ : ∀ (b : Nat) (a c : List α), t.OR b (a ++ c) = t.OR b a ++ t.OR (b + t.NL a) c
 | b, [], c => by simp [OR, NL]
 | b, e :: a, c => by simp only [List.cons_append, OR, pi_ (b + t.N e) a c, NL, Nat.add_assoc]
theorem ny_ : ∀ (b : Nat) (a c : List α), t.BL b (a ++ c) = t.BL b a ++ t.BL (b + t.NL a) c
 | b, [], c => by simp [BL, NL]
 | b, e :: a, c => by simp only [List.cons_append, BL, ny_ (b + t.N e) a c, NL, Nat.add_assoc, List.append_assoc]
theorem splitD {l : List α} {k : Nat} {d : α} (h : k < l.length) : l = l.take k ++ l.getD k d :: l.drop (k + 1) := by
 rw [List.getD_eq_getElem?_getD, List.getElem?_eq_getElem h, Option.getD_some, ← List.drop_eq_getElem_cons h, List.take_append_drop]
theorem ag0_ {l : List α} {k : Nat} {d : α} (h : k < l.length) (b : Nat) : (t.OR b l).getD k [] = t.O (b + t.NL (l.take k)) (l.getD k d) := by
 conv => lhs; rw [splitD (d := d) h]
 rw [pi_, List.getD_eq_getElem?_getD, List.getElem?_append_right (by rw [OR_len, List.length_take]; omega), OR_len, List.length_take, Nat.min_eq_left (by omega), Nat.sub_self]
 simp only [OR, List.getElem?_cons_zero, Option.getD_some]
theorem BL_take {l : List α} {k : Nat} {d : α} (h : k < l.length) (b : Nat) : t.BL b (l.take (k + 1)) = t.BL b (l.take k) ++ t.B (b + t.NL (l.take k)) (l.getD k d) := by
 have e : l.take (k + 1) = l.take k ++ [l.getD k d] := by
  rw [List.take_add_one, List.getElem?_eq_getElem h, List.getD_eq_getElem?_getD, List.getElem?_eq_getElem h]; rfl
 rw [e, ny_]; simp [BL]
theorem BL_map : ∀ (l : List α) (η : List Nat) (b c : Nat), (∀ i, i < t.NL l → η.getD (b + i) 0 = c + i) → rnr η (t.OR b l) = t.OR c l ∧ (t.BL b l).map (rnB η) = t.BL c l
 | [], η, b, c, _ => by simp only [OR, rnr, BL, List.map_nil, and_self]
 | e :: r, η, b, c, h => by
  simp only [NL] at h
  have h1 : ∀ i, i < t.NL r → η.getD (b + t.N e + i) 0 = c + t.N e + i := fun i hi => by
   have := h (t.N e + i) (by omega)
   rw [Nat.add_assoc, this]; omega
  obtain ⟨q1, q2⟩ := BL_map r η (b + t.N e) (c + t.N e) h1
  obtain ⟨q3, q4⟩ := t.map e η b c (fun i hi => h i (by omega))
  exact ⟨by simp only [OR, rnr, q1, q3], by simp only [BL, List.map_append, q4, q2]⟩
theorem BL_cl : ∀ (l : List α) (b n : Nat), b + t.NL l ≤ n → clr n (t.OR b l) = true ∧ ∀ x ∈ t.BL b l, clr n x.rows = true
 | [], b, n, _ => ⟨by simp only [OR, Go.Proofs.YtefmbmafdgedmaaGreatDoor.clr], fun x hx => by simp [BL] at hx⟩
 | e :: r, b, n, h => by
  simp only [NL] at h
  obtain ⟨q1, q2⟩ := BL_cl r (b + t.N e) n (by omega)
  obtain ⟨q3, q4⟩ := t.cl e b n (by omega)
  refine ⟨by simp only [OR, Go.Proofs.YtefmbmafdgedmaaGreatDoor.clr, q1, q3, Bool.and_self], fun x hx => ?_⟩
  simp only [BL, List.mem_append] at hx
  rcases hx with hx | hx
  ·exact q4 x hx
  ·exact q2 x hx
theorem BL_inn : ∀ (l : List α) (b : Nat) (u : Nat → Bool), (∀ i, i < t.NL l → u (b + i) = true) → am_ u (t.OR b l) = true ∧ ∀ x ∈ t.BL b l, am_ u x.rows = true
 | [], b, u, _ => ⟨by simp only [OR, am_], fun x hx => by simp [BL] at hx⟩
 | e :: r, b, u, h => by
  simp only [NL] at h
  obtain ⟨q1, q2⟩ := BL_inn r (b + t.N e) u (fun i hi => by have := h (t.N e + i) (by omega); rwa [← Nat.add_assoc] at this)
  obtain ⟨q3, q4⟩ := t.inn e b u (fun i hi => h i (by omega))
  refine ⟨by simp only [OR, am_, q1, q3, Bool.and_self], fun x hx => ?_⟩
  simp only [BL, List.mem_append] at hx
  rcases hx with hx | hx
  ·exact q4 x hx
  ·exact q2 x hx
theorem BL_own : ∀ (l : List α) (b : Nat), pl_ (t.OR b l) = true ∧ ∀ x ∈ t.BL b l, pl_ x.rows = true
 | [], b => ⟨rfl, fun x hx => by simp [BL] at hx⟩
 | e :: r, b => by
  obtain ⟨q1, q2⟩ := BL_own r (b + t.N e)
  obtain ⟨q3, q4⟩ := t.own e b
  refine ⟨?_, fun x hx => ?_⟩
  ·unfold pl_ at q1 ⊢
   simp only [OR, List.all_cons, q1, q3, Bool.and_self]
  ·simp only [BL, List.mem_append] at hx
   rcases hx with hx | hx
   ·exact q4 x hx
   ·exact q2 x hx
theorem BL_ld : ∀ (l : List α) (b : Nat) (m : Mem), (∀ i x, (t.BL b l)[i]? = some x → m (b + i) = some x) → LDr m (t.OR b l) (l.map t.C)
 | [], b, m, _ => .nil
 | e :: r, b, m, h => by
  simp only [BL] at h
  have q1 := t.ld e b m (fun i x hx => h i x (by rw [List.getElem?_append_left (List.getElem?_eq_some_iff.1 hx).1]; exact hx))
  have q2 := BL_ld r (b + t.N e) m (fun i x hx => by
   have := h (t.N e + i) x (by rw [List.getElem?_append_right (by rw [t.len]; omega), t.len, Nat.add_sub_cancel_left]; exact hx)
   rwa [← Nat.add_assoc] at this)
  exact .cons q1 q2
theorem seg (c : Nat) (a : α) : SegOk c [.ag (t.O 0 a)] [.ag (t.O c a)] (t.B 0 a) (t.B c a) := by
 obtain ⟨q1, q2⟩ := t.map a (List.range' c (t.N a)) 0 c fun i hi => by rw [Nat.zero_add]; exact fd_ hi
 obtain ⟨q3, q4⟩ := t.cl a 0 (t.N a) (by omega)
 refine ⟨by rw [t.len, t.len], by rw [t.len]; exact q2, ?_, ?_, fun b hb => ?_⟩
 ·rw [t.len]; simp only [rns, rn, q1]
 ·rw [t.len]; simp only [cls, V.cl, q3, Bool.and_self]
 ·rw [t.len]; exact q4 b hb
def lst (T z b : Nat) (l : List α) : List Blk := ⟨T, z, t.OR (b + 1) l⟩ :: t.BL (b + 1) l
theorem lst_len (T z b : Nat) (l : List α) : (t.lst T z b l).length = t.NL l + 1 := by simp [lst, BL_len]
theorem lst_map (T z : Nat) (l : List α) (η : List Nat) (b c : Nat) (h : ∀ i, i < t.NL l + 1 → η.getD (b + i) 0 = c + i) : (t.lst T z b l).map (rnB η) = t.lst T z c l := by
 obtain ⟨q1, q2⟩ := t.BL_map l η (b + 1) (c + 1) fun i hi => by have := h (i + 1) (by omega); rw [show b + 1 + i = b + (i + 1) by omega, this]; omega
 simp only [lst, List.map_cons, rnB, q1, q2]
theorem lst_cl (T z : Nat) (l : List α) (b n : Nat) (h : b + t.NL l + 1 ≤ n) : ∀ x ∈ t.lst T z b l, clr n x.rows = true := fun x hx => by
 obtain ⟨q1, q2⟩ := t.BL_cl l (b + 1) n (by omega)
 rcases List.mem_cons.1 hx with rfl | hx
 ·exact q1
 ·exact q2 x hx
theorem lst_own (T z : Nat) (l : List α) (b : Nat) : ∀ x ∈ t.lst T z b l, pl_ x.rows = true := fun x hx => by
 obtain ⟨q1, q2⟩ := t.BL_own l (b + 1)
 rcases List.mem_cons.1 hx with rfl | hx
 ·exact q1
 ·exact q2 x hx
theorem lst_seg (T z c : Nat) (l : List α) : SegOk c [.ow 0 z 0 l.length] [.ow c z 0 l.length] (t.lst T z 0 l) (t.lst T z c l) := by
 have h0 : ∀ i, i < t.NL l + 1 → (List.range' c (t.NL l + 1)).getD (0 + i) 0 = c + i := fun i hi => by rw [Nat.zero_add]; exact fd_ hi
 refine ⟨by rw [lst_len, lst_len], ?_, ?_, ?_, fun b hb => ?_⟩
 ·rw [lst_len]; exact t.lst_map T z l _ 0 c h0
 ·rw [lst_len]
  have := h0 0 (by omega)
  simp only [rns, rn]
  rw [Nat.zero_add] at this
  rw [this, Nat.add_zero]
 ·rw [lst_len]; simp only [cls, V.cl, Bool.and_true, decide_eq_true_eq]; omega
 ·rw [lst_len]; exact t.lst_cl T z l 0 _ (by omega) b hb
theorem lst_ld (T z : Nat) (l : List α) (b : Nat) (m : Mem) (h : ∀ i x, (t.lst T z b l)[i]? = some x → m (b + i) = some x) : LD m (.ow b z 0 l.length) (.sl false (l.map t.C)) := by
 have h0 := h 0 _ rfl
 refine LD.ow h0 rfl (by rw [OR_len]) (t.BL_ld l (b + 1) m fun i x hx => ?_)
 have := h (i + 1) x (by simpa [lst] using hx)
 rwa [show b + (i + 1) = b + 1 + i by omega] at this
end TT
theorem sj_ {n : Nat} : ∀ {a b : List V}, cls n a = true → cls n b = true → cls n (a ++ b) = true
 | [], _, _, h => h
 | v :: a, b, h, k => by simp only [List.cons_append, cls, Bool.and_eq_true] at h ⊢; exact ⟨h.1, sj_ h.2 k⟩
theorem pd_ {u : Nat → Bool} : ∀ {a b : List V}, al_ u a = true → al_ u b = true → al_ u (a ++ b) = true
 | [], _, _, h => h
 | v :: a, b, h, k => by simp only [List.cons_append, al_, Bool.and_eq_true] at h ⊢; exact ⟨h.1, pd_ h.2 k⟩
theorem o3_ : ∀ {a b : List V}, jx_ a = true → jx_ b = true → jx_ (a ++ b) = true
 | [], _, _, h => h
 | v :: a, b, h, k => by simp only [List.cons_append, jx_, Bool.and_eq_true] at h ⊢; exact ⟨h.1, o3_ h.2 k⟩
theorem rr_ (η : List Nat) : ∀ a b : List V, rns η (a ++ b) = rns η a ++ rns η b
 | [], b => by simp only [List.nil_append, rns]
 | v :: a, b => by simp only [List.cons_append, rns, rr_ η a b]
theorem LDs.app {m : Mem} : ∀ {a' a b b' : List V}, LDs m a a' → LDs m b b' → LDs m (a ++ b) (a' ++ b')
 | [], a, b, b', h, k => by simp only [LDs] at h; subst h; exact k
 | v' :: a', a, b, b', h, k => by
  simp only [LDs] at h
  obtain ⟨v, r, rfl, h1, h2⟩ := h
  exact .cons h1 (h2.app k)
def V.lit : V → Bool
 | .i _ _ | .b _ | .s _ => true
 | _ => false
theorem t5_ (η : List Nat) : ∀ l : List V, l.all V.lit = true → rns η l = l
 | [], _ => by simp only [rns]
 | v :: l, h => by
  simp only [List.all_cons, Bool.and_eq_true] at h
  have := t5_ η l h.2
  cases v <;> simp only [V.lit] at h <;> first | (simp only [rns, rn, this]; done) | exact absurd h.1 (by simp)
theorem u9_ (n : Nat) : ∀ l : List V, l.all V.lit = true → cls n l = true
 | [], _ => by simp only [cls]
 | v :: l, h => by
  simp only [List.all_cons, Bool.and_eq_true] at h
  have := u9_ n l h.2
  cases v <;> simp only [V.lit] at h <;> first | (simp only [cls, V.cl, this, Bool.and_self]; done) | exact absurd h.1 (by simp)
theorem qu_ (u : Nat → Bool) : ∀ l : List V, l.all V.lit = true → al_ u l = true
 | [], _ => by simp only [al_]
 | v :: l, h => by
  simp only [List.all_cons, Bool.and_eq_true] at h
  have := qu_ u l h.2
  cases v <;> simp only [V.lit] at h <;> first | (simp only [al_, V.inn, this, Bool.and_self]; done) | exact absurd h.1 (by simp)
theorem q7_ : ∀ l : List V, l.all V.lit = true → jx_ l = true
 | [], _ => by simp only [jx_]
 | v :: l, h => by
  simp only [List.all_cons, Bool.and_eq_true] at h
  have := q7_ l h.2
  cases v <;> simp only [V.lit] at h <;> first | (simp only [jx_, V.own, this, Bool.and_self]; done) | exact absurd h.1 (by simp)
theorem xu_ (m : Mem) : ∀ l : List V, l.all V.lit = true → LDs m l l
 | [], _ => .nil
 | v :: l, h => by
  simp only [List.all_cons, Bool.and_eq_true] at h
  refine .cons ?_ (xu_ m l h.2)
  cases v <;> simp only [V.lit] at h <;> first | (simp only [LD, leV, and_self]; done) | exact absurd h.1 (by simp)
def TT.two {α β γ : Type} (t : TT α) (u : TT β) (P : γ → List V) (hP : ∀ c, (P c).all V.lit = true) (f : γ → α) (g : γ → β) : TT γ where
 N := fun c => t.N (f c) + u.N (g c)
 O := fun b c => P c ++ (t.O b (f c) ++ u.O (b + t.N (f c)) (g c))
 B := fun b c => t.B b (f c) ++ u.B (b + t.N (f c)) (g c)
 C := fun c => P c ++ (t.C (f c) ++ u.C (g c))
 len := fun c b => by simp [t.len, u.len]
 map := fun x η b c h => by
  obtain ⟨q1, q2⟩ := t.map (f x) η b c fun i hi => h i (by omega)
  obtain ⟨q3, q4⟩ := u.map (g x) η (b + t.N (f x)) (c + t.N (f x)) fun i hi => by have := h (t.N (f x) + i) (by omega); rw [Nat.add_assoc, this]; omega
  have q5 : rns η (P x) = P x := t5_ η _ (hP x)
  exact ⟨by rw [rr_, rr_, q1, q3, q5], by rw [List.map_append, q2, q4]⟩
 cl := fun x b n h => by
  obtain ⟨q1, q2⟩ := t.cl (f x) b n (by omega)
  obtain ⟨q3, q4⟩ := u.cl (g x) (b + t.N (f x)) n (by omega)
  refine ⟨sj_ (u9_ n _ (hP x)) (sj_ q1 q3), fun y hy => ?_⟩
  rcases List.mem_append.1 hy with hy | hy
  ·exact q2 y hy
  ·exact q4 y hy
 inn := fun x b u' h => by
  obtain ⟨q1, q2⟩ := t.inn (f x) b u' fun i hi => h i (by omega)
  obtain ⟨q3, q4⟩ := u.inn (g x) (b + t.N (f x)) u' fun i hi => by have := h (t.N (f x) + i) (by omega); rwa [← Nat.add_assoc] at this
  refine ⟨pd_ (qu_ u' _ (hP x)) (pd_ q1 q3), fun y hy => ?_⟩
  rcases List.mem_append.1 hy with hy | hy
  ·exact q2 y hy
  ·exact q4 y hy
 own := fun x b => by
  obtain ⟨q1, q2⟩ := t.own (f x) b
  obtain ⟨q3, q4⟩ := u.own (g x) (b + t.N (f x))
  refine ⟨o3_ (q7_ _ (hP x)) (o3_ q1 q3), fun y hy => ?_⟩
  rcases List.mem_append.1 hy with hy | hy
  ·exact q2 y hy
  ·exact q4 y hy
 ld := fun x b m h => by
  have q1 := t.ld (f x) b m (fun i y hy => h i y (by rw [List.getElem?_append_left (List.getElem?_eq_some_iff.1 hy).1]; exact hy))
  have q2 := u.ld (g x) (b + t.N (f x)) m (fun i y hy => by
   have := h (t.N (f x) + i) y (by rw [List.getElem?_append_right (by rw [t.len]; omega), t.len, Nat.add_sub_cancel_left]; exact hy)
   rwa [← Nat.add_assoc] at this)
  exact (xu_ m _ (hP x)).app (q1.app q2)
end
section
open Go.RowKit
set_option maxRecDepth 100000
set_option maxHeartbeats 4000000
theorem bs_ {l b0} {c0 d : Nat} {bs : List Blk} {L : List (Nat × Blk)} (h : l < c0) : wrL ((l, b0) :: L) (e3_ (c0 + d) bs) = (l, b0) :: wrL L (e3_ (c0 + d) bs) := i1_ bs _ L (.inl (by omega))
theorem bg_ {l b0} {c : Nat} {bs : List Blk} {L : List (Nat × Blk)} (h : l < c) : wrL ((l, b0) :: L) (e3_ c bs) = (l, b0) :: wrL L (e3_ c bs) := i1_ bs _ L (.inl h)
theorem ae0_ {k c : Nat} {A bs : List Blk} (h : c = k + A.length) : wrL (bd_ k A) (e3_ c bs) = bd_ k (A ++ bs) := by subst h; exact io_ bs A
theorem sp_ {u : Nat → Bool} : ∀ {l : List (List V)}, am_ u l = true ↔ ∀ r ∈ l, al_ u r = true
 | [] => by simp [am_]
 | r :: l => by simp only [am_, Bool.and_eq_true, List.mem_cons, forall_eq_or_imp, sp_ (l := l)]
theorem sx_ {u : Nat → Bool} {R : List (List V)} {z : List V} {k : Nat} (h : am_ u (R.take k) = true) (hz : al_ u z = true) : am_ u (dj_ R z k) = true := by
 rw [sp_] at h ⊢
 intro r hr
 obtain ⟨j, hj⟩ := List.mem_iff_getElem?.1 hr
 rw [hs_] at hj
 obtain ⟨q, h1, h2⟩ := Option.map_eq_some_iff.1 hj
 split at h2
 ·rename_i hjk
  subst h2
  exact h q (List.mem_iff_getElem?.2 ⟨j, by rw [List.getElem?_take_of_lt hjk]; exact h1⟩)
 ·subst h2; exact hz
theorem ac7_ {R : List (List V)} {z : List V} {n : Nat} (hR : ∀ r ∈ R, r.length = n) (hz : z.length = n) (k j : Nat) : ((dj_ R z k).getD j []).drop n = [] := by
 rw [List.getD_eq_getElem?_getD]
 cases h : (dj_ R z k)[j]? with
 | none => exact List.drop_of_length_le (by simp)
 | some r =>
  have hm := List.mem_of_getElem? h
  have : r.length = n := by
   rcases i0_ hm with hm | rfl
   ·exact hR r hm
   ·exact hz
  simp only [Option.getD_some]; exact List.drop_of_length_le (by omega)
namespace TT
variable {α : Type} (t : TT α)
theorem ug_ : ∀ (b : Nat) (l : List α) (k : Nat), (t.OR b l).take k = t.OR b (l.take k)
 | _, [], k => by simp [OR]
 | b, a :: l, 0 => by simp [OR]
 | b, a :: l, k + 1 => by simp only [OR, List.take_succ_cons, ug_ _ l k]
theorem OR_rows {n : Nat} (hn : ∀ b a, (t.O b a).length = n) : ∀ (b : Nat) (l : List α), ∀ r ∈ t.OR b l, r.length = n
 | _, [], r, h => by simp [OR] at h
 | b, a :: l, r, h => by
  simp only [OR, List.mem_cons] at h
  rcases h with rfl | h
  ·exact hn _ _
  ·exact OR_rows hn _ l r h
section
variable {E : Env} {fn : Func} {s : St} {lr : List ResultVar}
theorem out_lst {T z l c : Nat} {xs : List α} (hl : fn.results.toList = lr) (h1 : aq_ E.P s lr) (h2 : lr.map (a7_ E.P s) = [.ow l z 0 xs.length]) (hlt : l < c) (hm : s.m = aw_ ((l, ⟨T, z, t.OR c xs⟩) :: bd_ c (t.BL c xs))) : Out E fn 0 [.ow 0 z 0 xs.length] (t.lst T z 0 xs) (l :: List.range' c (t.NL xs)) s := by
 subst hl
 have hη : ∀ i, i < t.NL xs → (l :: List.range' c (t.NL xs)).getD (1 + i) 0 = c + i := fun i hi => by
  rw [Nat.add_comm 1 i, List.getD_cons_succ]; exact fd_ hi
 obtain ⟨q1, q2⟩ := t.BL_map xs (l :: List.range' c (t.NL xs)) 1 c hη
 have hB : (t.lst T z 0 xs).map (rnB (l :: List.range' c (t.NL xs))) = ⟨T, z, t.OR c xs⟩ :: t.BL c xs := by
  simp only [lst, Nat.zero_add, List.map_cons, rnB, q1, q2]
 refine ⟨h1, ?_, by rw [lst_len]; simp, Nat.zero_le _, rfl, ?_, ?_, fun b hb => ?_, fun i b hb => ?_⟩
 ·rw [h2]; simp only [rns, rn, List.getD_cons_zero]; exact e2_ _
 ·rw [List.nodup_cons]
  exact ⟨fun h => by rw [List.mem_range'_1] at h; omega, List.nodup_range'⟩
 ·rw [lst_len]; simp only [cls, V.cl, Bool.and_true, decide_eq_true_eq]; omega
 ·rw [lst_len]; exact t.lst_cl T z xs 0 _ (by omega) b hb
 ·have hb' : (⟨T, z, t.OR c xs⟩ :: t.BL c xs)[i]? = some (rnB (l :: List.range' c (t.NL xs)) b) := by rw [← hB, List.getElem?_map, hb]; rfl
  rw [hm]
  cases i with
  | zero => simp only [List.getD_cons_zero, gz_, if_true]; simpa using hb'
  | succ i =>
   have hi : i < t.NL xs := by
    have := (List.getElem?_eq_some_iff.1 hb).1
    rw [lst_len] at this; omega
   rw [List.getD_cons_succ, fd_ hi, gz_, if_neg (by omega), cb_]
   simpa using hb'
end
theorem subM_lst {T z l c : Nat} {xs : List α} {k : Nat} {b0 : Blk} {zc : List V} {U : List Nat} (hU : ∀ i, i < t.NL (xs.take k) → us U (c + i) = true) (hl : us U l = true) (hlc : l < c) (hz : ∀ u, al_ u zc = true) (hb : b0 = ⟨T, z, dj_ (t.OR c xs) zc k⟩) :
  an_ ((l, b0) :: bd_ c (t.BL c (xs.take k))) U ((l, ⟨T, z, dj_ (t.OR c xs) zc k⟩) :: bd_ c (t.BL c (xs.take k))) := by
 obtain ⟨q1, q2⟩ := t.BL_inn (xs.take k) c (us U) hU
 simp only [an_]
 refine ⟨by simp [aw_, hb], hl, sx_ (by rw [ug_]; exact q1) (hz _), nw_ fun i b hb' => ?_⟩
 have hi : i < t.NL (xs.take k) := by rw [← t.BL_len _ c]; exact (List.getElem?_eq_some_iff.1 hb').1
 refine ⟨?_, hU i hi, q2 b (List.mem_of_getElem? hb')⟩
 rw [gz_, if_neg (by omega), cb_]; exact hb'
theorem wk0 {T z l c n : Nat} {xs : List α} {zc : List V} (hn : n = xs.length) (hz : ∀ u, al_ u zc = true) : some (⟨T, z, List.replicate n zc⟩ : Blk) = some ⟨T, z, dj_ (t.OR c xs) zc 0⟩ ∧ am_ (us (l :: List.range' c (t.NL []))) (dj_ (t.OR c xs) zc 0) = true ∧ an_ [(l, ⟨T, z, List.replicate n zc⟩)] (l :: List.range' c (t.NL [])) (bd_ c (t.BL c [])) :=
 ⟨by rw [go_, OR_len, hn], sx_ (by simp [am_]) (hz _), by simp only [BL, bd_, an_]⟩
theorem fil_set {c : Nat} {xs : List α} {k : Nat} {d : α} (hk : k < xs.length) (zc : List V) : (dj_ (t.OR c xs) zc k).set k (t.O (c + t.NL (xs.take k)) (xs.getD k d)) = dj_ (t.OR c xs) zc (k + 1) := by
 rw [← gw_ (by rw [OR_len]; exact hk), ag0_ (d := d) t hk]
theorem wkS {T z l c : Nat} {xs : List α} {k : Nat} {d : α} {zc : List V} (hk : k < xs.length) (hlc : l < c) (hO : ∀ b a, (t.O b a).length = z) (hz : ∀ u, al_ u zc = true) (hzl : zc.length = z) :
  some (⟨T, z, (dj_ (t.OR c xs) zc k).set k (t.O (c + t.NL (xs.take k)) (xs.getD k d) ++ List.drop (t.O (c + t.NL (xs.take k)) (xs.getD k d)).length ((dj_ (t.OR c xs) zc k).getD k []))⟩ : Blk) = some ⟨T, z, dj_ (t.OR c xs) zc (k + 1)⟩ ∧
   am_ (us (l :: List.range' c (t.NL (xs.take (k + 1))))) (dj_ (t.OR c xs) zc (k + 1)) = true ∧
   an_ ((l, ⟨T, z, (dj_ (t.OR c xs) zc k).set k (t.O (c + t.NL (xs.take k)) (xs.getD k d) ++ List.drop (t.O (c + t.NL (xs.take k)) (xs.getD k d)).length ((dj_ (t.OR c xs) zc k).getD k []))⟩) :: bd_ c (t.BL c (xs.take (k + 1)))) (l :: List.range' c (t.NL (xs.take (k + 1)))) (bd_ c (t.BL c (xs.take (k + 1)))) := by
 have hU : ∀ i, i < t.NL (xs.take (k + 1)) → us (l :: List.range' c (t.NL (xs.take (k + 1)))) (c + i) = true := fun i hi => by
  simp only [us, List.contains_eq_mem, Bool.or_eq_true, decide_eq_true_eq, List.mem_cons, List.mem_range'_1]
  exact .inr (.inr ⟨by omega, by omega⟩)
 have hl : us (l :: List.range' c (t.NL (xs.take (k + 1)))) l = true := by simp [us]
 have hd := ac7_ (t.OR_rows hO c xs) hzl k k
 rw [hO, hd, List.append_nil, t.fil_set hk]
 have h := t.subM_lst (T := T) (z := z) (l := l) (c := c) (xs := xs) (k := k + 1) (zc := zc) hU hl hlc hz rfl
 simp only [an_] at h
 exact ⟨rfl, h.2.2.1, h.2.2.2⟩
end TT
mutual
theorem ae8_ (m : Mem) : ∀ v : V, LD m v v
 | .sl t r => by simp only [LD]; exact .inl (fk_ _)
 | .ag cs => .ag (ax_ m cs)
 | .i _ _ | .b _ | .s _ | .ow _ _ _ _ | .pt _ _ _ _ | .rp _ | .np | .q _ | .fn _ _ _ | .tu _ | .gd _ _ | .no => by simp only [LD]; exact fk_ _
theorem ax_ (m : Mem) : ∀ vs : List V, LDs m vs vs
 | [] => .nil
 | v :: vs => .cons (ae8_ m v) (ax_ m vs)
end
theorem ahz_ {h c m n : Nat} (hh : h < c) (h10 : 10 ≤ c) (hn : c + m + n ≤ 1000000000) : ((List.range' (c + m) n).all fun x => !(decide (x < 10) || decide (1000000000 ≤ x) || (x == h || (List.range' c m).contains x))) = true := by
 rw [List.all_eq_true]
 intro x hx
 rw [List.mem_range'_1] at hx
 simp only [Bool.not_eq_true', Bool.or_eq_false_iff, decide_eq_false_iff_not, List.contains_eq_mem, beq_eq_false_iff_ne, List.mem_range'_1]
 omega
end
section
set_option maxRecDepth 100000
set_option maxHeartbeats 4000000
/-! lists -/
end
section
open Go.RowKit
set_option maxRecDepth 100000
set_option maxHeartbeats 4000000
/-! ### the walks -/
end
end Go.Proofs.YtefmbmafdgedmaaGreatDoor
