/- Tree logic, part 33: regions of which the order is drawn, where two operations touch names of rows. Conditions: none. -/
import Derived.Test.YtefmbmafdgedmaaGreatDoorK31
import Derived.Test.YtefmbmafdgedmaaGreatDoorK20
import Derived.Test.YtefmbmafdgedmaaGreatDoorKt
set_option linter.unusedVariables false
set_option linter.unusedSimpArgs false
namespace Go.Proofs.YtefmbmafdgedmaaGreatDoor
section
open Go.RowKit
theorem ts_ {ops : Array Oper} {infos : List (List Nat × List Nat)} (c a b : Nat) (A B : List Nat × List Nat) (hab : a ≠ b) (hlo : ∀ j i, j ≠ a → j ≠ b → infos[j]? = some i → loI c i)
  (hA : ∀ p, infos[a]? = some p → (∀ x ∈ p.1, x < c → x ∈ A.1) ∧ ∀ x ∈ p.2, x < c → x ∈ A.2) (hBb : ∀ p, infos[b]? = some p → (∀ x ∈ p.1, x < c → x ∈ B.1) ∧ ∀ x ∈ p.2, x < c → x ∈ B.2)
  (hd : ∀ p q, infos[a]? = some p → infos[b]? = some q → ∀ x, c ≤ x → ¬ (x ∈ p.2 ∧ x ∈ q.1) ∧ ¬ (x ∈ q.2 ∧ x ∈ p.1))
  (hB : fw_ ops ((infos.set a A).set b B) = true) : fw_ ops infos = true := by
 simp only [fw_, T5_] at hB ⊢
 refine ⟨hB.1, ?_⟩
 have h2 := hB.2
 rw [List.all_eq_true] at h2 ⊢
 rintro ⟨p, j⟩ hp
 rw [List.all_eq_true]
 rintro ⟨q, i⟩ hq
 obtain ⟨k, hk⟩ := List.mem_iff_getElem?.1 hp
 rw [List.getElem?_zipIdx] at hk
 obtain ⟨p', hp', e⟩ := Option.map_eq_some_iff.1 hk
 simp only [Nat.zero_add, Prod.mk.injEq] at e
 obtain ⟨rfl, rfl⟩ := e
 obtain ⟨m, hm⟩ := List.mem_iff_getElem?.1 hq
 rw [List.getElem?_take] at hm
 split at hm
 case isFalse => cases hm
 rename_i hmj
 rw [List.getElem?_zipIdx] at hm
 obtain ⟨q', hq', e⟩ := Option.map_eq_some_iff.1 hm
 simp only [Nat.zero_add, Prod.mk.injEq] at e
 obtain ⟨rfl, rfl⟩ := e
 rw [List.getElem?_zip_eq_some] at hp' hq'
 -- what stands in the changed list
 have get : ∀ (x : Nat) (z : Oper × (List Nat × List Nat)), ops.toList[x]? = some z.1 → infos[x]? = some z.2 → ∃ z2 : List Nat × List Nat, (ops.toList.zip ((infos.set a A).set b B))[x]? = some (z.1, z2) ∧ ((∀ y ∈ z.2.1, y < c → y ∈ z2.1) ∧ ∀ y ∈ z.2.2, y < c → y ∈ z2.2) := fun x z h1 h3 => by
  have hx := (List.getElem?_eq_some_iff.1 h3).1
  by_cases ea : x = a
  ·subst ea
   refine ⟨A, ?_, hA _ h3⟩
   rw [List.getElem?_zip_eq_some]
   exact ⟨h1, by rw [List.getElem?_set_ne (Ne.symm hab), List.getElem?_set_self hx]⟩
  ·by_cases eb : x = b
   ·subst eb
    refine ⟨B, ?_, hBb _ h3⟩
    rw [List.getElem?_zip_eq_some]
    exact ⟨h1, by rw [List.getElem?_set_self (by simpa using hx)]⟩
   ·refine ⟨z.2, ?_, fun y hy _ => hy, fun y hy _ => hy⟩
    rw [List.getElem?_zip_eq_some]
    exact ⟨h1, by rw [List.getElem?_set_ne (Ne.symm eb), List.getElem?_set_ne (Ne.symm ea)]; exact h3⟩
 obtain ⟨z1, g1, l1⟩ := get k p' hp'.1 hp'.2
 obtain ⟨z2, g2, l2⟩ := get m q' hq'.1 hq'.2
 have h3 := h2 ((p'.1, z1), k) (List.mem_of_getElem? (i := k) (by rw [List.getElem?_zipIdx, g1]; simp))
 rw [List.all_eq_true] at h3
 have h4 := h3 ((q'.1, z2), m) (List.mem_of_getElem? (i := m) (by rw [List.getElem?_take_of_lt hmj, List.getElem?_zipIdx, g2]; simp))
 -- no high name in both
 have hh : ∀ x, c ≤ x → ¬ (x ∈ q'.2.2 ∧ x ∈ p'.2.1) ∧ ¬ (x ∈ p'.2.2 ∧ x ∈ q'.2.1) := fun x hx => by
  have lo : ∀ y (z : Oper × (List Nat × List Nat)), y ≠ a → y ≠ b → infos[y]? = some z.2 → x ∉ z.2.1 ∧ x ∉ z.2.2 := fun y z e1 e2 h => by
   obtain ⟨r1, r2⟩ := hlo y _ e1 e2 h
   exact ⟨fun h => by have := r1 x h; omega, fun h => by have := r2 x h; omega⟩
  have hmk : m ≠ k := by omega
  by_cases ka : k = a
  ·by_cases mb : m = b
   ·have := hd _ _ (ka ▸ hp'.2) (mb ▸ hq'.2) x hx
    exact ⟨this.2, this.1⟩
   ·have := lo m q' (by omega) mb hq'.2
    exact ⟨fun h => this.2 h.1, fun h => this.1 h.2⟩
  ·by_cases kb : k = b
   ·by_cases ma : m = a
    ·exact hd _ _ (ma ▸ hq'.2) (kb ▸ hp'.2) x hx
    ·have := lo m q' ma (by omega) hq'.2
     exact ⟨fun h => this.2 h.1, fun h => this.1 h.2⟩
   ·have := lo k p' ka kb hp'.2
    exact ⟨fun h => this.1 h.2, fun h => this.2 h.1⟩
 have any1 : ∀ (s t s' t' : List Nat), (∀ x, c ≤ x → ¬ (x ∈ s ∧ x ∈ t)) → (∀ x ∈ s, x < c → x ∈ s') → (∀ x ∈ t, x < c → x ∈ t') → s'.any (t'.contains ·) = false → s.any (t.contains ·) = false := fun s t s' t' n1 n2 n3 n4 => by
  rw [List.any_eq_false] at n4 ⊢
  intro x hx ht
  have ht' : x ∈ t := by simpa using ht
  rcases Nat.lt_or_ge x c with h | h
  ·exact n4 x (n2 x hx h) (by simpa using n3 x ht' h)
  ·exact n1 x h ⟨hx, ht'⟩
 show (!ek_ ops q'.1 q'.2 p'.1 p'.2 || _) = true
 have h5 : (!ek_ ops q'.1 z2 p'.1 z1 || ((pe_ ops.toList []).getD k 0).testBit m) = true := h4
 cases hbit : ((pe_ ops.toList []).getD k 0).testBit m with
 | true => simp
 | false =>
  rw [hbit, Bool.or_false, Bool.not_eq_true'] at h5
  rw [Bool.or_false, Bool.not_eq_true']
  unfold ek_ at h5 ⊢
  simp only [Bool.or_eq_false_iff] at h5 ⊢
  exact ⟨⟨h5.1.1, any1 _ _ _ _ (fun x hx => (hh x hx).1) l2.2 l1.1 h5.1.2⟩, any1 _ _ _ _ (fun x hx => (hh x hx).2) l1.2 l2.1 h5.2⟩
end
section
open Go.RowKit
set_option maxRecDepth 100000
set_option maxHeartbeats 4000000
theorem ih_ : ttE.N E0 = 1 := by rw [gi_]; rfl
theorem nr_ (k n : Int) (s : Str) : ttE.N (.mk k n s []) = 1 := by rw [gi_]; rfl
theorem p9_ (k n : Int) (s : Str) (e : E) : ttE.N (.mk k n s [e]) = ttE.N e + 1 := by rw [gi_]; rfl
theorem uw_ (k n : Int) (s : Str) (e d : E) : ttE.N (.mk k n s [e, d]) = ttE.N e + ttE.N d + 1 := by rw [gi_]; rfl
theorem aeb_ : ∀ (l : List Str) (e : E) (d : Int), ttE.N (asL l e d).1 + 3 * (asL l e d).2.left.length ≤ ttE.N e + 3 * l.length
 | [], e, d => by simp [asL]
 | [w], e, d => by
  simp only [asL]; split
  ·simp only [p9_, List.length_nil, List.length_singleton]; omega
  ·simp
 | w :: t :: r, e, d => by
  simp only [asL]; split
  ·have := aeb_ r (.mk 4 0 t [e]) d
   rw [p9_] at this
   simp only [T7_]; omega
  ·simp
theorem ahw_ (s : RS) (e : E) : ttE.N (asR s e).1 + 3 * (asR s e).2.left.length ≤ ttE.N e + 3 * s.left.length := by
 unfold asR; split
 ·exact Nat.le_refl _
 ·exact aeb_ _ _ _
theorem i_N : ∀ n : Nat, (∀ t s, ttE.N (ce_ n t s).1 + 3 * (ce_ n t s).2.left.length ≤ 3 * s.left.length + 1) ∧ (∀ t e s, ttE.N (dd_ n t e s).1 + 3 * (dd_ n t e s).2.left.length ≤ ttE.N e + 3 * s.left.length) ∧ (∀ s, ttE.N (dx_ n s).1 + 3 * (dx_ n s).2.left.length ≤ 3 * s.left.length + 1) ∧ (∀ w s, ttE.N (dw_ n w s).1 + 3 * (dw_ n w s).2.left.length ≤ 3 * s.left.length + 1)
 | 0 => ⟨fun t s => by simp only [ce_, ih_]; omega, fun t e s => by simp only [dd_]; omega, fun s => by simp only [dx_, ih_]; omega, fun w s => by simp only [dw_, ih_]; omega⟩
 | n + 1 => by
  obtain ⟨h1, h2, h3, h4⟩ := i_N n
  refine ⟨fun t s => ?_, fun t e s => ?_, fun s => ?_, fun w s => ?_⟩
  ·simp only [ce_]
   split
   ·exact h3 s
   ·have := h2 t (ce_ n (t + 1) s).1 (ce_ n (t + 1) s).2
    have := h1 (t + 1) s
    omega
  ·simp only [dd_]
   split
   ·rename_i h
    have hl : (bq_ s).left.length + 1 = s.left.length := by
     unfold bq_
     cases hl : s.left with
     | nil => exact absurd hl h.2.1
     | cons x r => rfl
    have q1 := h1 (t + 1) (bq_ s)
    have q2 := h2 t (.mk 3 0 (b3_ s) [e, (ce_ n (t + 1) (bq_ s)).1]) (ce_ n (t + 1) (bq_ s)).2
    rw [uw_] at q2
    omega
   ·exact Nat.le_refl _
  ·simp only [dx_]
   have q1 := h4 (b3_ s) (bq_ s)
   have q2 := ahw_ (dw_ n (b3_ s) (bq_ s)).2 (dw_ n (b3_ s) (bq_ s)).1
   have q3 := cv_ s
   omega
  ·simp only [dw_]
   split
   ·split
    ·simp only [ih_]; omega
    ·have q := h1 1 { s with deep := s.deep + 1 }
     dsimp only at q ⊢
     split
     ·exact q
     ·have q3 := cv_ (ce_ n 1 { s with deep := s.deep + 1 }).2
      dsimp only
      omega
   ·split
    ·simp only [nr_]; omega
    ·split
     ·simp only [nr_]; omega
     ·simp only [ih_]; omega
section
variable {E : Env}
def bsN (E : Env) (l : Nat) : CallC E where
 ef := fun o s => match o.op with
  | .buildSlice t n ps => match gn_ E.P t with | some (el, z, _, zc) => bsE l el z (qt_ (h8_ z (List.replicate n zc) (fm_ E s ps))) n | none => { v := .no }
  | _ => { v := .no }
 ob := (bsO E).ob
 ok := fun o s ⟨h1, h2⟩ => by
  obtain ⟨dst, op, ty, pos, after, guard⟩ := o
  cases op <;> try exact h2.elim
  rename_i t n ps _
  dsimp only at h2 ⊢
  cases ht : gn_ E.P t with
  | none => simp [ht] at h2
  | some x =>
   obtain ⟨el, z, y, zc⟩ := x
   simp only [ht] at h2 ⊢
   obtain ⟨h3, h4, h5, h6, h7⟩ := h2
   obtain ⟨cs, hcs⟩ := Option.isSome_iff_exists.1 h7
   rw [hcs]
   exact if_ (b8_ h1) rfl (fc_ ht) h3 h4 h5 h6 hcs
structure SegP (p c : Nat) (rs rs' : List V) (b1 : Blk) (Lr bs : List Blk) : Prop where
 lt : p < c
 pure : cr_ b1.rows = true
 len : bs.length = Lr.length
 map : Lr.map (rnB (p :: List.range' c Lr.length)) = bs
 res : rns (p :: List.range' c Lr.length) rs = rs'
 cl : cls (Lr.length + 1) rs = true
 clr : ∀ b ∈ Lr, clr (Lr.length + 1) b.rows = true
def bc_ {f : FuncId} {vs rs rs' : List V} {b0 b1 : Blk} {Lr bs : List Blk} (p c : Nat) (A : ACall E f vs [b0] rs (b1 :: Lr)) (H : SegP p c rs rs' b1 Lr bs) : CallC E where
 ef := fun _ _ => { v := f7_ rs', wr := (p, some b1) :: ed_ c bs, nw := List.range' c bs.length, rd := [p] }
 ob := fun o s => pcB E o s = true ∧ j4_ E f (rns [p] vs) o s ∧ s.m p = some b0 ∧ cls 1 vs = true ∧ cr_ b0.rows = true
 ok := fun o s ⟨h1, h2, h3, h4, h5⟩ => by
  obtain ⟨fo, as', ts, first, caps, ho, hf, ha⟩ := h4_ h2
  have hb0 : ∀ η : List Nat, rnB η b0 = b0 := fun η => by unfold rnB; rw [c8_ _ _ h5]
  have hb1 : ∀ η : List Nat, rnB η b1 = b1 := fun η => by unfold rnB; rw [c8_ _ _ H.pure]
  have := mz_ (E := E) (s := s) (o := o) [p] (p :: List.range' c Lr.length) (b8_ h1) ho hf A ha rfl (by simp) (by simp) (by simp) (by
    rw [List.nodup_cons]
    exact ⟨fun h => by rw [List.mem_range'_1] at h; have := H.lt; omega, List.nodup_range'⟩) (fun i b hb => by
   match i, hb with
   | 0, hb => simp only [List.getElem?_cons_zero, Option.some.injEq] at hb; subst hb; rw [hb0]; exact h3) (by simpa using h4) (fun b hb => by
    simp only [List.mem_singleton] at hb; subst hb; exact gx_ _ _ h5) (by simpa using H.cl) (fun b hb => by
    rcases List.mem_cons.1 hb with rfl | hb
    ·exact gx_ _ _ H.pure
    ·simpa using H.clr b hb)
  have e2 : d8_ [p] (p :: List.range' c Lr.length) rs (b1 :: Lr) = { v := f7_ rs', wr := (p, some b1) :: ed_ c bs, nw := List.range' c bs.length, rd := [p] } := by
   have e : Lr.map (fun b => some (rnB (p :: List.range' c Lr.length) b)) = bs.map some := by rw [← H.map, List.map_map]; rfl
   simp only [d8_, H.res, List.map_cons, hb1, e, List.zip_cons_cons, ed_, H.len, List.length_singleton, List.drop_succ_cons, List.drop_zero]
  rw [e2] at this
  exact this
end
namespace TT
variable {α : Type} (t : TT α)
theorem segP (p c : Nat) (a : α) (b1 : Blk) (h : p < c) (h1 : cr_ b1.rows = true) : SegP p c [.ag (t.O 1 a)] [.ag (t.O c a)] b1 (t.B 1 a) (t.B c a) := by
 obtain ⟨q1, q2⟩ := t.map a (p :: List.range' c (t.N a)) 1 c fun i hi => by rw [Nat.add_comm 1 i, List.getD_cons_succ]; exact b2_ hi
 obtain ⟨q3, q4⟩ := t.cl a 1 (t.N a + 1) (by omega)
 refine ⟨h, h1, by rw [t.len, t.len], ?_, ?_, ?_, fun b hb => ?_⟩
 ·rw [t.len]; exact q2
 ·rw [t.len]; simp only [rns, rn, q1]
 ·rw [t.len]; simp only [cls, V.cl, q3, Bool.and_self]
 ·rw [t.len]; exact q4 b hb
variable {E : Env} {fn : Func} {s : St} {lr : List ResultVar}
theorem out_oneP {c : Nat} {a : α} {b1 : Blk} (hl : fn.results.toList = lr) (h1 : a4_ E.P s lr) (h2 : lr.map (bg_ E.P s) = [.ag (t.O c a)]) (hc : 0 < c) (hp : cr_ b1.rows = true) (h0 : s.m 0 = some b1) (hm : ∀ i b, (t.B c a)[i]? = some b → s.m (c + i) = some b) : Out E fn 1 [.ag (t.O 1 a)] (b1 :: t.B 1 a) (0 :: List.range' c (t.N a)) s := by
 subst hl
 have H := t.segP 0 c a b1 hc hp
 have g2 := H.map
 have g3 := H.res
 have g4 := H.cl
 have g5 := H.clr
 rw [t.len] at g2 g3 g4 g5
 refine ⟨h1, ?_, by simp [t.len], by simp, by simp, ?_, ?_, fun b hb => ?_, fun i b hb => ?_⟩
 ·rw [h2, g3]; exact eh_ _
 ·rw [List.nodup_cons]
  exact ⟨fun h => by rw [List.mem_range'_1] at h; omega, List.nodup_range'⟩
 ·simpa [t.len] using g4
 ·simp only [T7_, t.len]
  rcases List.mem_cons.1 hb with rfl | hb
  ·exact gx_ _ _ hp
  ·exact g5 b hb
 ·cases i with
  | zero =>
   simp only [List.getElem?_cons_zero, Option.some.injEq] at hb; subst hb
   simp only [List.getD_cons_zero]
   rw [h0]; unfold rnB; rw [c8_ _ _ hp]
  | succ i =>
   simp only [List.getElem?_cons_succ] at hb
   have hi : i < t.N a := by rw [← t.len a 1]; exact (List.getElem?_eq_some_iff.1 hb).1
   rw [List.getD_cons_succ, b2_ hi]
   refine hm i _ ?_
   rw [← g2, List.getElem?_map, hb]; rfl
end TT
end
end Go.Proofs.YtefmbmafdgedmaaGreatDoor
