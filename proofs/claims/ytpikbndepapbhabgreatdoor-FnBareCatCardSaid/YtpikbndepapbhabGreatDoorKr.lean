/- Plain laws: what lines come to. Conditions: none. -/
import Derived.Test.YtpikbndepapbhabGreatDoorKc
import Derived.RangeFuncBox
import Derived.RangeFuncLeaves
import Derived.Shelf.Abstract
import Derived.WalkKit
import Derived.OwnWalkIn
import Derived.TacticsInMore
import Derived.LoopNIn
import Derived.LoopIn
import Derived.Test.YtpikbndepapbhabGreatDoorKe
import Derived.Test.YtpikbndepapbhabGreatDoorKx
import Derived.Test.YtpikbndepapbhabGreatDoorKb
set_option linter.unusedVariables false
set_option linter.unusedSimpArgs false
namespace Go.Proofs.YtpikbndepapbhabGreatDoor
section
def nr_ (n : Int) : Int := max (-1000000) (min 1000000 n)
def hf_ (l : List Str) : Nat → Str → Int
 | 0, _ => -1
 | k + 1, s => if l.getD k [] = s then (k : Int) else hf_ l k s
def fw_ (l : List Str) (s : Str) : Int := hf_ l l.length s
theorem ug_ (l : List Str) (s : Str) : ∀ k, -1 ≤ hf_ l k s ∧ hf_ l k s < k
 | 0 => by simp [hf_]
 | k + 1 => by
  have := ug_ l s k
  simp only [hf_]; split <;> omega
theorem uy_ (l : List Str) (s : Str) : -1 ≤ fw_ l s ∧ fw_ l s < l.length := ug_ l s l.length
def twI (s : Str) (a b : Int) : Int := if s = [43] then nr_ (a + b) else if s = [45] then nr_ (a - b) else if s = [42] then nr_ (a * b) else if a < b then 1 else 0
def ky_ (s : Str) (x y : Int × Bool) : Int × Bool := if x.2 && y.2 then (twI s x.1 y.1, true) else (0, false)
mutual
def rk : E → List Str → List Int → Int × Bool
 | .mk k n s kids, N, M =>
  if k = 1 then (n, true)
  else if k = 2 then (if fw_ N s < 0 then (0, false) else (nr_ (M.getD (fw_ N s).toNat 0), true))
  else if k = 4 then rkA kids N M
  else ky_ s (rkA kids N M) (rkB kids N M)
def rkA : List E → List Str → List Int → Int × Bool
 | [], _, _ => (0, false)
 | e :: _, N, M => rk e N M
def rkB : List E → List Str → List Int → Int × Bool
 | [], _, _ => (0, false)
 | _ :: r, N, M => rkA r N M
end
theorem v2_ {e : E} (h : e.kind = 1) (N : List Str) (M : List Int) : rk e N M = (e.n, true) := by
 cases e; simp only [E.kind] at h; subst h; simp [rk, E.n]
theorem rg_ {e : E} (h : e.kind = 2) (N : List Str) (M : List Int) : rk e N M = (if fw_ N e.s < 0 then (0, false) else (nr_ (M.getD (fw_ N e.s).toNat 0), true)) := by
 cases e; simp only [E.kind] at h; subst h; simp [rk, E.s]
theorem aae_ {e : E} (h : e.kind = 4) (hk : e.kids.length = 1) (N : List Str) (M : List Int) : rk e N M = rk (e.kids.getD 0 E0) N M := by
 cases e with
 | mk k n s kids =>
  simp only [E.kind, E.kids] at h hk ⊢
  subst h
  match kids, hk with
  | [x], _ => simp [rk, rkA]
theorem v9_ {e : E} (h : e.kind = 3) (hk : e.kids.length = 2) (N : List Str) (M : List Int) : rk e N M = ky_ e.s (rk (e.kids.getD 0 E0) N M) (rk (e.kids.getD 1 E0) N M) := by
 cases e with
 | mk k n s kids =>
  simp only [E.kind, E.kids, E.s] at h hk ⊢
  subst h
  match kids, hk with
  | [x, y], _ => simp [rk, rkA, rkB]
theorem w4_ (n : Int) : -1000000 ≤ nr_ n ∧ nr_ n ≤ 1000000 := by unfold nr_; omega
theorem ah1_ (s : Str) (a b : Int) : -1000000 ≤ twI s a b ∧ twI s a b ≤ 1000000 := by
 unfold twI
 have := w4_
 split
 ·exact this _
 ·split
  ·exact this _
  ·split
   ·exact this _
   ·split <;> omega
theorem wu_ (d : Nat) : ∀ (e : E) (N : List Str) (M : List Int), form e d = true → -1000000 ≤ (rk e N M).1 ∧ (rk e N M).1 ≤ 1000000 := by
 induction d with
 | zero => intro e N M h; have := (bj_ h).1; omega
 | succ d ih =>
  intro e N M h
  have e1 : ((d + 1 : Nat) : Int) - 1 = (d : Int) := by omega
  rcases (bj_ h).2 with ⟨k1, h1, h2, h3, h4⟩ | ⟨k1, _⟩ | ⟨k1, h1, h2, h3, h4, h5⟩ | ⟨k1, h1, h2, h3, h4⟩
  ·rw [v2_ k1]; dsimp only; omega
  ·rw [rg_ k1]; split
   ·exact ⟨by decide, by decide⟩
   ·exact w4_ _
  ·rw [v9_ k1 h3]; unfold ky_; split
   ·exact ah1_ _ _ _
   ·exact ⟨by decide, by decide⟩
  ·rw [aae_ k1 h3]; exact ih _ _ _ (by rw [e1] at h4; exact h4)
def ed_ (b : Bl) (N : List Str) (M : List Int) : Int × Int × Bool :=
 if (rk b.expr N M).2 = true ∧ b.kind = 3 then ((rk b.expr N M).1, (rk b.thn N M).1, (rk b.thn N M).2) else ((rk b.expr N M).1, (rk b.expr N M).1, (rk b.expr N M).2)
structure Rs where
 names : List Str
 nums : List Int
 said : List Int
 ok : Bool
def dp_ (r : Rs) (b : Bl) : Rs :=
 if r.ok = false then r
 else if b.kind = 0 then r
 else if (ed_ b r.names r.nums).2.2 = false then { r with ok := false }
 else if b.kind = 1 then { r with names := r.names ++ [b.name], nums := r.nums ++ [(ed_ b r.names r.nums).1] }
 else if b.kind = 2 ∨ (ed_ b r.names r.nums).1 ≠ 0 then { r with said := r.said ++ [(ed_ b r.names r.nums).2.1] }
 else r
def bv_ (l : List Bl) : Rs := l.foldl dp_ ⟨[], [], [], true⟩
def lok (l : List Bl) : Bool := decide (1 ≤ l.length) && decide (l.length ≤ 16) && l.all bok
def ca_ (l : List Bl) : List Int × Bool := if lok l then ((bv_ l).said, (bv_ l).ok) else ([], false)
theorem acu_ {r : Rs} (h : r.ok = false) (b : Bl) : dp_ r b = r := by simp [dp_, h]
theorem t8_ : ∀ (l : List Bl) (r : Rs), r.ok = false → l.foldl dp_ r = r
 | [], _, _ => rfl
 | b :: l, r, h => by rw [List.foldl_cons, acu_ h]; exact t8_ l r h
theorem zi_ (r : Rs) (b : Bl) : r.said <+: (dp_ r b).said := by
 unfold dp_
 split
 ·exact List.prefix_refl _
 split
 ·exact List.prefix_refl _
 split
 ·exact List.prefix_refl _
 split
 ·exact List.prefix_refl _
 split
 ·exact List.prefix_append _ _
 ·exact List.prefix_refl _
theorem ld_ : ∀ (l : List Bl) (r : Rs), r.said <+: (l.foldl dp_ r).said
 | [], _ => List.prefix_refl _
 | b :: l, r => (zi_ r b).trans (ld_ l (dp_ r b))
theorem z7_ {r : Rs} (b : Bl) (h : r.names.length = r.nums.length) : (dp_ r b).names.length = (dp_ r b).nums.length ∧ (dp_ r b).names.length ≤ r.names.length + 1 ∧ (dp_ r b).said.length ≤ r.said.length + 1 := by
 unfold dp_
 split
 ·exact ⟨h, by omega, by omega⟩
 split
 ·exact ⟨h, by omega, by omega⟩
 split
 ·exact ⟨h, by dsimp only; omega, by dsimp only; omega⟩
 split
 ·simp [h]
 split
 ·simp [h]
 ·exact ⟨h, by omega, by omega⟩
theorem f8_ {l : List Bl} {k : Nat} (h : k < l.length) : bv_ (l.take (k + 1)) = dp_ (bv_ (l.take k)) (l.getD k B0) := by
 unfold bv_
 rw [List.take_add_one, T6_ h, List.foldl_append, T8_, T6_ h]; rfl
theorem sx_ (l : List Bl) : ∀ k, k ≤ l.length → (bv_ (l.take k)).names.length = (bv_ (l.take k)).nums.length ∧ (bv_ (l.take k)).names.length ≤ k ∧ (bv_ (l.take k)).said.length ≤ k
 | 0, _ => by simp [bv_]
 | k + 1, h => by
  have := sx_ l k (by omega)
  have h2 := z7_ (l.getD k B0) this.1
  rw [f8_ (by omega)]
  omega
theorem p5_ {l : List Bl} {k : Nat} (hk : k ≤ l.length) (h : (bv_ (l.take k)).ok = false) : bv_ l = bv_ (l.take k) := by
 conv => lhs; rw [← List.take_append_drop k l]
 unfold bv_ at h ⊢
 rw [List.foldl_append]
 exact t8_ _ _ h
theorem afc_ (r : Rs) : dp_ r B0 = r := by
 unfold dp_; split
 ·rfl
 ·rw [if_pos (show B0.kind = 0 from rfl)]
theorem aha_ : bok B0 = true := by decide
theorem j3_ (a b : List Bl) : bv_ (a ++ b) = b.foldl dp_ (bv_ a) := by unfold bv_; rw [List.foldl_append]
theorem u9_ (a b : List Bl) (h : a.length + b.length < 16) (ha : lok a = true) : ca_ (a ++ B0 :: b) = ca_ (a ++ b) := by
 have e1 : lok (a ++ B0 :: b) = lok (a ++ b) := by
  simp only [lok, T5_, T3_] at ha ⊢
  simp only [T2_, T7_, List.all_append, List.all_cons, aha_, Bool.true_and]
  rw [show decide (1 ≤ a.length + (b.length + 1)) = decide (1 ≤ a.length + b.length) by simp; omega, show decide (a.length + (b.length + 1) ≤ 16) = decide (a.length + b.length ≤ 16) by simp; omega]
 have e2 : bv_ (a ++ B0 :: b) = bv_ (a ++ b) := by
  rw [j3_, j3_, List.foldl_cons, afc_]
 unfold ca_
 rw [e1, e2]
theorem w6_ {a b : List Bl} (h : a.length + b.length < 16) (ha : lok a = true) : lok (a ++ b) = b.all bok := by
 simp only [lok, T5_, T3_] at ha ⊢
 rw [List.all_append, ha.2, Bool.true_and, T2_, decide_eq_true (by omega : 1 ≤ a.length + b.length), decide_eq_true (by omega : a.length + b.length ≤ 16)]; rfl
theorem aa3_ {a b : List Bl} (h : a.length + b.length < 16) (ha : (ca_ a).2 = true) : b.all bok = true ∧ (ca_ a).1 <+: (ca_ (a ++ b)).1 ∨ b.all bok = false ∧ ca_ (a ++ b) = ([], false) := by
 unfold ca_ at ha
 split at ha
 next hl =>
  cases hb : b.all bok with
  | false => right; refine ⟨rfl, ?_⟩; unfold ca_; rw [w6_ h hl, hb]; rfl
  | true =>
   left; refine ⟨rfl, ?_⟩
   unfold ca_; rw [w6_ h hl, hb, hl, if_pos rfl, if_pos rfl, j3_]
   exact ld_ _ _
 next => cases ha
end
section
open Go.RowKit Go.Shelf
attribute [local go_sem] Oper.semAt_some
def gq_ {α : Type} (f : Nat → α) (n m : Nat) : List α := (((List.range n).drop m).reverse).map f
theorem qp_ {α : Type} (f : Nat → α) (n : Nat) : gq_ f n n = [] := by simp [gq_]
theorem nu_ {α : Type} (f : Nat → α) {n j : Nat} (h : j < n) : gq_ f n j = gq_ f n (j + 1) ++ [f j] := by
 unfold gq_
 rw [List.drop_eq_getElem_cons (by simpa using h)]
 simp
theorem z0_ {α : Type} (f : Nat → α) (n m : Nat) : (gq_ f n m).length = n - m := by simp [gq_]
theorem qd_ {α : Type} (f : Nat → α) {n m j : Nat} (h1 : m ≤ j) (h2 : j < n) : f j ∈ gq_ f n m := by
 simp only [gq_, List.mem_map, List.mem_reverse]
 refine ⟨j, List.mem_iff_getElem?.2 ⟨j - m, ?_⟩, rfl⟩
 rw [List.getElem?_drop, List.getElem?_range (by omega)]; congr 1; omega
abbrev jw_ (s : Str) : Value := .string ⟨s.toArray⟩
abbrev bkE (x : Int × Str) : Array Value := #[.int .i64 x.1, jw_ x.2]
abbrev bkF (l : List Str) (j : Nat) : Int × Str := ((j : Int), l.getD j [])
set_option maxRecDepth 100000 in
set_option maxHeartbeats 4000000 in
theorem z8_ (F : Fence) (n : Nat) (h7 : F.fn 185) (hro : F.round = none) (hn : 1 ≤ n) (l Bs n₀ b off cap : Nat) (zs : List Str) (hreach : zs.length * 16 ≤ 140737488351232) (hb : b < n₀) (J Jx : List (Int × Str) → World → Prop)
  (hY : ∀ pre x W, J pre W → pre.length < zs.length → YieldAt F (n - 1) Tryz.prog l (bkE x) W fun e W' =>
   (e = .returned (.bool true) ∧ J (pre ++ [x]) W' ∧ Below n₀ W W') ∨ (e = .returned (.bool false) ∧ Jx (pre ++ [x]) W'))
  (W : World) (hBn : Bs < n₀) (hBs : W.cell? ⟨Bs, 0, none⟩ = some (.slice (some ⟨b, off, none⟩) zs.length cap)) (hc : ∀ j, j < zs.length → W.cell? ⟨b, off + j, none⟩ = some (jw_ (zs.getD j []))) (h0 : J [] W) :
  CallsIn F n Tryz.prog 185 #[.func (.yield l) #[] #[], .pointer (some ⟨Bs, 0, none⟩)] W fun e W' => (∃ v, e = .returned v) ∧
   ((∃ ys, ys = gq_ (bkF zs) zs.length 0 ∧ J ys W') ∨ (∃ pre, (∃ k, k ≤ zs.length ∧ pre = gq_ (bkF zs) zs.length k) ∧ Jx pre W')) := by
 refine callsIn_of_wp Tryz.func185 rfl h7 ?_ hro
 simp only [Tryz.ntmps185, List.size_toArray, T7_, List.length_nil, Nat.reduceAdd, Nat.reduceSub, Array.replicate_succ, Array.replicate_zero, List.push_toArray, List.append_toArray, List.nil_append, List.cons_append]
 gi_wp2
 gi_loopw [3] (fun i wr => ∃ m : Nat, m ≤ zs.length ∧ i = .int .i64 ((m : Int) - 1) ∧ J (gq_ (bkF zs) zs.length m) wr ∧ Below n₀ W wr)
  (fun i _ => (intOf i + 1).toNat)
 case atStart => exact ⟨zs.length, Nat.le_refl _, by first | rfl | simp [bd_ (show -9223372036854775808 ≤ (zs.length : Int) - 1 by omega) (by omega)], by rw [qp_]; exact h0, Below.refl _ _⟩
 case round =>
  obtain ⟨m, hk, rfl, hJs, hnx⟩ := hrel
  have hBx : wr.cell? ⟨Bs, 0, none⟩ = some (.slice (some ⟨b, off, none⟩) zs.length cap) := (hnx.cell (p := ⟨Bs, 0, none⟩) hBn).trans hBs
  cases m with
  | zero =>
   gi_wp2
   go_end0
   exact ⟨⟨_, rfl⟩, .inl ⟨_, rfl, hJs⟩⟩
  | succ j =>
   have hi : (((j + 1 : Nat) : Int) - 1) = (j : Int) := by omega
   rw [hi]
   have hcx : wr.cell? ⟨b, off + j, none⟩ = some (jw_ (zs.getD j [])) := (hnx.cell (p := ⟨b, off + j, none⟩) hb).trans (hc j (by omega))
   have hjl : j < zs.length := by omega
   have hst := nu_ (bkF zs) hjl
   simp only [bkF] at hst
   generalize zs.getD j [] = v at hcx hst
   obtain ⟨fn, tmps, assign, body, hy, hR⟩ := hY _ ((j : Int), v) wr hJs (by rw [z0_]; omega)
   dsimp only [bkE] at hy
   gi_wp2
   refine hR.mono ?_
   rintro e W3 (⟨rfl, hJ3, hk3⟩ | ⟨rfl, hJx3⟩)
   ·gi_wp2
    go_roundw
    case rel => exact ⟨j, by omega, by simp, by rw [hst]; exact hJ3, hnx.trans hk3⟩
    case measure => simp [intOf] <;> omega
   ·gi_wp2
    refine bodyPost_ret (results_none rfl _ _ _) rfl ?_
    exact ⟨⟨_, rfl⟩, .inr ⟨_, ⟨j, by omega, hst.symm⟩, hJx3⟩⟩
theorem af9_ (F : Fence) (n : Nat) (h5 : F.fn 155) (hro : F.round = none) (a : Option Addr) (len cap : Nat) (w : World) :
  CallsIn F n Tryz.prog 155 #[.slice a len cap] w fun e w' => e = .returned (.func (.func 185) #[] #[.pointer (some ⟨w.heap.size, 0, none⟩)]) ∧ w' = w.alloc (.cells #[.slice a len cap] 76) := by
 refine callsIn_of_wp Tryz.func155 rfl h5 ?_ hro
 simp only [Tryz.ntmps155, List.size_toArray, T7_, List.length_nil, Nat.reduceAdd, Nat.reduceSub, Array.replicate_succ, Array.replicate_zero, List.push_toArray, List.append_toArray, List.nil_append, List.cons_append]
 gi_wp2
 go_ret
 exact ⟨rfl, rfl⟩
set_option maxRecDepth 100000 in
set_option maxHeartbeats 1000000 in
theorem rr_ (F : Fence) (n : Nat) (h7 : F.fn 185) (hro : F.round = none) (l Bs : Nat) (a : Option Addr) (cap : Nat) (J : List (Int × Str) → World → Prop) (W : World) (hBs : W.cell? ⟨Bs, 0, none⟩ = some (.slice a 0 cap)) (h0 : J [] W) :
  CallsIn F n Tryz.prog 185 #[.func (.yield l) #[] #[], .pointer (some ⟨Bs, 0, none⟩)] W fun e W' => (∃ v, e = .returned v) ∧ J [] W' := by
 refine callsIn_of_wp Tryz.func185 rfl h7 ?_ hro
 simp only [Tryz.ntmps185, List.size_toArray, T7_, List.length_nil, Nat.reduceAdd, Nat.reduceSub, Array.replicate_succ, Array.replicate_zero, List.push_toArray, List.append_toArray, List.nil_append, List.cons_append]
 gi_wp2
 gi_loopw [3] (fun i wr => i = .int .i64 (-1) ∧ J [] wr) (fun _ _ => 0)
 case atStart => exact ⟨rfl, h0⟩
 case round =>
  obtain ⟨rfl, hJs⟩ := hrel
  gi_wp2
  go_end0
  exact ⟨⟨_, rfl⟩, hJs⟩
def StrsAt (n₀ : Nat) (W : World) (sv : Value) (zs : List Str) : Prop :=
 ∃ A cap, sv = .slice A zs.length cap ∧ (zs ≠ [] → ∃ b off, A = some ⟨b, off, none⟩ ∧ b < n₀ ∧ ∀ j, j < zs.length → W.cell? ⟨b, off + j, none⟩ = some (jw_ (zs.getD j [])))
theorem StrsAt.below {n₀ : Nat} {A B : World} (h : Below n₀ A B) {sv : Value} {zs : List Str} : StrsAt n₀ A sv zs → StrsAt n₀ B sv zs
 | ⟨a, cap, e, k⟩ => ⟨a, cap, e, fun hne => let ⟨b, off, e2, hb, hc⟩ := k hne; ⟨b, off, e2, hb, fun j hj => (h.cell (p := ⟨b, off + j, none⟩) hb).trans (hc j hj)⟩⟩
theorem vv_ (F : Fence) (n : Nat) (h7 : F.fn 185) (hro : F.round = none) (hn : 1 ≤ n) (Bs n₀ : Nat) (sv : Value) (zs : List Str) (hreach : zs.length * 16 ≤ 140737488351232) (w : World) (hBs : Bs < w.heap.size) (hn₀ : n₀ ≤ w.heap.size) (hBn : Bs < n₀)
  (hc : w.cell? ⟨Bs, 0, none⟩ = some sv) (hI : StrsAt n₀ w sv zs) :
  SeqStopsK F n Tryz.prog 185 #[.pointer (some ⟨Bs, 0, none⟩)] bkE (Below n₀) (fun ys => ys = gq_ (bkF zs) zs.length 0) (fun pre => ∃ k, k ≤ zs.length ∧ pre = gq_ (bkF zs) zs.length k) zs.length w := fun l J Jx W hW _ _ hY h0 => by
 have hc' := (hW.cell (p := ⟨Bs, 0, none⟩) hBs).trans hc
 obtain ⟨A, cap, rfl, hne⟩ := hI.below (hW.mono hn₀)
 by_cases hz : zs = []
 ·subst hz
  exact (rr_ F n h7 hro l Bs A cap J W hc' h0).mono fun e W' ⟨he, hj⟩ => ⟨he, .inl ⟨_, rfl, hj⟩⟩
 ·obtain ⟨b, off, rfl, hb, hcs⟩ := hne hz
  exact z8_ F n h7 hro hn l Bs n₀ b off cap zs hreach hb J Jx hY W hBn hc' hcs h0
theorem qu_ {l : List Str} {s : Str} {m : Nat} (hm : l.getD m [] = s) : ∀ n, m < n → (∀ j, m < j → j < n → l.getD j [] ≠ s) → hf_ l n s = m
 | 0, h, _ => by omega
 | n + 1, h, hh => by
  simp only [hf_]
  by_cases e : m = n
  ·subst e; rw [if_pos hm]
  ·rw [if_neg (hh n (by omega) (by omega))]
   exact qu_ hm n (by omega) fun j h1 h2 => hh j h1 (by omega)
theorem nd_ {l : List Str} {s : Str} : ∀ n, (∀ j, j < n → l.getD j [] ≠ s) → hf_ l n s = -1
 | 0, _ => rfl
 | n + 1, h => by
  simp only [hf_]
  rw [if_neg (h n (by omega))]
  exact nd_ n fun j hj => h j (by omega)
set_option maxRecDepth 100000 in
set_option maxHeartbeats 4000000 in
theorem aez_ (F : Fence) (n : Nat) (h4 : F.fn 109) (h6 : F.fn 155) (h8 : F.fn 185) (hro : F.round = none) (hn : 3 ≤ n) (a : Option Addr) (cap : Nat) (zs : List Str) (s : Str) (hreach : zs.length * 16 ≤ 140737488351232) (w : World) (hI : StrsAt w.heap.size w (.slice a zs.length cap) zs) :
  CallsIn F n Tryz.prog 109 #[.slice a zs.length cap, jw_ s] w fun e W' => e = .returned (.int .i64 (fw_ zs s)) ∧ Below w.heap.size w W' := by
 have h1 : 1 ≤ n := by omega
 refine callsIn_of_wp_marks Tryz.func109 rfl h4 ?_ hro
 simp only [Tryz.ntmps109, List.size_toArray, T7_, List.length_nil, Nat.reduceAdd, Nat.reduceSub, Array.replicate_succ, Array.replicate_zero, List.push_toArray, List.append_toArray, List.nil_append, List.cons_append]
 gi_wp2_with (gi_at_call 155; refine (af9_ F (n - 1) h6 hro _ _ _ _).mono ?_; rintro e w' ⟨rfl, rfl⟩)
 have bS := Boxed.new w 9 (jw_ s)
 have bR := Boxed.new (w.alloc (.cells #[jw_ s] 9)) 3 (.int .i64 0)
 rw [World.size_alloc] at bR
 have bN := Boxed.new ((w.alloc (.cells #[jw_ s] 9)).alloc (.cells #[.int .i64 0] 3)) 76 (.slice a zs.length cap)
 rw [World.size_alloc, World.size_alloc] at bN
 have hB0 : Below w.heap.size w (((w.alloc (.cells #[jw_ s] 9)).alloc (.cells #[.int .i64 0] 3)).alloc (.cells #[.slice a zs.length cap] 76)) := (((Below.refl _ w).alloc (Nat.le_refl _) _).alloc (by simp) _).alloc (by simp only [World.size_alloc]; omega) _
 have hI3 : StrsAt (w.heap.size + 1 + 1 + 1) (((w.alloc (.cells #[jw_ s] 9)).alloc (.cells #[.int .i64 0] 3)).alloc (.cells #[.slice a zs.length cap] 76)) (.slice a zs.length cap) zs := by
  obtain ⟨A, c, e, k⟩ := hI.below hB0
  exact ⟨A, c, e, fun hne => let ⟨b, off, e2, hb, hc⟩ := k hne; ⟨b, off, e2, by omega, hc⟩⟩
 refine wpIn_rangeFunc_ownG hro h1 (gf := 185) (lb := #[.pointer (some ⟨w.heap.size + 1 + 1, 0, none⟩)]) rfl h8 (enters_of Tryz.func185 (by kernel_rfl) rfl)
  (vv_ F (n - 1) h8 hro (by omega) (w.heap.size + 1 + 1) (w.heap.size + 1 + 1 + 1) _ zs hreach _ (by simp) (by simp) (by omega) bN.cell hI3) belowK_t (belowK_b (by simp)) (Below.refl _ _) (fun _ => rfl)
  (fun pre W => ((∀ p ∈ pre, p.2 ≠ s) ∧ (W.cell? ⟨w.heap.size, 0, none⟩ = some (jw_ s) ∧ W.frozen? ⟨w.heap.size, 0, none⟩ = false) ∧ W.cell? ⟨w.heap.size + 1, 0, none⟩ = some (.int .i64 0) ∧ W.frozen? ⟨w.heap.size + 1, 0, none⟩ = false) ∧ Below w.heap.size w W)
  (fun c pre W => (c = .ret ∧ ∃ ini last, pre = ini ++ [last] ∧ (∀ p ∈ ini, p.2 ≠ s) ∧ last.2 = s ∧ W.cell? ⟨w.heap.size + 1, 0, none⟩ = some (.int .i64 last.1)) ∧ Below w.heap.size w W)
  (OwnFrom.and (Own.from (fun s A B row hs hg hr => ⟨hs.1, ⟨cell_kept hs.2.1.1 hg hr, (frozen_kept hs.2.1.1 hg hr).trans hs.2.1.2⟩, cell_kept hs.2.2.1 hg hr, (frozen_kept hs.2.2.1 hg hr).trans hs.2.2.2⟩) _) (ownFrom_below (Nat.le_refl _) (by simp; omega)))
  (fun c => OwnFrom.and (Own.from (fun s A B row hs hg hr => by obtain ⟨hc, ini, last, e1, e2, e3, e4⟩ := hs; exact ⟨hc, ini, last, e1, e2, e3, cell_kept e4 hg hr⟩) _) (ownFrom_below (Nat.le_refl _) (by simp; omega)))
  ⟨⟨by simp, ⟨((bS.alloc _).alloc _).cell, ((bS.alloc _).alloc _).frozen⟩, (bR.alloc _).cell, (bR.alloc _).frozen⟩, hB0⟩
  (fun x => { tmps := #[.slice a zs.length cap, jw_ s, undef, .pointer (some ⟨w.heap.size, 0, none⟩), .pointer (some ⟨w.heap.size + 1, 0, none⟩), .int .i64 x.1, jw_ x.2, .slice a zs.length cap, .func (.func 185) #[] #[.pointer (some ⟨w.heap.size + 1 + 1, 0, none⟩)], .int .i64 x.1, jw_ x.2, undef, undef, undef, undef], defers := [] }) ?assign ?body ?done ?stop
 case assign =>
  intro l x W K hK
  gi_wp2
  exact hK
 case body =>
  rintro l pre ⟨x1, x2⟩ W ⟨⟨hp, ⟨hcs, hfs⟩, hcr, hfr⟩, hB⟩ _
  gi_wp2
  ·have hx : (x2 == s) = true := by assumption
   exact ⟨(KeepsOthers.setCell _ _ _).from _, ⟨rfl, pre, (x1, x2), rfl, hp, by simpa using hx, World.cell?_setCell_same' _ _ _ (by rw [hcr]; rfl)⟩, hB.setCell (p := ⟨w.heap.size + 1, 0, none⟩) (by simp) _⟩
  ·have hx : (x2 == s) = false := by assumption
   exact ⟨KeepsFrom.refl _ _, Below.refl _ _, ⟨fun p hp' => (List.mem_append.1 hp').elim (hp p) (fun e => by simp at e; subst e; simpa using hx), ⟨hcs, hfs⟩, hcr, hfr⟩, hB⟩
 case done =>
  rintro D ys W hD rfl ⟨⟨hne, _, hcr, hfr⟩, hB⟩ hK
  gi_wp2
  have hK' := (KeepsOthers.setCell W ⟨w.heap.size + 1, 0, none⟩ (.int .i64 (-1))).same D _ hK rfl
  refine ⟨by simp, .inl ⟨_, _, rfl, run_takeDeferred hK', ?_⟩⟩
  have hc5 := cell_kept (World.cell?_setCell_same' W ⟨w.heap.size + 1, 0, none⟩ (.int .i64 (-1)) (by rw [hcr]; rfl)) (grownBy_putObj' _ D (.deferred none)) (fun r e => by cases e; exact ⟨_, hK', rfl⟩)
  refine ⟨.int .i64 (-1), ?_, ?_, (hB.setCell (p := ⟨w.heap.size + 1, 0, none⟩) (by simp) _).trans (belowK_b (w := w) (Nat.le_refl _) _ D _ _ (by simp at hD; omega) hK' rfl rfl)⟩
  ·simp [results, Tryz.f109, go_sem, hc5]
  ·rw [show fw_ zs s = -1 from nd_ _ fun j hj => hne (bkF zs j) (qd_ _ (Nat.zero_le _) hj)]
 case stop =>
  rintro D c pre W hD ⟨m, hk, rfl⟩ ⟨⟨rfl, ini, last, e1, e2, e3, hcr⟩, hB⟩ hK
  gi_wp2
  refine ⟨by simp, .inl ⟨_, _, rfl, run_takeDeferred hK, ?_⟩⟩
  have hc5 := cell_kept hcr (grownBy_putObj' _ D (.deferred none)) (fun r e => by cases e; exact ⟨_, hK, rfl⟩)
  have hml : m < zs.length := by
   rcases Nat.lt_or_ge m zs.length with h | h
   ·exact h
   ·obtain rfl : m = zs.length := by omega
    rw [qp_] at e1; simp at e1
  rw [nu_ _ hml] at e1
  obtain ⟨rfl, e5⟩ := List.append_inj' e1 rfl
  obtain rfl : bkF zs m = last := by simpa using e5
  refine ⟨.int .i64 (m : Int), ?_, ?_, hB.trans (belowK_b (w := w) (Nat.le_refl _) W D _ _ (by simp at hD; omega) hK rfl rfl)⟩
  ·simp [results, Tryz.f109, go_sem, hc5]
  ·rw [show fw_ zs s = m from qu_ e3 _ hml fun j h1 h2 => e2 (bkF zs j) (qd_ _ h1 h2)]
theorem te_ {φ : Phi} {S : Nat → Prop} {w : World} {z : Nat} : ∀ {l : List Str} {xs : List Value}, VRr φ S w z (bi_ l) xs → xs = l.map jw_
 | [], xs, h => by simpa [bi_, VRr] using h
 | s :: l, xs, h => by
  simp only [bi_, List.map_cons, VRr] at h
  obtain ⟨ys, zs, rfl, _, h2, _, h3⟩ := h
  simp only [VRs, VR] at h2
  obtain ⟨x, r, rfl, rfl, rfl⟩ := h2
  rw [te_ h3]; rfl
theorem ahk_ (l : List Str) (s : Str) (hl : l.length ≤ 1000000000000) : ACall En 109 [.sl false (bi_ l), .s s] [] [.i .i64 (fw_ l s)] [] := by
 refine f9_ (fn := Tryz.f109) Tryz.func109 rfl rfl fun S w xs hx _ _ => ?_
 simp only [VRs, VR] at hx
 obtain ⟨x, r, e1, ⟨A, c, z, ys, rfl, h2, h3, h4, h5, h6⟩, y, q, rfl, rfl, rfl⟩ := hx
 obtain rfl : xs = #[.slice A (bi_ l).length c, .string ⟨s.toArray⟩] := by apply Array.ext'; simpa using e1
 rw [ab_] at *
 have hv := te_ h6
 have hI : StrsAt w.heap.size w (.slice A l.length c) l := by
  refine ⟨A, c, rfl, fun hne => ?_⟩
  obtain ⟨g, o, rfl, _, hg, hcell⟩ := h5 (by rw [hv]; simpa using hne)
  refine ⟨g, o, rfl, hg, fun j hj => hcell j _ ?_⟩
  rw [hv, List.getElem?_map, T6_ hj, T8_, T6_ hj]; rfl
 refine (callsIn_wide (n := 3)).1 ((aez_ _ 3 trivial trivial trivial rfl (by omega) A c l s (by omega) w hI).mono ?_)
 rintro e w' ⟨rfl, h⟩
 exact ⟨[_], rfl, h, .cons (by simp only [VR]) .nil⟩
end
section
set_option maxRecDepth 100000
set_option maxHeartbeats 4000000
theorem xp_ (n : Int) : ACall En 110 [.i .i64 n] [] [.i .i64 (nr_ n)] [] := by
 refine al_ (fn := Tryz.f110) [] Tryz.func110 rfl rfl (by simp) fun C => ?_
 rw [aw_]
 simp only [Tryz.ntmps110, T7_, List.length_nil, Nat.reduceAdd, Nat.reduceSub, List.replicate_succ, List.replicate_zero, List.cons_append, List.nil_append, bo_]
 refine .seq (.rgn [] (by simp only [go_sem, seval]; rfl) ?_ ?_)
 ·first | trivial | simp
 refine .seq (.rgn [] (by simp only [go_sem, seval]; rfl) ?_ ?_)
 ·first | trivial | simp
 refine .ret ⟨.inr rfl, ?_⟩
 exact Out.plain (by simp only [Tryz.results110]; rfl) (by simp only [av_, a3_, go_sem, seval] <;> (split <;> rfl)) (by simp only [a2_, go_sem, seval] <;> (simp only [List.cons.injEq, V.i.injEq, and_true, true_and]; unfold nr_; by_cases h : n < 1000000 <;> simp only [h, if_true, if_false] <;> split <;> omega)) (by simp only [go_sem, seval])
theorem af8_ (x y : Int) : ACall En 209 [.i .i64 x, .i .i64 y] [] [.i .i64 (min x y)] [] := by
 refine al_ (fn := Tryz.f209) [] Tryz.func209 rfl rfl (by simp) fun C => ?_
 rw [aw_]
 simp only [Tryz.ntmps209, T7_, List.length_nil, Nat.reduceAdd, Nat.reduceSub, List.replicate_succ, List.replicate_zero, List.cons_append, List.nil_append, bo_]
 refine .seq (.rgn [] (by simp only [go_sem, seval]; rfl) ?_ ?_)
 ·first | trivial | simp
 refine .seq (.seq (.rgn [] (by simp only [go_sem, seval]; rfl) ?_ ?_))
 ·first | trivial | simp
 refine .condB (by simp only [go_sem, seval]; rfl) (by simp only [go_sem, seval]) (fun h7 => ?_) (fun h7 => ?_)
 ·refine .seq (.rgn [] (by simp only [go_sem, seval]; rfl) ?_ ?_)
  ·first | trivial | simp
  refine .ret ⟨.inr rfl, ?_⟩
  exact Out.plain (by simp only [Tryz.results209]; rfl) (by simp only [av_, a3_, go_sem, seval] <;> (split <;> rfl)) (by simp only [a2_, go_sem, seval] <;> (congr 1; simp at *; omega)) (by simp only [go_sem, seval])
 ·refine .skip (.seq (.rgn [] (by simp only [go_sem, seval]; rfl) ?_ ?_))
  ·first | trivial | simp
  refine .ret ⟨.inr rfl, ?_⟩
  exact Out.plain (by simp only [Tryz.results209]; rfl) (by simp only [av_, a3_, go_sem, seval] <;> (split <;> rfl)) (by simp only [a2_, go_sem, seval] <;> (congr 1; simp at *; omega)) (by simp only [go_sem, seval])
theorem ada_ (x y : Int) : ACall En 207 [.i .i64 x, .i .i64 y] [] [.i .i64 (max x y)] [] := by
 refine al_ (fn := Tryz.f207) [] Tryz.func207 rfl rfl (by simp) fun C => ?_
 rw [aw_]
 simp only [Tryz.ntmps207, T7_, List.length_nil, Nat.reduceAdd, Nat.reduceSub, List.replicate_succ, List.replicate_zero, List.cons_append, List.nil_append, bo_]
 refine .seq (.rgn [] (by simp only [go_sem, seval]; rfl) ?_ ?_)
 ·first | trivial | simp
 refine .seq (.seq (.rgn [] (by simp only [go_sem, seval]; rfl) ?_ ?_))
 ·first | trivial | simp
 refine .condB (by simp only [go_sem, seval]; rfl) (by simp only [go_sem, seval]) (fun h7 => ?_) (fun h7 => ?_)
 ·refine .seq (.rgn [] (by simp only [go_sem, seval]; rfl) ?_ ?_)
  ·first | trivial | simp
  refine .ret ⟨.inr rfl, ?_⟩
  exact Out.plain (by simp only [Tryz.results207]; rfl) (by simp only [av_, a3_, go_sem, seval] <;> (split <;> rfl)) (by simp only [a2_, go_sem, seval] <;> (congr 1; simp at *; omega)) (by simp only [go_sem, seval])
 ·refine .skip (.seq (.rgn [] (by simp only [go_sem, seval]; rfl) ?_ ?_))
  ·first | trivial | simp
  refine .ret ⟨.inr rfl, ?_⟩
  exact Out.plain (by simp only [Tryz.results207]; rfl) (by simp only [av_, a3_, go_sem, seval] <;> (split <;> rfl)) (by simp only [a2_, go_sem, seval] <;> (congr 1; simp at *; omega)) (by simp only [go_sem, seval])
theorem ra_ (n : Int) : ACall En 187 [.i .i64 n] [] [.i .i64 (nr_ n)] [] := by
 refine al_ (fn := Tryz.f187) [] Tryz.func187 rfl rfl (by simp) fun C => ?_
 rw [aw_]
 simp only [Tryz.ntmps187, T7_, List.length_nil, Nat.reduceAdd, Nat.reduceSub, List.replicate_succ, List.replicate_zero, List.cons_append, List.nil_append, bo_]
 refine .seq (.rgn [] (by simp only [go_sem, seval]; rfl) ?_ ?_)
 ·first | trivial | simp
 refine .seq (.rgn [a1_ (af8_ 1000000 n), a1_ (ada_ (-1000000) (min 1000000 n))] (by simp only [go_sem, seval]; rfl) ?_ ?_)
 ·first | trivial | simp
 refine .ret ⟨.inr rfl, ?_⟩
 exact Out.plain (by simp only [Tryz.results187]; rfl) (by simp only [av_, a3_, go_sem, seval] <;> (split <;> rfl)) (by simp only [a2_, go_sem, seval] <;> (rfl)) (by simp only [go_sem, seval])
theorem ad9_ (N : List Str) (s : Str) (hl : N.length ≤ 1000000) : ACall En 186 [.sl false (bi_ N), .s s] [] [.i .i64 (fw_ N s)] [] := by
 refine al_ (fn := Tryz.f186) [] Tryz.func186 rfl rfl (by simp) fun C => ?_
 rw [aw_]
 simp only [Tryz.ntmps186, T7_, List.length_nil, Nat.reduceAdd, Nat.reduceSub, List.replicate_succ, List.replicate_zero, List.cons_append, List.nil_append, bo_]
 refine .seq (.rgn [] (by simp only [go_sem, seval, ab_, aa_]; rfl) ?_ ?_)
 ·first | trivial | simp
 refine .seq (.seq (.rgn [] (by simp only [go_sem, seval, ab_, aa_]; rfl) ?_ ?_))
 ·first | trivial | simp
 refine .block (.loopK (fun k : Nat => ⟨[.sl false (bi_ N), .s s, .no, .no, .no, .i .i64 ((k : Int) - 1), .no, .no, .no, .no, .no, .no, .no, .no, .no, .no, .no, .no, .no, .no], bc_ [], us []⟩) (fun k : Nat => k ≤ N.length ∧ fw_ N s = hf_ N k s) (fun k : Nat => k) (N.length) ?_ ?_ (fun k hI => ?_))
 ·exact ⟨Nat.le_refl _, rfl⟩
 ·exact Can.weak (Weak.lit (by simp only [go_sem, seval, ab_, aa_, aq_, leV, ao_, ap_, V.inn, us, T9_, Ta_] <;> (rw [bd_ (by omega) (by omega)])) (by simp only [go_sem, seval, ab_, aa_, aq_, leV, ao_, ap_, V.inn, us, T9_, Ta_]) (by simp only [go_sem, seval, ab_, aa_, aq_, leV, ao_, ap_, V.inn, us, T9_, Ta_]))
 refine .seq (.seq (.rgn [] (by simp only [go_sem, seval, ab_, aa_]; rfl) ?_ ?_))
 ·first | trivial | simp
 refine .condB (by simp only [go_sem, seval, ab_, aa_]; rfl) (by simp only [go_sem, seval, ab_, aa_]) (fun h10 => ?_) (fun h10 => ?_)
 ·refine .skip (.seq (.block (.seq (.rgn [] (by simp only [go_sem, seval, ab_, aa_, cj_ (show k - 1 < N.length by simp at h10; omega), show ((k : Int) - 1).toNat = k - 1 by omega]; rfl) ?_ ?_))))
  ·simp at h10; simp; omega
  refine .condB (by simp only [go_sem, seval, ab_, aa_]; rfl) (by simp only [go_sem, seval, ab_, aa_]) (fun h18 => ?_) (fun h18 => ?_)
  ·refine .seq (.rgn [] (by simp only [go_sem, seval, ab_, aa_]; rfl) ?_ ?_)
   ·first | trivial | simp
   refine .ret ⟨.inr rfl, ?_⟩
   exact Out.plain (by simp only [Tryz.results186]; rfl) (by simp only [av_, a3_, go_sem, seval, ab_, aa_] <;> (split <;> rfl)) (by simp only [a2_, go_sem, seval, ab_, aa_] <;> (simp at h10; (obtain ⟨j, rfl⟩ : ∃ j, k = j + 1 := ⟨k - 1, by omega⟩); rw [hI.2]; simp only [hf_]; rw [if_pos (by simpa using h18)]; simp only [List.cons.injEq, V.i.injEq, and_true, true_and]; omega)) (by simp only [go_sem, seval, ab_, aa_])
  ·refine .skip (.rgn [] (by simp only [go_sem, seval, ab_, aa_]; rfl) ?_ ?_)
   ·first | trivial | simp
   refine Exists.intro (k - 1) ⟨?_, ?_, ?_⟩
   ·simp at h10; refine ⟨by omega, ?_⟩; rw [hI.2]; (obtain ⟨j, rfl⟩ : ∃ j, k = j + 1 := ⟨k - 1, by omega⟩); simp only [hf_]; rw [if_neg (by simpa using h18)]; rfl
   ·simp at h10; omega
   exact Can.weak (Weak.lit (by simp only [go_sem, seval, ab_, aa_, aq_, leV, ao_, ap_, V.inn, us, T9_, Ta_] <;> (simp at h10; rw [bd_ (by omega) (by omega)]; simp; omega)) (by simp only [go_sem, seval, ab_, aa_, aq_, leV, ao_, ap_, V.inn, us, T9_, Ta_]) (by simp only [go_sem, seval, ab_, aa_, aq_, leV, ao_, ap_, V.inn, us, T9_, Ta_]))
 ·refine .exit (.seq (.rgn [] (by simp only [go_sem, seval, ab_, aa_]; rfl) ?_ ?_))
  ·first | trivial | simp
  refine .ret ⟨.inr rfl, ?_⟩
  exact Out.plain (by simp only [Tryz.results186]; rfl) (by simp only [av_, a3_, go_sem, seval, ab_, aa_] <;> (split <;> rfl)) (by simp only [a2_, go_sem, seval, ab_, aa_] <;> (simp at h10; (obtain rfl : k = 0 := (by omega)); rw [hI.2]; rfl)) (by simp only [go_sem, seval, ab_, aa_])
theorem vd_ (a b : Int) (ha : -1000000 ≤ a ∧ a ≤ 1000000) (hb : -1000000 ≤ b ∧ b ≤ 1000000) : -1000000000000 ≤ a * b ∧ a * b ≤ 1000000000000 := by
 have h1 : (a * b).natAbs ≤ 1000000 * 1000000 := by rw [Int.natAbs_mul]; exact Nat.mul_le_mul (by omega) (by omega)
 omega
theorem ag0_ (s : Str) (a b : Int) (ha : -1000000 ≤ a ∧ a ≤ 1000000) (hb : -1000000 ≤ b ∧ b ≤ 1000000) : ACall En 188 [.s s, .i .i64 a, .i .i64 b] [] [.i .i64 (twI s a b)] [] := by
 have hm := vd_ a b ha hb
 refine al_ (fn := Tryz.f188) [] Tryz.func188 rfl rfl (by simp) fun C => ?_
 rw [aw_]
 simp only [Tryz.ntmps188, T7_, List.length_nil, Nat.reduceAdd, Nat.reduceSub, List.replicate_succ, List.replicate_zero, List.cons_append, List.nil_append, bo_]
 refine .seq (.rgn [] (by simp only [go_sem, seval]; rfl) ?_ ?_)
 ·first | trivial | simp
 refine .seq (.seq (.rgn [] (by simp only [go_sem, seval]; rfl) ?_ ?_))
 ·first | trivial | simp
 refine .block (.seq (.rgn [] (by simp only [go_sem, seval]; rfl) ?_ ?_))
 ·first | trivial | simp
 refine .condB (by simp only [go_sem, seval]; rfl) (by simp only [go_sem, seval]) (fun h8 => ?_) (fun h8 => ?_)
 ·refine .seq (.rgn [a1_ (ra_ (a + b))] (by simp only [go_sem, seval, bd_ (show -9223372036854775808 ≤ a + b by omega) (by omega)]; rfl) ?_ ?_)
  ·first | trivial | simp
  refine .ret ⟨.inr rfl, ?_⟩
  exact Out.plain (by simp only [Tryz.results188]; rfl) (by simp only [av_, a3_, go_sem, seval] <;> (split <;> rfl)) (by simp only [a2_, go_sem, seval] <;> (simp_all [twI])) (by simp only [go_sem, seval])
 ·refine .seq (.rgn [] (by simp only [go_sem, seval]; rfl) ?_ ?_)
  ·first | trivial | simp
  refine .condB (by simp only [go_sem, seval]; rfl) (by simp only [go_sem, seval]) (fun h14 => ?_) (fun h14 => ?_)
  ·refine .seq (.rgn [a1_ (ra_ (a - b))] (by simp only [go_sem, seval, bd_ (show -9223372036854775808 ≤ a - b by omega) (by omega)]; rfl) ?_ ?_)
   ·first | trivial | simp
   refine .ret ⟨.inr rfl, ?_⟩
   exact Out.plain (by simp only [Tryz.results188]; rfl) (by simp only [av_, a3_, go_sem, seval] <;> (split <;> rfl)) (by simp only [a2_, go_sem, seval] <;> (simp_all [twI])) (by simp only [go_sem, seval])
  ·refine .seq (.rgn [] (by simp only [go_sem, seval]; rfl) ?_ ?_)
   ·first | trivial | simp
   refine .condB (by simp only [go_sem, seval]; rfl) (by simp only [go_sem, seval]) (fun h20 => ?_) (fun h20 => ?_)
   ·refine .seq (.rgn [a1_ (ra_ (a * b))] (by simp only [go_sem, seval, bd_ (show -9223372036854775808 ≤ a * b by omega) (by omega)]; rfl) ?_ ?_)
    ·first | trivial | simp
    refine .ret ⟨.inr rfl, ?_⟩
    exact Out.plain (by simp only [Tryz.results188]; rfl) (by simp only [av_, a3_, go_sem, seval] <;> (split <;> rfl)) (by simp only [a2_, go_sem, seval] <;> (simp_all [twI])) (by simp only [go_sem, seval])
   ·refine .skip (.seq (.seq (.rgn [] (by simp only [go_sem, seval]; rfl) ?_ ?_)))
    ·first | trivial | simp
    refine .condB (by simp only [go_sem, seval]; rfl) (by simp only [go_sem, seval]) (fun h28 => ?_) (fun h28 => ?_)
    ·refine .seq (.rgn [] (by simp only [go_sem, seval]; rfl) ?_ ?_)
     ·first | trivial | simp
     refine .ret ⟨.inr rfl, ?_⟩
     exact Out.plain (by simp only [Tryz.results188]; rfl) (by simp only [av_, a3_, go_sem, seval] <;> (split <;> rfl)) (by simp only [a2_, go_sem, seval] <;> (simp_all [twI])) (by simp only [go_sem, seval])
    ·refine .skip (.seq (.rgn [] (by simp only [go_sem, seval]; rfl) ?_ ?_))
     ·first | trivial | simp
     refine .ret ⟨.inr rfl, ?_⟩
     exact Out.plain (by simp only [Tryz.results188]; rfl) (by simp only [av_, a3_, go_sem, seval] <;> (split <;> rfl)) (by simp only [a2_, go_sem, seval] <;> (simp_all [twI])) (by simp only [go_sem, seval])
theorem u5_ (d : Nat) : ∀ (e : E) (N : List Str) (M : List Int), form e d = true → N.length = M.length → N.length ≤ 1000000 → ACall En 59 [.ag (eC e), .sl false (bi_ N), .sl false (inR M)] [] [.i .i64 (rk e N M).1, .b (rk e N M).2] [] := by
 induction d with
 | zero => intro e N M h; have := (bj_ h).1; omega
 | succ d ih =>
 intro e N M h hl hn
 have e1 : ((d + 1 : Nat) : Int) - 1 = (d : Int) := by omega
 have g3 : e.kind = 3 → e.kids.length = 2 ∧ form (e.kids.getD 0 E0) d = true ∧ form (e.kids.getD 1 E0) d = true ∧ em_ e.s = true := fun hk => by
  rcases (bj_ h).2 with ⟨k1, _⟩ | ⟨k1, _⟩ | ⟨k1, h1, h2, h3, h4, h5⟩ | ⟨k1, _⟩ <;> try omega
  rw [e1] at h4 h5; exact ⟨h3, h4, h5, h2⟩
 have g4 : e.kind = 4 → e.kids.length = 1 ∧ form (e.kids.getD 0 E0) d = true := fun hk => by
  rcases (bj_ h).2 with ⟨k1, _⟩ | ⟨k1, _⟩ | ⟨k1, _⟩ | ⟨k1, h1, h2, h3, h4⟩ <;> try omega
  rw [e1] at h4; exact ⟨h3, h4⟩
 have g0 : ¬ e.kind = 1 → ¬ e.kind = 2 → ¬ e.kind = 4 → e.kind = 3 := fun a b c => by
  rcases (bj_ h).2 with ⟨k1, _⟩ | ⟨k1, _⟩ | ⟨k1, _⟩ | ⟨k1, _⟩ <;> omega
 have hb := uy_ N e.s
 have Q : e.kind = 3 → (-1000000 ≤ (rk (e.kids.getD 0 E0) N M).1 ∧ (rk (e.kids.getD 0 E0) N M).1 ≤ 1000000) ∧ (-1000000 ≤ (rk (e.kids.getD 1 E0) N M).1 ∧ (rk (e.kids.getD 1 E0) N M).1 ≤ 1000000) := fun hk =>
  ⟨wu_ d _ N M (g3 hk).2.1, wu_ d _ N M (g3 hk).2.2.1⟩
 have P := fun hk => vd_ _ _ (Q hk).1 (Q hk).2
 have R1 := @v2_ e
 have R2 := @rg_ e
 have R3 : e.kind = 3 → rk e N M = ky_ e.s (rk (e.kids.getD 0 E0) N M) (rk (e.kids.getD 1 E0) N M) := fun hk => v9_ hk (g3 hk).1 N M
 have R4 : e.kind = 4 → rk e N M = rk (e.kids.getD 0 E0) N M := fun hk => aae_ hk (g4 hk).1 N M
 refine al_ (fn := Tryz.f59) [] Tryz.func59 rfl rfl (by simp) fun C => ?_
 rw [aw_]
 simp only [Tryz.ntmps59, T7_, List.length_nil, Nat.reduceAdd, Nat.reduceSub, List.replicate_succ, List.replicate_zero, List.cons_append, List.nil_append, bo_]
 refine .seq (.rgn [] (by simp only [go_sem, seval, af_, ac_]; rfl) ?_ ?_)
 ·first | trivial | simp
 refine .seq (.seq (.rgn [] (by simp only [go_sem, seval, af_, ac_]; rfl) ?_ ?_))
 ·first | trivial | simp
 refine .block (.seq (.rgn [] (by simp only [go_sem, seval, af_, ac_]; rfl) ?_ ?_))
 ·first | trivial | simp
 refine .condB (by simp only [go_sem, seval, af_, ac_]; rfl) (by simp only [go_sem, seval, af_, ac_]) (fun h15 => ?_) (fun h15 => ?_)
 ·refine .seq (.rgn [] (by simp only [go_sem, seval, af_, ac_]; rfl) ?_ ?_)
  ·first | trivial | simp
  refine .ret ⟨.inr rfl, ?_⟩
  exact Out.plain (by simp only [Tryz.results59]; rfl) (by simp only [av_, a3_, go_sem, seval, af_, ac_] <;> (split <;> rfl)) (by simp only [a2_, go_sem, seval, af_, ac_] <;> (rw [R1 (by simpa using h15)])) (by simp only [go_sem, seval, af_, ac_])
 ·refine .seq (.rgn [] (by simp only [go_sem, seval, af_, ac_]; rfl) ?_ ?_)
  ·first | trivial | simp
  refine .condB (by simp only [go_sem, seval, af_, ac_]; rfl) (by simp only [go_sem, seval, af_, ac_]) (fun h19 => ?_) (fun h19 => ?_)
  ·refine .seq (.rgn [a1_ (ahk_ N e.s (by omega))] (by simp only [go_sem, seval, af_, ac_]; rfl) ?_ ?_)
   ·first | trivial | simp
   refine .seq (.seq (.rgn [] (by simp only [go_sem, seval, af_, ac_]; rfl) ?_ ?_))
   ·first | trivial | simp
   refine .condB (by simp only [go_sem, seval, af_, ac_]; rfl) (by simp only [go_sem, seval, af_, ac_]) (fun h26 => ?_) (fun h26 => ?_)
   ·refine .seq (.rgn [] (by simp only [go_sem, seval, af_, ac_]; rfl) ?_ ?_)
    ·first | trivial | simp
    refine .ret ⟨.inr rfl, ?_⟩
    exact Out.plain (by simp only [Tryz.results59]; rfl) (by simp only [av_, a3_, go_sem, seval, af_, ac_] <;> (split <;> rfl)) (by simp only [a2_, go_sem, seval, af_, ac_] <;> (rw [R2 (by simpa using h19), if_pos (by simpa using h26)])) (by simp only [go_sem, seval, af_, ac_])
   ·refine .skip (.seq (.rgn [a1_ (xp_ (M.getD (fw_ N e.s).toNat 0))] (by simp only [go_sem, seval, af_, ac_, fk_ (show (fw_ N e.s).toNat < M.length by simp at h26; omega)]; rfl) ?_ ?_))
    ·simp at h26; (try simp); omega
    refine .ret ⟨.inr rfl, ?_⟩
    exact Out.plain (by simp only [Tryz.results59]; rfl) (by simp only [av_, a3_, go_sem, seval, af_, ac_] <;> (split <;> rfl)) (by simp only [a2_, go_sem, seval, af_, ac_] <;> (rw [R2 (by simpa using h19), if_neg (by simpa using h26)])) (by simp only [go_sem, seval, af_, ac_])
  ·refine .seq (.rgn [] (by simp only [go_sem, seval, af_, ac_]; rfl) ?_ ?_)
   ·first | trivial | simp
   refine .condB (by simp only [go_sem, seval, af_, ac_]; rfl) (by simp only [go_sem, seval, af_, ac_]) (fun h32 => ?_) (fun h32 => ?_)
   ·refine .seq (.rgn [a1_ (ih (e.kids.getD 0 E0) N M (g4 (by simpa using h32)).2 hl hn)] (by simp only [go_sem, seval, af_, ac_, da_ (show 0 < e.kids.length by have := g4 (by simpa using h32); omega)]; rfl) ?_ ?_)
    ·have := g4 (by simpa using h32); simp; omega
    refine .ret ⟨.inr rfl, ?_⟩
    exact Out.plain (by simp only [Tryz.results59]; rfl) (by simp only [av_, a3_, go_sem, seval, af_, ac_] <;> (split <;> rfl)) (by simp only [a2_, go_sem, seval, af_, ac_] <;> (rw [R4 (by simpa using h32)])) (by simp only [go_sem, seval, af_, ac_])
   ·refine .skip (.seq (.rgn [a1_ (ih (e.kids.getD 0 E0) N M (g3 (g0 (by simpa using h15) (by simpa using h19) (by simpa using h32))).2.1 hl hn)] (by simp only [go_sem, seval, af_, ac_, da_ (show 0 < e.kids.length by have := g3 (g0 (by simpa using h15) (by simpa using h19) (by simpa using h32)); omega)]; rfl) ?_ ?_))
    ·have := g3 (g0 (by simpa using h15) (by simpa using h19) (by simpa using h32)); simp; omega
    refine .seq (.rgn [a1_ (ih (e.kids.getD 1 E0) N M (g3 (g0 (by simpa using h15) (by simpa using h19) (by simpa using h32))).2.2.1 hl hn)] (by simp only [go_sem, seval, af_, ac_, da_ (show 1 < e.kids.length by have := g3 (g0 (by simpa using h15) (by simpa using h19) (by simpa using h32)); omega)]; rfl) ?_ ?_)
    ·have := g3 (g0 (by simpa using h15) (by simpa using h19) (by simpa using h32)); simp; omega
    refine .seq (.seq (.rgn [] (by simp only [go_sem, seval, af_, ac_]; rfl) ?_ ?_))
    ·first | trivial | simp
    refine .condB (by simp only [go_sem, seval, af_, ac_]; rfl) (by simp only [go_sem, seval, af_, ac_]) (fun h68 => ?_) (fun h68 => ?_)
    ·refine .seq (.rgn [] (by simp only [go_sem, seval, af_, ac_]; rfl) ?_ ?_)
     ·first | trivial | simp
     refine .ret ⟨.inr rfl, ?_⟩
     exact Out.plain (by simp only [Tryz.results59]; rfl) (by simp only [av_, a3_, go_sem, seval, af_, ac_] <;> (split <;> rfl)) (by simp only [a2_, go_sem, seval, af_, ac_] <;> (rw [R3 (g0 (by simpa using h15) (by simpa using h19) (by simpa using h32))]; simp at h68; (rcases h68 with h | h <;> simp [ky_, h]))) (by simp only [go_sem, seval, af_, ac_])
    ·refine .skip (.seq (.seq (.rgn [] (by simp only [go_sem, seval, af_, ac_]; rfl) ?_ ?_)))
     ·first | trivial | simp
     refine .block (.seq (.rgn [] (by simp only [go_sem, seval, af_, ac_]; rfl) ?_ ?_))
     ·first | trivial | simp
     refine .condB (by simp only [go_sem, seval, af_, ac_]; rfl) (by simp only [go_sem, seval, af_, ac_]) (fun h71 => ?_) (fun h71 => ?_)
     ·refine .seq (.rgn [a1_ (xp_ ((rk (e.kids.getD 0 E0) N M).1 + (rk (e.kids.getD 1 E0) N M).1))] (by simp only [go_sem, seval, af_, ac_, bd_ (show -9223372036854775808 ≤ (rk (e.kids.getD 0 E0) N M).1 + (rk (e.kids.getD 1 E0) N M).1 by have := Q (g0 (by simpa using h15) (by simpa using h19) (by simpa using h32)); omega) (by have := Q (g0 (by simpa using h15) (by simpa using h19) (by simpa using h32)); omega)]; rfl) ?_ ?_)
      ·first | trivial | simp
      refine .ret ⟨.inr rfl, ?_⟩
      exact Out.plain (by simp only [Tryz.results59]; rfl) (by simp only [av_, a3_, go_sem, seval, af_, ac_] <;> (split <;> rfl)) (by simp only [a2_, go_sem, seval, af_, ac_] <;> (rw [R3 (g0 (by simpa using h15) (by simpa using h19) (by simpa using h32))]; simp at h68 h71; simp [ky_, twI, h68, h71])) (by simp only [go_sem, seval, af_, ac_])
     ·refine .seq (.rgn [] (by simp only [go_sem, seval, af_, ac_]; rfl) ?_ ?_)
      ·first | trivial | simp
      refine .condB (by simp only [go_sem, seval, af_, ac_]; rfl) (by simp only [go_sem, seval, af_, ac_]) (fun h77 => ?_) (fun h77 => ?_)
      ·refine .seq (.rgn [a1_ (xp_ ((rk (e.kids.getD 0 E0) N M).1 - (rk (e.kids.getD 1 E0) N M).1))] (by simp only [go_sem, seval, af_, ac_, bd_ (show -9223372036854775808 ≤ (rk (e.kids.getD 0 E0) N M).1 - (rk (e.kids.getD 1 E0) N M).1 by have := Q (g0 (by simpa using h15) (by simpa using h19) (by simpa using h32)); omega) (by have := Q (g0 (by simpa using h15) (by simpa using h19) (by simpa using h32)); omega)]; rfl) ?_ ?_)
       ·first | trivial | simp
       refine .ret ⟨.inr rfl, ?_⟩
       exact Out.plain (by simp only [Tryz.results59]; rfl) (by simp only [av_, a3_, go_sem, seval, af_, ac_] <;> (split <;> rfl)) (by simp only [a2_, go_sem, seval, af_, ac_] <;> (rw [R3 (g0 (by simpa using h15) (by simpa using h19) (by simpa using h32))]; simp at h68 h71 h77; simp [ky_, twI, h68, h71, h77])) (by simp only [go_sem, seval, af_, ac_])
      ·refine .seq (.rgn [] (by simp only [go_sem, seval, af_, ac_]; rfl) ?_ ?_)
       ·first | trivial | simp
       refine .condB (by simp only [go_sem, seval, af_, ac_]; rfl) (by simp only [go_sem, seval, af_, ac_]) (fun h83 => ?_) (fun h83 => ?_)
       ·refine .seq (.rgn [a1_ (xp_ ((rk (e.kids.getD 0 E0) N M).1 * (rk (e.kids.getD 1 E0) N M).1))] (by simp only [go_sem, seval, af_, ac_, bd_ (show -9223372036854775808 ≤ (rk (e.kids.getD 0 E0) N M).1 * (rk (e.kids.getD 1 E0) N M).1 by have := P (g0 (by simpa using h15) (by simpa using h19) (by simpa using h32)); omega) (by have := P (g0 (by simpa using h15) (by simpa using h19) (by simpa using h32)); omega)]; rfl) ?_ ?_)
        ·first | trivial | simp
        refine .ret ⟨.inr rfl, ?_⟩
        exact Out.plain (by simp only [Tryz.results59]; rfl) (by simp only [av_, a3_, go_sem, seval, af_, ac_] <;> (split <;> rfl)) (by simp only [a2_, go_sem, seval, af_, ac_] <;> (rw [R3 (g0 (by simpa using h15) (by simpa using h19) (by simpa using h32))]; simp at h68 h71 h77 h83; simp [ky_, twI, h68, h71, h77, h83])) (by simp only [go_sem, seval, af_, ac_])
       ·refine .skip (.seq (.seq (.rgn [] (by simp only [go_sem, seval, af_, ac_]; rfl) ?_ ?_)))
        ·first | trivial | simp
        refine .condB (by simp only [go_sem, seval, af_, ac_]; rfl) (by simp only [go_sem, seval, af_, ac_]) (fun h91 => ?_) (fun h91 => ?_)
        ·refine .seq (.rgn [] (by simp only [go_sem, seval, af_, ac_]; rfl) ?_ ?_)
         ·first | trivial | simp
         refine .ret ⟨.inr rfl, ?_⟩
         exact Out.plain (by simp only [Tryz.results59]; rfl) (by simp only [av_, a3_, go_sem, seval, af_, ac_] <;> (split <;> rfl)) (by simp only [a2_, go_sem, seval, af_, ac_] <;> (rw [R3 (g0 (by simpa using h15) (by simpa using h19) (by simpa using h32))]; simp at h68 h71 h77 h83 h91; simp [ky_, twI, h68, h71, h77, h83, h91])) (by simp only [go_sem, seval, af_, ac_])
        ·refine .skip (.seq (.rgn [] (by simp only [go_sem, seval, af_, ac_]; rfl) ?_ ?_))
         ·first | trivial | simp
         refine .ret ⟨.inr rfl, ?_⟩
         exact Out.plain (by simp only [Tryz.results59]; rfl) (by simp only [av_, a3_, go_sem, seval, af_, ac_] <;> (split <;> rfl)) (by simp only [a2_, go_sem, seval, af_, ac_] <;> (rw [R3 (g0 (by simpa using h15) (by simpa using h19) (by simpa using h32))]; simp at h68 h71 h77 h83 h91; simp [ky_, twI, h68, h71, h77, h83, Int.not_lt.2 h91])) (by simp only [go_sem, seval, af_, ac_])
theorem agz_ (d : Nat) : ∀ (e : E) (N : List Str) (M : List Int), form e d = true → N.length = M.length → N.length ≤ 1000000 → ACall En 156 [.ag (eC e), .sl false (bi_ N), .sl false (inR M)] [] [.i .i64 (rk e N M).1, .b (rk e N M).2] [] := by
 induction d with
 | zero => intro e N M h; have := (bj_ h).1; omega
 | succ d ih =>
 intro e N M h hl hn
 have e1 : ((d + 1 : Nat) : Int) - 1 = (d : Int) := by omega
 have g3 : e.kind = 3 → e.kids.length = 2 ∧ form (e.kids.getD 0 E0) d = true ∧ form (e.kids.getD 1 E0) d = true ∧ em_ e.s = true := fun hk => by
  rcases (bj_ h).2 with ⟨k1, _⟩ | ⟨k1, _⟩ | ⟨k1, h1, h2, h3, h4, h5⟩ | ⟨k1, _⟩ <;> try omega
  rw [e1] at h4 h5; exact ⟨h3, h4, h5, h2⟩
 have g4 : e.kind = 4 → e.kids.length = 1 ∧ form (e.kids.getD 0 E0) d = true := fun hk => by
  rcases (bj_ h).2 with ⟨k1, _⟩ | ⟨k1, _⟩ | ⟨k1, _⟩ | ⟨k1, h1, h2, h3, h4⟩ <;> try omega
  rw [e1] at h4; exact ⟨h3, h4⟩
 have g0 : ¬ e.kind = 1 → ¬ e.kind = 2 → ¬ e.kind = 4 → e.kind = 3 := fun a b c => by
  rcases (bj_ h).2 with ⟨k1, _⟩ | ⟨k1, _⟩ | ⟨k1, _⟩ | ⟨k1, _⟩ <;> omega
 have hb := uy_ N e.s
 have Q : e.kind = 3 → (-1000000 ≤ (rk (e.kids.getD 0 E0) N M).1 ∧ (rk (e.kids.getD 0 E0) N M).1 ≤ 1000000) ∧ (-1000000 ≤ (rk (e.kids.getD 1 E0) N M).1 ∧ (rk (e.kids.getD 1 E0) N M).1 ≤ 1000000) := fun hk =>
  ⟨wu_ d _ N M (g3 hk).2.1, wu_ d _ N M (g3 hk).2.2.1⟩
 have P := fun hk => vd_ _ _ (Q hk).1 (Q hk).2
 have R1 := @v2_ e
 have R2 := @rg_ e
 have R3 : e.kind = 3 → rk e N M = ky_ e.s (rk (e.kids.getD 0 E0) N M) (rk (e.kids.getD 1 E0) N M) := fun hk => v9_ hk (g3 hk).1 N M
 have R4 : e.kind = 4 → rk e N M = rk (e.kids.getD 0 E0) N M := fun hk => aae_ hk (g4 hk).1 N M
 refine al_ (fn := Tryz.f156) [] Tryz.func156 rfl rfl (by simp) fun C => ?_
 rw [aw_]
 simp only [Tryz.ntmps156, T7_, List.length_nil, Nat.reduceAdd, Nat.reduceSub, List.replicate_succ, List.replicate_zero, List.cons_append, List.nil_append, bo_]
 refine .seq (.rgn [] (by simp only [go_sem, seval, af_, ac_]; rfl) ?_ ?_)
 ·first | trivial | simp
 refine .seq (.seq (.rgn [] (by simp only [go_sem, seval, af_, ac_]; rfl) ?_ ?_))
 ·first | trivial | simp
 refine .block (.seq (.rgn [] (by simp only [go_sem, seval, af_, ac_]; rfl) ?_ ?_))
 ·first | trivial | simp
 refine .condB (by simp only [go_sem, seval, af_, ac_]; rfl) (by simp only [go_sem, seval, af_, ac_]) (fun h15 => ?_) (fun h15 => ?_)
 ·refine .seq (.rgn [] (by simp only [go_sem, seval, af_, ac_]; rfl) ?_ ?_)
  ·first | trivial | simp
  refine .ret ⟨.inr rfl, ?_⟩
  exact Out.plain (by simp only [Tryz.results156]; rfl) (by simp only [av_, a3_, go_sem, seval, af_, ac_] <;> (split <;> rfl)) (by simp only [a2_, go_sem, seval, af_, ac_] <;> (rw [R1 (by simpa using h15)])) (by simp only [go_sem, seval, af_, ac_])
 ·refine .seq (.rgn [] (by simp only [go_sem, seval, af_, ac_]; rfl) ?_ ?_)
  ·first | trivial | simp
  refine .condB (by simp only [go_sem, seval, af_, ac_]; rfl) (by simp only [go_sem, seval, af_, ac_]) (fun h19 => ?_) (fun h19 => ?_)
  ·refine .seq (.rgn [a1_ (ad9_ N e.s (by omega))] (by simp only [go_sem, seval, af_, ac_]; rfl) ?_ ?_)
   ·first | trivial | simp
   refine .seq (.seq (.rgn [] (by simp only [go_sem, seval, af_, ac_]; rfl) ?_ ?_))
   ·first | trivial | simp
   refine .condB (by simp only [go_sem, seval, af_, ac_]; rfl) (by simp only [go_sem, seval, af_, ac_]) (fun h26 => ?_) (fun h26 => ?_)
   ·refine .seq (.rgn [] (by simp only [go_sem, seval, af_, ac_]; rfl) ?_ ?_)
    ·first | trivial | simp
    refine .ret ⟨.inr rfl, ?_⟩
    exact Out.plain (by simp only [Tryz.results156]; rfl) (by simp only [av_, a3_, go_sem, seval, af_, ac_] <;> (split <;> rfl)) (by simp only [a2_, go_sem, seval, af_, ac_] <;> (rw [R2 (by simpa using h19), if_pos (by simpa using h26)])) (by simp only [go_sem, seval, af_, ac_])
   ·refine .skip (.seq (.rgn [a1_ (ra_ (M.getD (fw_ N e.s).toNat 0))] (by simp only [go_sem, seval, af_, ac_, fk_ (show (fw_ N e.s).toNat < M.length by simp at h26; omega)]; rfl) ?_ ?_))
    ·simp at h26; (try simp); omega
    refine .ret ⟨.inr rfl, ?_⟩
    exact Out.plain (by simp only [Tryz.results156]; rfl) (by simp only [av_, a3_, go_sem, seval, af_, ac_] <;> (split <;> rfl)) (by simp only [a2_, go_sem, seval, af_, ac_] <;> (rw [R2 (by simpa using h19), if_neg (by simpa using h26)])) (by simp only [go_sem, seval, af_, ac_])
  ·refine .seq (.rgn [] (by simp only [go_sem, seval, af_, ac_]; rfl) ?_ ?_)
   ·first | trivial | simp
   refine .condB (by simp only [go_sem, seval, af_, ac_]; rfl) (by simp only [go_sem, seval, af_, ac_]) (fun h32 => ?_) (fun h32 => ?_)
   ·refine .seq (.rgn [a1_ (ih (e.kids.getD 0 E0) N M (g4 (by simpa using h32)).2 hl hn)] (by simp only [go_sem, seval, af_, ac_, da_ (show 0 < e.kids.length by have := g4 (by simpa using h32); omega)]; rfl) ?_ ?_)
    ·have := g4 (by simpa using h32); simp; omega
    refine .ret ⟨.inr rfl, ?_⟩
    exact Out.plain (by simp only [Tryz.results156]; rfl) (by simp only [av_, a3_, go_sem, seval, af_, ac_] <;> (split <;> rfl)) (by simp only [a2_, go_sem, seval, af_, ac_] <;> (rw [R4 (by simpa using h32)])) (by simp only [go_sem, seval, af_, ac_])
   ·refine .skip (.seq (.rgn [a1_ (ih (e.kids.getD 0 E0) N M (g3 (g0 (by simpa using h15) (by simpa using h19) (by simpa using h32))).2.1 hl hn)] (by simp only [go_sem, seval, af_, ac_, da_ (show 0 < e.kids.length by have := g3 (g0 (by simpa using h15) (by simpa using h19) (by simpa using h32)); omega)]; rfl) ?_ ?_))
    ·have := g3 (g0 (by simpa using h15) (by simpa using h19) (by simpa using h32)); simp; omega
    refine .seq (.rgn [a1_ (ih (e.kids.getD 1 E0) N M (g3 (g0 (by simpa using h15) (by simpa using h19) (by simpa using h32))).2.2.1 hl hn)] (by simp only [go_sem, seval, af_, ac_, da_ (show 1 < e.kids.length by have := g3 (g0 (by simpa using h15) (by simpa using h19) (by simpa using h32)); omega)]; rfl) ?_ ?_)
    ·have := g3 (g0 (by simpa using h15) (by simpa using h19) (by simpa using h32)); simp; omega
    refine .seq (.seq (.rgn [] (by simp only [go_sem, seval, af_, ac_]; rfl) ?_ ?_))
    ·first | trivial | simp
    refine .condB (by simp only [go_sem, seval, af_, ac_]; rfl) (by simp only [go_sem, seval, af_, ac_]) (fun h68 => ?_) (fun h68 => ?_)
    ·refine .seq (.rgn [] (by simp only [go_sem, seval, af_, ac_]; rfl) ?_ ?_)
     ·first | trivial | simp
     refine .ret ⟨.inr rfl, ?_⟩
     exact Out.plain (by simp only [Tryz.results156]; rfl) (by simp only [av_, a3_, go_sem, seval, af_, ac_] <;> (split <;> rfl)) (by simp only [a2_, go_sem, seval, af_, ac_] <;> (rw [R3 (g0 (by simpa using h15) (by simpa using h19) (by simpa using h32))]; simp at h68; (rcases h68 with h | h <;> simp [ky_, h]))) (by simp only [go_sem, seval, af_, ac_])
    ·refine .skip (.seq (.rgn [a1_ (ag0_ e.s (rk (e.kids.getD 0 E0) N M).1 (rk (e.kids.getD 1 E0) N M).1 (Q (g0 (by simpa using h15) (by simpa using h19) (by simpa using h32))).1 (Q (g0 (by simpa using h15) (by simpa using h19) (by simpa using h32))).2)] (by simp only [go_sem, seval, af_, ac_]; rfl) ?_ ?_))
     ·first | trivial | simp
     refine .ret ⟨.inr rfl, ?_⟩
     exact Out.plain (by simp only [Tryz.results156]; rfl) (by simp only [av_, a3_, go_sem, seval, af_, ac_] <;> (split <;> rfl)) (by simp only [a2_, go_sem, seval, af_, ac_] <;> (rw [R3 (g0 (by simpa using h15) (by simpa using h19) (by simpa using h32))]; simp at h68; simp [ky_, h68])) (by simp only [go_sem, seval, af_, ac_])
end
section
set_option maxRecDepth 100000
set_option maxHeartbeats 4000000
def bLR (l : List Bl) : List (List V) := l.map bC
theorem ai_ (l : List Bl) : (bLR l).length = l.length := by simp [bLR]
theorem aek_ (b : Bl) : cw_ (bC b) = true := by rw [ae_]; simp only [cw_, V.pure, fy_, Bool.and_self]
theorem ad_ (l : List Bl) : cd_ (bLR l) = true := g4_.2 fun r hr => by obtain ⟨s, _, rfl⟩ := List.mem_map.1 hr; exact aek_ s
theorem kx_ {l : List Bl} {k : Nat} (h : k < l.length) : (bLR l).getD k [] = bC (l.getD k B0) := by
 simp [bLR, T8_, T6_ h]
theorem ahw_ (b : Bl) : (bC b).length = 10 := by rw [ae_]; rfl
theorem s2_ (l : List Bl) : (∀ r, r ∈ bLR l → r.length = 10) = True := eq_true fun r hr => by obtain ⟨s, _, rfl⟩ := List.mem_map.1 hr; exact ahw_ s
theorem kp_ (a b : List Bl) : bLR (a ++ b) = bLR a ++ bLR b := by simp [bLR]
def h0_ (l : List Bl) : Bool := l.all smb
theorem ry_ {l : List Bl} (h : h0_ l = true) {k : Nat} (hk : k < l.length) : smb (l.getD k B0) = true := List.all_eq_true.1 h _ (bp_ hk)
theorem v0_ (b : Bl) (hs : smb b = true) : ACall En 58 [.ag (bC b)] [] [.b (!bok b)] [] := by
 refine al_ (fn := Tryz.f58) [] Tryz.func58 rfl rfl (by simp) fun C => ?_
 rw [aw_]
 simp only [Tryz.ntmps58, T7_, List.length_nil, Nat.reduceAdd, Nat.reduceSub, List.replicate_succ, List.replicate_zero, List.cons_append, List.nil_append, bo_]
 refine .seq (.rgn [] (by simp only [go_sem, seval, ae_]; rfl) ?_ ?_)
 ·first | trivial | simp
 refine .seq (.rgn [a1_ (g8_ b hs)] (by simp only [go_sem, seval, ae_]; rfl) ?_ ?_)
 ·first | trivial | simp
 refine .ret ⟨.inr rfl, ?_⟩
 exact Out.plain (by simp only [Tryz.results58]; rfl) (by simp only [av_, a3_, go_sem, seval, ae_] <;> (split <;> rfl)) (by simp only [a2_, go_sem, seval, ae_] <;> (rfl)) (by simp only [go_sem, seval, ae_])
theorem afa_ (l : List Bl) (hs : h0_ l = true) (hl : l.length < 4611686018427387904) : ACall En 108 [.sl false (bLR l), .fn (.func 58) [] []] [] [.i .i64 (vo_ (fun s => !bok s) l)] [] := by
 refine al_ (fn := Tryz.f108) [] Tryz.func108 rfl rfl (by simp) fun C => ?_
 rw [aw_]
 simp only [Tryz.ntmps108, T7_, List.length_nil, Nat.reduceAdd, Nat.reduceSub, List.replicate_succ, List.replicate_zero, List.cons_append, List.nil_append, bo_]
 refine .seq (.rgn [] (by simp only [go_sem, seval, ai_, ad_, ae_]; rfl) ?_ ?_)
 ·first | trivial | simp
 refine .seq (.seq (.rgn [] (by simp only [go_sem, seval, ai_, ad_, ae_]; rfl) ?_ ?_))
 ·first | trivial | simp
 refine .block (.loopK (fun k : Nat => ⟨[.sl false (bLR l), .fn (.func 58) [] [], .no, .no, .no, .no, .no, .i .i64 l.length, .i .i64 k, .no, .no, .no, .no, .no, .no, .no, .no, .no, .no], bc_ [], us []⟩) (fun k : Nat => k ≤ l.length ∧ (l.take k).any (fun s => !bok s) = false) (fun k : Nat => l.length - k) (0) ?_ ?_ (fun k hI => ?_))
 ·simp
 ·exact Can.weak (Weak.lit (by simp only [go_sem, seval, ai_, ad_, ae_, aq_, leV, ao_, ap_, V.inn, us, T9_, Ta_] <;> (simp)) (by simp only [go_sem, seval, ai_, ad_, ae_, aq_, leV, ao_, ap_, V.inn, us, T9_, Ta_]) (by simp only [go_sem, seval, ai_, ad_, ae_, aq_, leV, ao_, ap_, V.inn, us, T9_, Ta_]))
 refine .seq (.rgn [] (by simp only [go_sem, seval, ai_, ad_, ae_]; rfl) ?_ ?_)
 ·first | trivial | simp
 refine .seq (.condB (by simp only [go_sem, seval, ai_, ad_, ae_]; rfl) (by simp only [go_sem, seval, ai_, ad_, ae_]) (fun h9 => ?_) (fun h9 => ?_))
 ·refine .skip (.seq (.block (.seq (.rgn [] (by simp only [go_sem, seval, ai_, ad_, ae_]; rfl) ?_ ?_))))
  ·first | trivial | simp
  refine .seq (.rgn [ck_ (k < l.length) (fun h => v0_ (l.getD k B0) (ry_ hs h))] (by simp only [go_sem, seval, ai_, ad_, ae_, kx_ (show k < l.length by simpa using h9)]; rfl) ?_ ?_)
  ·simp only [T3_] at h9; simp; omega
  refine .condB (by simp only [go_sem, seval, ai_, ad_, ae_]; rfl) (by simp only [go_sem, seval, ai_, ad_, ae_]) (fun h16 => ?_) (fun h16 => ?_)
  ·refine .seq (.rgn [] (by simp only [go_sem, seval, ai_, ad_, ae_]; rfl) ?_ ?_)
   ·first | trivial | simp
   refine .ret ⟨.inr rfl, ?_⟩
   exact Out.plain (by simp only [Tryz.results108]; rfl) (by simp only [av_, a3_, go_sem, seval, ai_, ad_, ae_] <;> (split <;> rfl)) (by simp only [a2_, go_sem, seval, ai_, ad_, ae_] <;> (simp at h9; rw [af7_ (d := B0) h9 hI.2 h16])) (by simp only [go_sem, seval, ai_, ad_, ae_])
  ·refine .skip (.rgn [] (by simp only [go_sem, seval, ai_, ad_, ae_]; rfl) ?_ ?_)
   ·first | trivial | simp
   refine Exists.intro (k + 1) ⟨?_, ?_, ?_⟩
   ·simp at h9; refine ⟨by omega, ?_⟩; rw [ox_ (d := B0) h9, hI.2, h16]; rfl
   ·simp at h9; omega
   exact Can.weak (Weak.lit (by simp only [go_sem, seval, ai_, ad_, ae_, aq_, leV, ao_, ap_, V.inn, us, T9_, Ta_] <;> (rw [bd_ (by omega) (by omega)]; simp)) (by simp only [go_sem, seval, ai_, ad_, ae_, aq_, leV, ao_, ap_, V.inn, us, T9_, Ta_]) (by simp only [go_sem, seval, ai_, ad_, ae_, aq_, leV, ao_, ap_, V.inn, us, T9_, Ta_]))
 ·refine .exit (.seq (.rgn [] (by simp only [go_sem, seval, ai_, ad_, ae_]; rfl) ?_ ?_))
  ·first | trivial | simp
  refine .ret ⟨.inr rfl, ?_⟩
  exact Out.plain (by simp only [Tryz.results108]; rfl) (by simp only [av_, a3_, go_sem, seval, ai_, ad_, ae_] <;> (split <;> rfl)) (by simp only [a2_, go_sem, seval, ai_, ad_, ae_] <;> (simp at h9; have h0 := hI.2; rw [T1_ h9] at h0; rw [zf_ h0])) (by simp only [go_sem, seval, ai_, ad_, ae_])
theorem r8_ (l : List Bl) (hs : h0_ l = true) (hl : l.length < 4611686018427387904) : ACall En 57 [.sl false (bLR l), .fn (.func 58) [] []] [] [.b (l.any fun s => !bok s)] [] := by
 refine al_ (fn := Tryz.f57) [] Tryz.func57 rfl rfl (by simp) fun C => ?_
 rw [aw_]
 simp only [Tryz.ntmps57, T7_, List.length_nil, Nat.reduceAdd, Nat.reduceSub, List.replicate_succ, List.replicate_zero, List.cons_append, List.nil_append, bo_]
 refine .seq (.rgn [] (by simp only [go_sem, seval, ad_]; rfl) ?_ ?_)
 ·first | trivial | simp
 refine .seq (.rgn [a1_ (afa_ l hs hl)] (by simp only [go_sem, seval, ad_]; rfl) ?_ ?_)
 ·first | trivial | simp
 refine .ret ⟨.inr rfl, ?_⟩
 exact Out.plain (by simp only [Tryz.results57]; rfl) (by simp only [av_, a3_, go_sem, seval, ad_] <;> (split <;> rfl)) (by simp only [a2_, go_sem, seval, ad_] <;> (rw [afj_])) (by simp only [go_sem, seval, ad_])
theorem anyB (l : List Bl) : (l.any fun s => !bok s) = !l.all bok := by rw [List.any_eq_not_all_not]; simp
theorem cr_ {l : List Bl} (h : lok l = true) : 1 ≤ l.length ∧ l.length ≤ 16 ∧ ∀ k, k < l.length → bok (l.getD k B0) = true := by
 simp only [lok, T5_, T3_, List.all_eq_true] at h
 exact ⟨h.1.1, h.1.2, fun k hk => h.2 _ (bp_ hk)⟩
theorem s8_ {b : Bl} (h : bok b = true) (k : ¬ b.kind = 0) : eok b.expr = true := by
 have h0 : df_ b = true := by simp only [bok, T5_] at h; exact h.1
 unfold df_ at h0
 by_cases k1 : b.kind = 1
 ·simp [k1] at h0; exact ci_ h0.1.2
 by_cases k2 : b.kind = 2
 ·simp [k2] at h0; exact ci_ h0.1.2
 by_cases k3 : b.kind = 3
 ·simp [k3] at h0; exact ci_ h0.1.2
 ·simp [k, k1, k2, k3] at h0
theorem yd_ {b : Bl} (h : bok b = true) (k : b.kind = 3) : eok b.thn = true := by
 have h0 : df_ b = true := by simp only [bok, T5_] at h; exact h.1
 unfold df_ at h0
 simp [k] at h0; exact ci_ h0.2
theorem aak_ {b : Bl} (h : bok b = true) : b.kind = 0 ∨ b.kind = 1 ∨ b.kind = 2 ∨ b.kind = 3 := by
 have h0 : df_ b = true := by simp only [bok, T5_] at h; exact h.1
 unfold df_ at h0
 by_cases k0 : b.kind = 0
 ·exact .inl k0
 by_cases k1 : b.kind = 1
 ·exact .inr (.inl k1)
 by_cases k2 : b.kind = 2
 ·exact .inr (.inr (.inl k2))
 by_cases k3 : b.kind = 3
 ·exact .inr (.inr (.inr k3))
 ·simp [k0, k1, k2, k3] at h0
theorem ys_ {r : Rs} {b : Bl} (k : b.kind = 0) : dp_ r b = r := by unfold dp_; split <;> simp_all
theorem zz_ {r : Rs} {b : Bl} (h : r.ok = true) (k : ¬ b.kind = 0) (h2 : (ed_ b r.names r.nums).2.2 = false) : dp_ r b = { r with ok := false } := by simp [dp_, h, k, h2]
theorem ads_ {r : Rs} {b : Bl} (h : r.ok = true) (k : b.kind = 1) (h2 : (ed_ b r.names r.nums).2.2 = true) : dp_ r b = { r with names := r.names ++ [b.name], nums := r.nums ++ [(rk b.expr r.names r.nums).1] } := by
 have : (ed_ b r.names r.nums).1 = (rk b.expr r.names r.nums).1 := by unfold ed_; split <;> rfl
 simp [dp_, h, k, h2, this]
theorem zv_ {r : Rs} {b : Bl} (h : r.ok = true) (k : ¬ b.kind = 0) (k1 : ¬ b.kind = 1) (h2 : (ed_ b r.names r.nums).2.2 = true) (h3 : b.kind = 2 ∨ ¬ (rk b.expr r.names r.nums).1 = 0) : dp_ r b = { r with said := r.said ++ [(ed_ b r.names r.nums).2.1] } := by
 have e : (ed_ b r.names r.nums).1 = (rk b.expr r.names r.nums).1 := by unfold ed_; split <;> rfl
 unfold dp_
 rw [if_neg (by simp [h]), if_neg k, if_neg (by simp [h2]), if_neg k1, if_pos (by rw [e]; exact h3)]
theorem zw_ {r : Rs} {b : Bl} (h : r.ok = true) (k : ¬ b.kind = 0) (k1 : ¬ b.kind = 1) (h2 : (ed_ b r.names r.nums).2.2 = true) (h3 : ¬ b.kind = 2) (h4 : (rk b.expr r.names r.nums).1 = 0) : dp_ r b = r := by
 have e : (ed_ b r.names r.nums).1 = (rk b.expr r.names r.nums).1 := by unfold ed_; split <;> rfl
 unfold dp_
 rw [if_neg (by simp [h]), if_neg k, if_neg (by simp [h2]), if_neg k1, if_neg (by rw [e]; simp [h3, h4])]
theorem g7_ (l : List Int) (n : Int) : inR (l ++ [n]) = inR l ++ [[.i .i64 n]] := by rw [aed_]; rfl
theorem n0_ (l : List Str) (s : Str) : bi_ (l ++ [s]) = bi_ l ++ [[.s s]] := by rw [kt_]; rfl
theorem qe_ (l : List Int) (n : Nat) (hn : n = l.length) (hl : l.length < 1099511627776) : ACall En 60 [.ow 0 1 0 n] [⟨3, 1, inR l⟩] [.ow 0 1 0 n] [⟨3, 1, inR l⟩] := by
 refine al_ (fn := Tryz.f60) [0] Tryz.func60 rfl rfl (by simp) fun C => ?_
 rw [aw_]
 simp only [Tryz.ntmps60, T7_, List.length_nil, Nat.reduceAdd, Nat.reduceSub, List.replicate_succ, List.replicate_zero, List.cons_append, List.nil_append, bo_]
 refine .seq (.rgn [] (by simp only [go_sem, seval, ac_]; rfl) ?_ ?_)
 ·subst hn; simp [af_]
 refine .seq (.rgn [] (by simp only [go_sem, seval, ac_]; rfl) ?_ ?_)
 ·subst hn; simp [af_]
 refine .ret ⟨.inr rfl, ?_⟩
 exact Out.mem' (by simp only [Tryz.results60]; rfl) (by simp only [av_, a3_, go_sem, seval, ac_]) (by simp only [a2_, rns, rn, go_sem, seval, ac_] <;> (simp)) (by simp) rfl (by decide) (by simp only [go_sem, seval, ac_]) (by simp only [an_, go_sem, seval, ac_]) (by simp only [ah_, go_sem, seval, ac_] <;> (simp [ce_, ac_]))
theorem dl_ {l : List Bl} {k : Nat} (hk : k ≤ l.length) (h16 : l.length ≤ 16) : (bv_ (l.take k)).names.length = (bv_ (l.take k)).nums.length ∧ (bv_ (l.take k)).names.length ≤ 16 ∧ (bv_ (l.take k)).said.length ≤ 16 := by
 have := sx_ l k hk; omega
theorem f6_ {l : List Bl} {k : Nat} (hk : k < l.length) (h : (l.getD k B0).kind = 0) : bv_ (l.take (k + 1)) = bv_ (l.take k) := by rw [f8_ hk, ys_ h]
theorem hb_ {l : List Bl} {k : Nat} (hk : k < l.length) (h : (bv_ (l.take k)).ok = true) (h1 : (l.getD k B0).kind = 1) (h2 : (ed_ (l.getD k B0) (bv_ (l.take k)).names (bv_ (l.take k)).nums).2.2 = true) :
  bv_ (l.take (k + 1)) = { bv_ (l.take k) with names := (bv_ (l.take k)).names ++ [(l.getD k B0).name], nums := (bv_ (l.take k)).nums ++ [(rk (l.getD k B0).expr (bv_ (l.take k)).names (bv_ (l.take k)).nums).1] } := by rw [f8_ hk, ads_ h h1 h2]
theorem eu_ {l : List Bl} {k : Nat} (hk : k < l.length) (h : (bv_ (l.take k)).ok = true) (h0 : ¬ (l.getD k B0).kind = 0) (h1 : ¬ (l.getD k B0).kind = 1) (h2 : (ed_ (l.getD k B0) (bv_ (l.take k)).names (bv_ (l.take k)).nums).2.2 = true) (h3 : (l.getD k B0).kind = 2 ∨ ¬ (rk (l.getD k B0).expr (bv_ (l.take k)).names (bv_ (l.take k)).nums).1 = 0) :
  bv_ (l.take (k + 1)) = { bv_ (l.take k) with said := (bv_ (l.take k)).said ++ [(ed_ (l.getD k B0) (bv_ (l.take k)).names (bv_ (l.take k)).nums).2.1] } := by rw [f8_ hk, zv_ h h0 h1 h2 h3]
theorem f4_ {l : List Bl} {k : Nat} (hk : k < l.length) (h : (bv_ (l.take k)).ok = true) (h0 : ¬ (l.getD k B0).kind = 0) (h1 : ¬ (l.getD k B0).kind = 1) (h2 : (ed_ (l.getD k B0) (bv_ (l.take k)).names (bv_ (l.take k)).nums).2.2 = true) (h3 : ¬ (l.getD k B0).kind = 2) (h4 : (rk (l.getD k B0).expr (bv_ (l.take k)).names (bv_ (l.take k)).nums).1 = 0) :
  bv_ (l.take (k + 1)) = bv_ (l.take k) := by rw [f8_ hk, zw_ h h0 h1 h2 h3 h4]
theorem ir_ {l : List Bl} {k : Nat} (hl : lok l = true) (hk : k < l.length) (h : (bv_ (l.take k)).ok = true) (h0 : ¬ (l.getD k B0).kind = 0) (h2 : (ed_ (l.getD k B0) (bv_ (l.take k)).names (bv_ (l.take k)).nums).2.2 = false) : ca_ l = ((bv_ (l.take k)).said, false) := by
 have e := f8_ hk
 rw [zz_ h h0 h2] at e
 have e2 := p5_ (l := l) (k := k + 1) (by omega) (by rw [e])
 unfold ca_; rw [if_pos hl, e2, e]
theorem ku_ {l : List Bl} {k : Nat} (hl : lok l = true) (hk : l.length ≤ k) (h : (bv_ (l.take k)).ok = true) : ca_ l = ((bv_ (l.take k)).said, true) := by
 rw [T1_ hk] at h ⊢
 unfold ca_; rw [if_pos hl, h]
theorem ih_ {l : List Bl} (h : lok l = false) : ca_ l = ([], false) := by unfold ca_; rw [h]; rfl
theorem vz_ (l : List Bl) : lok l = !(!(decide ((1 : Int) ≤ l.length) && decide ((l.length : Int) ≤ 16)) || l.any fun s => !bok s) := by
 rw [anyB]; simp only [lok, Bool.not_or, Bool.not_not, hm_]; rfl
theorem l7_ (l : List Bl) (hs : h0_ l = true) (hl : l.length < 4611686018427387904) : ACall En 13 [.sl false (bLR l)] [] [.ow 0 1 0 (ca_ l).1.length, .b (ca_ l).2] [⟨3, 1, inR (ca_ l).1⟩] := by
 have F1 : ∀ k, lok l = true → k < l.length → ¬ (l.getD k B0).kind = 0 → form (l.getD k B0).expr ((5 : Nat) : Int) = true := fun k h hk hk0 => b5_ (s8_ ((cr_ h).2.2 k hk) hk0)
 have F2 : ∀ k, lok l = true → k < l.length → (l.getD k B0).kind = 3 → form (l.getD k B0).thn ((5 : Nat) : Int) = true := fun k h hk hk0 => b5_ (yd_ ((cr_ h).2.2 k hk) hk0)
 refine al_ (fn := Tryz.f13) [22] Tryz.func13 rfl rfl (by simp) fun C => ?_
 rw [aw_]
 simp only [Tryz.ntmps13, T7_, List.length_nil, Nat.reduceAdd, Nat.reduceSub, List.replicate_succ, List.replicate_zero, List.cons_append, List.nil_append, bo_]
 refine .seq (.rgn [] (by simp only [go_sem, seval, ai_, ad_, af_, ac_, ae_]; rfl) ?_ ?_)
 ·first | trivial | simp
 refine .seq (.seq (.rgn [a1_ (in_a l.length 1 16), a1_ (r8_ l hs hl)] (by simp only [go_sem, seval, ai_, ad_, af_, ac_, ae_]; rfl) ?_ ?_))
 ·first | trivial | simp
 refine .condB (by simp only [go_sem, seval, ai_, ad_, af_, ac_, ae_]; rfl) (by simp only [go_sem, seval, ai_, ad_, af_, ac_, ae_]) (fun h19 => ?_) (fun h19 => ?_)
 ·refine .seq (.rgn [] (by simp only [go_sem, seval, ai_, ad_, af_, ac_, ae_]; rfl) ?_ ?_)
  ·first | trivial | simp
  refine .can (Can.ownSlot 2 22 3 1 (by simp only [go_sem, seval, ai_, ad_, af_, ac_, ae_] <;> rfl) (by simp only [go_sem, seval, ai_, ad_, af_, ac_, ae_]) (by simp only [go_sem, seval, ai_, ad_, af_, ac_, ae_] <;> rfl)) ?_
  refine .ret ⟨.inr rfl, ?_⟩
  exact Out.mem' (by simp only [Tryz.results13]; rfl) (by simp only [av_, a3_, go_sem, seval, ai_, ad_, af_, ac_, ae_]) (by simp only [a2_, rns, rn, go_sem, seval, ai_, ad_, af_, ac_, ae_] <;> (rw [ih_ (by rw [vz_, h19]; rfl)]; try simp)) (by simp) rfl (by decide) (by simp only [go_sem, seval, ai_, ad_, af_, ac_, ae_]) (by simp only [an_, go_sem, seval, ai_, ad_, af_, ac_, ae_]) (by simp only [ah_, go_sem, seval, ai_, ad_, af_, ac_, ae_] <;> (rw [ih_ (by rw [vz_, h19]; rfl)]; simp [inR]))
 ·refine .skip (.seq (.rgn [] (by simp only [go_sem, seval, ai_, ad_, af_, ac_, ae_]; rfl) ?_ ?_))
  ·first | trivial | simp
  refine .seq (.rgn [] (by simp only [go_sem, seval, ai_, ad_, af_, ac_, ae_]; rfl) ?_ ?_)
  ·first | trivial | simp
  refine .seq (.seq (.rgn [] (by simp only [go_sem, seval, ai_, ad_, af_, ac_, ae_]; rfl) ?_ ?_))
  ·first | trivial | simp
  refine .block (.loopK (fun k : Nat => ⟨[.sl false (bLR l), .no, .no, .no, .ow 20 1 0 (bv_ (l.take k)).names.length, .ow 21 1 0 (bv_ (l.take k)).nums.length, .ow 22 1 0 (bv_ (l.take k)).said.length, .no, .no, .no, .no, .no, .no, .no, .no, .no, .no, .no, .no, .no, .sl false (bLR l), .i .i64 l.length, .i .i64 k, .no, .no, .no, .no, .no, .no, .no, .no, .no, .no, .no, .no, .no, .no, .no, .no, .no, .no, .no, .no, .no, .no, .no, .no, .no, .no, .no, .no, .no, .no, .no, .no, .no, .no, .no, .no, .no, .no, .no, .no, .no, .no, .no, .no, .no, .no, .no, .no, .no, .no, .no, .no, .no, .no, .no, .no, .no, .no, .no], bc_ [(20, ⟨9, 1, bi_ (bv_ (l.take k)).names⟩), (21, ⟨3, 1, inR (bv_ (l.take k)).nums⟩), (22, ⟨3, 1, inR (bv_ (l.take k)).said⟩)], us [20, 21, 22]⟩) (fun k : Nat => k ≤ l.length ∧ (bv_ (l.take k)).ok = true ∧ lok l = true) (fun k : Nat => l.length - k) (0) ?_ ?_ (fun k hI => ?_))
  ·exact ⟨Nat.zero_le _, by simp [bv_], by rw [vz_, h19]; rfl⟩
  ·refine Can.trans (Can.ownSlot 4 20 9 1 (by simp only [go_sem, seval, ai_, ad_, af_, ac_, ae_] <;> rfl) (by simp only [go_sem, seval, ai_, ad_, af_, ac_, ae_]) (by simp only [go_sem, seval, ai_, ad_, af_, ac_, ae_] <;> rfl)) ?_
   refine Can.trans (Can.ownSlot 5 21 3 1 (by simp only [go_sem, seval, ai_, ad_, af_, ac_, ae_] <;> rfl) (by simp only [go_sem, seval, ai_, ad_, af_, ac_, ae_]) (by simp only [go_sem, seval, ai_, ad_, af_, ac_, ae_] <;> rfl)) ?_
   refine Can.trans (Can.ownSlot 6 22 3 1 (by simp only [go_sem, seval, ai_, ad_, af_, ac_, ae_] <;> rfl) (by simp only [go_sem, seval, ai_, ad_, af_, ac_, ae_]) (by simp only [go_sem, seval, ai_, ad_, af_, ac_, ae_] <;> rfl)) ?_
   exact Can.weak (Weak.lit (by simp only [go_sem, seval, ai_, ad_, af_, ac_, ae_, aq_, leV, ao_, ap_, V.inn, us, T9_, Ta_] <;> (simp [bv_])) (by simp only [go_sem, seval, ai_, ad_, af_, ac_, ae_, aq_, leV, ao_, ap_, V.inn, us, T9_, Ta_]) (by simp only [go_sem, seval, ai_, ad_, af_, ac_, ae_, aq_, leV, ao_, ap_, V.inn, us, T9_, Ta_] <;> (simp [bv_, bi_, inR])))
  refine .seq (.rgn [] (by simp only [go_sem, seval, ai_, ad_, af_, ac_, ae_]; rfl) ?_ ?_)
  ·first | trivial | simp
  refine .seq (.condB (by simp only [go_sem, seval, ai_, ad_, af_, ac_, ae_]; rfl) (by simp only [go_sem, seval, ai_, ad_, af_, ac_, ae_]) (fun h23 => ?_) (fun h23 => ?_))
  ·refine .skip (.seq (.block (.seq (.rgn [] (by simp only [go_sem, seval, ai_, ad_, af_, ac_, ae_, kx_ (show k < l.length by simpa using h23), ae_]; rfl) ?_ ?_))))
   ·simp at h23; simp; omega
   refine .seq (.seq (.rgn [] (by simp only [go_sem, seval, ai_, ad_, af_, ac_, ae_]; rfl) ?_ ?_))
   ·first | trivial | simp
   refine .condB (by simp only [go_sem, seval, ai_, ad_, af_, ac_, ae_]; rfl) (by simp only [go_sem, seval, ai_, ad_, af_, ac_, ae_]) (fun h28 => ?_) (fun h28 => ?_)
   ·refine .exit (.rgn [] (by simp only [go_sem, seval, ai_, ad_, af_, ac_, ae_]; rfl) ?_ ?_)
    ·first | trivial | simp
    refine Exists.intro (k + 1) ⟨?_, ?_, ?_⟩
    ·have hk : k < l.length := (by simpa using h23); have e := f6_ hk (by simpa using h28); exact ⟨by omega, by rw [e]; exact hI.2.1, hI.2.2⟩
    ·simp at h23; omega
    exact Can.weak (Weak.lit (by simp only [go_sem, seval, ai_, ad_, af_, ac_, ae_, aq_, leV, ao_, ap_, V.inn, us, T9_, Ta_] <;> ((have hk : k < l.length := (by simpa using h23)); (have e := f6_ hk (by simpa using h28)); rw [e, bd_ (by omega) (by omega)]; simp)) (by simp only [go_sem, seval, ai_, ad_, af_, ac_, ae_, aq_, leV, ao_, ap_, V.inn, us, T9_, Ta_]) (by simp only [go_sem, seval, ai_, ad_, af_, ac_, ae_, aq_, leV, ao_, ap_, V.inn, us, T9_, Ta_] <;> ((have hk : k < l.length := (by simpa using h23)); (have e := f6_ hk (by simpa using h28)); rw [e]; simp)))
   ·refine .skip (.seq (.rgn [ul_ (u5_ 5 (l.getD k B0).expr (bv_ (l.take k)).names (bv_ (l.take k)).nums (F1 k hI.2.2 (by simpa using h23) (by simpa using h28)) (dl_ hI.1 (cr_ hI.2.2).2.1).1 (by have := (dl_ hI.1 (cr_ hI.2.2).2.1).2.1; omega))] (by simp only [go_sem, seval, ai_, ad_, af_, ac_, ae_]; rfl) ?_ ?_))
    ·(first | (simp [T1_, ab_, af_, ba_]; done))
    refine .seq (.rgn [] (by simp only [go_sem, seval, ai_, ad_, af_, ac_, ae_]; rfl) ?_ ?_)
    ·first | trivial | simp
    refine .seqJ (fun q : Int × Bool => ⟨[.sl false (bLR l), .no, .no, .no, .ow 20 1 0 (bv_ (l.take k)).names.length, .ow 21 1 0 (bv_ (l.take k)).nums.length, .ow 22 1 0 (bv_ (l.take k)).said.length, .no, .pt 18 10 0 0, .i .i64 (rk (l.getD k B0).expr (bv_ (l.take k)).names (bv_ (l.take k)).nums).1, .b q.2, .i .i64 q.1, .no, .no, .no, .no, .no, .no, .no, .no, .sl false (bLR l), .i .i64 l.length, .i .i64 k, .no, .no, .no, .no, .no, .no, .no, .no, .no, .no, .no, .no, .no, .no, .no, .no, .no, .no, .no, .no, .no, .no, .no, .no, .no, .no, .no, .no, .no, .no, .no, .no, .no, .no, .no, .no, .no, .no, .no, .no, .no, .no, .no, .no, .no, .no, .no, .no, .no, .no, .no, .no, .no, .no, .no, .no, .no, .no, .no], bc_ [(18, ⟨35, 10, [bC (l.getD k B0)]⟩), (20, ⟨9, 1, bi_ (bv_ (l.take k)).names⟩), (21, ⟨3, 1, inR (bv_ (l.take k)).nums⟩), (22, ⟨3, 1, inR (bv_ (l.take k)).said⟩)], us [20, 21, 22, 18]⟩) (fun q : Int × Bool => q = ((ed_ (l.getD k B0) (bv_ (l.take k)).names (bv_ (l.take k)).nums).2.1, (ed_ (l.getD k B0) (bv_ (l.take k)).names (bv_ (l.take k)).nums).2.2)) ?_ (fun q hJ => ?_)
    ·refine .seq (.rgn [] (by simp only [go_sem, seval, ai_, ad_, af_, ac_, ae_]; rfl) ?_ ?_)
     ·first | trivial | simp
     refine .condB (by simp only [go_sem, seval, ai_, ad_, af_, ac_, ae_]; rfl) (by simp only [go_sem, seval, ai_, ad_, af_, ac_, ae_]) (fun h43 => ?_) (fun h43 => ?_)
     ·refine .rgn [ul_ (u5_ 5 (l.getD k B0).thn (bv_ (l.take k)).names (bv_ (l.take k)).nums (F2 k hI.2.2 (by simpa using h23) (by simp at h43; exact h43.2)) (dl_ hI.1 (cr_ hI.2.2).2.1).1 (by have := (dl_ hI.1 (cr_ hI.2.2).2.1).2.1; omega))] (by simp only [go_sem, seval, ai_, ad_, af_, ac_, ae_]; rfl) ?_ ?_
      ·(first | (simp [T1_, ab_, af_, ba_]; done))
      refine Exists.intro (((rk (l.getD k B0).thn (bv_ (l.take k)).names (bv_ (l.take k)).nums).1, (rk (l.getD k B0).thn (bv_ (l.take k)).names (bv_ (l.take k)).nums).2)) ⟨?_, ?_⟩
      ·unfold ed_; first | (rw [if_pos (by simp at h43 ⊢; exact h43)]; done) | (rw [if_neg (by simp at h43 ⊢; exact h43)]; done)
      exact Can.weak (Weak.lit (by simp only [go_sem, seval, ai_, ad_, af_, ac_, ae_, aq_, leV, ao_, ap_, V.inn, us, T9_, Ta_]) (by simp only [go_sem, seval, ai_, ad_, af_, ac_, ae_, aq_, leV, ao_, ap_, V.inn, us, T9_, Ta_]) (by simp only [go_sem, seval, ai_, ad_, af_, ac_, ae_, aq_, leV, ao_, ap_, V.inn, us, T9_, Ta_]))
     ·refine .skip ?_
      refine Exists.intro (((rk (l.getD k B0).expr (bv_ (l.take k)).names (bv_ (l.take k)).nums).1, (rk (l.getD k B0).expr (bv_ (l.take k)).names (bv_ (l.take k)).nums).2)) ⟨?_, ?_⟩
      ·unfold ed_; first | (rw [if_pos (by simp at h43 ⊢; exact h43)]; done) | (rw [if_neg (by simp at h43 ⊢; exact h43)]; done)
      exact Can.weak (Weak.lit (by simp only [go_sem, seval, ai_, ad_, af_, ac_, ae_, aq_, leV, ao_, ap_, V.inn, us, T9_, Ta_]) (by simp only [go_sem, seval, ai_, ad_, af_, ac_, ae_, aq_, leV, ao_, ap_, V.inn, us, T9_, Ta_]) (by simp only [go_sem, seval, ai_, ad_, af_, ac_, ae_, aq_, leV, ao_, ap_, V.inn, us, T9_, Ta_]))
    refine .seq (.seq (.rgn [] (by simp only [go_sem, seval, ai_, ad_, af_, ac_, ae_]; rfl) ?_ ?_))
    ·first | trivial | simp
    refine .condB (by simp only [go_sem, seval, ai_, ad_, af_, ac_, ae_]; rfl) (by simp only [go_sem, seval, ai_, ad_, af_, ac_, ae_]) (fun h53 => ?_) (fun h53 => ?_)
    ·refine .seq (.rgn [bm_ [22] [] (qe_ (bv_ (l.take k)).said (bv_ (l.take k)).said.length rfl (by have := (dl_ hI.1 (cr_ hI.2.2).2.1).2.2; omega))] (by simp only [go_sem, seval, ai_, ad_, af_, ac_, ae_]; rfl) ?_ ?_)
     ·first | trivial | simp
     refine .ret ⟨.inr rfl, ?_⟩
     exact Out.mem' (by simp only [Tryz.results13]; rfl) (by simp only [av_, a3_, go_sem, seval, ai_, ad_, af_, ac_, ae_]) (by simp only [a2_, rns, rn, go_sem, seval, ai_, ad_, af_, ac_, ae_] <;> (rw [ir_ hI.2.2 (by simpa using h23) hI.2.1 (by simpa using h28) (by rw [hJ] at h53; simpa using h53)]; try simp)) (by simp) rfl (by decide) (by simp only [go_sem, seval, ai_, ad_, af_, ac_, ae_]) (by simp only [an_, go_sem, seval, ai_, ad_, af_, ac_, ae_]) (by simp only [ah_, go_sem, seval, ai_, ad_, af_, ac_, ae_] <;> (rw [ir_ hI.2.2 (by simpa using h23) hI.2.1 (by simpa using h28) (by rw [hJ] at h53; simpa using h53)]; (try simp [ce_, ac_])))
    ·refine .skip (.seq (.rgn [] (by simp only [go_sem, seval, ai_, ad_, af_, ac_, ae_]; rfl) ?_ ?_))
     ·first | trivial | simp
     refine .condB (by simp only [go_sem, seval, ai_, ad_, af_, ac_, ae_]; rfl) (by simp only [go_sem, seval, ai_, ad_, af_, ac_, ae_]) (fun h58 => ?_) (fun h58 => ?_)
     ·refine .rgn [] (by simp only [go_sem, seval, ai_, ad_, af_, ac_, ae_]; rfl) ?_ ?_
      ·have := dl_ hI.1 (cr_ hI.2.2).2.1; simp; omega
      refine .rgn [] (by simp only [go_sem, seval, ai_, ad_, af_, ac_, ae_]; rfl) ?_ ?_
      ·first | trivial | simp
      refine Exists.intro (k + 1) ⟨?_, ?_, ?_⟩
      ·have hk : k < l.length := (by simpa using h23); have e := hb_ hk hI.2.1 (by simpa using h58) (by rw [hJ] at h53; simpa using h53); exact ⟨by omega, by rw [e]; exact hI.2.1, hI.2.2⟩
      ·simp at h23; omega
      refine Can.trans (Can.swap 73 20 (by decide) (by decide) (by decide) (by decide) (by simp only [go_sem, seval, ai_, ad_, af_, ac_, ae_, V.cl]) (by simp only [go_sem, seval, ai_, ad_, af_, ac_, ae_, V.cl]) (by simp only [go_sem, seval, ai_, ad_, af_, ac_, ae_, bf_, sw, swM, rnB] <;> rfl) (by simp only [go_sem, seval, ai_, ad_, af_, ac_, ae_, bf_, sw, swM, rnB] <;> rfl) (by simp only [go_sem, seval, ai_, ad_, af_, ac_, ae_, bf_, sw, swM, rnB] <;> rfl)) ?_
      refine Can.trans (Can.swap 77 21 (by decide) (by decide) (by decide) (by decide) (by simp only [go_sem, seval, ai_, ad_, af_, ac_, ae_, V.cl]) (by simp only [go_sem, seval, ai_, ad_, af_, ac_, ae_, V.cl]) (by simp only [go_sem, seval, ai_, ad_, af_, ac_, ae_, bf_, sw, swM, rnB] <;> rfl) (by simp only [go_sem, seval, ai_, ad_, af_, ac_, ae_, bf_, sw, swM, rnB] <;> rfl) (by simp only [go_sem, seval, ai_, ad_, af_, ac_, ae_, bf_, sw, swM, rnB] <;> rfl)) ?_
      exact Can.weak (Weak.lit (by simp only [go_sem, seval, ai_, ad_, af_, ac_, ae_, aq_, leV, ao_, ap_, V.inn, us, T9_, Ta_] <;> ((have hk : k < l.length := (by simpa using h23)); (have e := hb_ hk hI.2.1 (by simpa using h58) (by rw [hJ] at h53; simpa using h53)); rw [e, bd_ (by omega) (by omega)]; simp)) (by simp only [go_sem, seval, ai_, ad_, af_, ac_, ae_, aq_, leV, ao_, ap_, V.inn, us, T9_, Ta_]) (by simp only [go_sem, seval, ai_, ad_, af_, ac_, ae_, aq_, leV, ao_, ap_, V.inn, us, T9_, Ta_] <;> ((have hk : k < l.length := (by simpa using h23)); (have e := hb_ hk hI.2.1 (by simpa using h58) (by rw [hJ] at h53; simpa using h53)); rw [e]; simp [n0_, g7_])))
     ·refine .seq (.rgn [] (by simp only [go_sem, seval, ai_, ad_, af_, ac_, ae_]; rfl) ?_ ?_)
      ·first | trivial | simp
      refine .condB (by simp only [go_sem, seval, ai_, ad_, af_, ac_, ae_]; rfl) (by simp only [go_sem, seval, ai_, ad_, af_, ac_, ae_]) (fun h74 => ?_) (fun h74 => ?_)
      ·refine .rgn [] (by simp only [go_sem, seval, ai_, ad_, af_, ac_, ae_]; rfl) ?_ ?_
       ·have := dl_ hI.1 (cr_ hI.2.2).2.1; simp; omega
       refine .rgn [] (by simp only [go_sem, seval, ai_, ad_, af_, ac_, ae_]; rfl) ?_ ?_
       ·first | trivial | simp
       refine Exists.intro (k + 1) ⟨?_, ?_, ?_⟩
       ·have hk : k < l.length := (by simpa using h23); have e := eu_ hk hI.2.1 (by simpa using h28) (by simpa using h58) (by rw [hJ] at h53; simpa using h53) (by simp at h74; exact h74); exact ⟨by omega, by rw [e]; exact hI.2.1, hI.2.2⟩
       ·simp at h23; omega
       refine Can.trans (Can.swap 88 22 (by decide) (by decide) (by decide) (by decide) (by simp only [go_sem, seval, ai_, ad_, af_, ac_, ae_, V.cl]) (by simp only [go_sem, seval, ai_, ad_, af_, ac_, ae_, V.cl]) (by simp only [go_sem, seval, ai_, ad_, af_, ac_, ae_, bf_, sw, swM, rnB] <;> rfl) (by simp only [go_sem, seval, ai_, ad_, af_, ac_, ae_, bf_, sw, swM, rnB] <;> rfl) (by simp only [go_sem, seval, ai_, ad_, af_, ac_, ae_, bf_, sw, swM, rnB] <;> rfl)) ?_
       exact Can.weak (Weak.lit (by simp only [go_sem, seval, ai_, ad_, af_, ac_, ae_, aq_, leV, ao_, ap_, V.inn, us, T9_, Ta_] <;> ((have hk : k < l.length := (by simpa using h23)); (have e := eu_ hk hI.2.1 (by simpa using h28) (by simpa using h58) (by rw [hJ] at h53; simpa using h53) (by simp at h74; exact h74)); rw [e, bd_ (by omega) (by omega)]; simp)) (by simp only [go_sem, seval, ai_, ad_, af_, ac_, ae_, aq_, leV, ao_, ap_, V.inn, us, T9_, Ta_]) (by simp only [go_sem, seval, ai_, ad_, af_, ac_, ae_, aq_, leV, ao_, ap_, V.inn, us, T9_, Ta_] <;> ((have hk : k < l.length := (by simpa using h23)); (have e := eu_ hk hI.2.1 (by simpa using h28) (by simpa using h58) (by rw [hJ] at h53; simpa using h53) (by simp at h74; exact h74)); rw [e]; simp [g7_, hJ])))
      ·refine .skip (.rgn [] (by simp only [go_sem, seval, ai_, ad_, af_, ac_, ae_]; rfl) ?_ ?_)
       ·first | trivial | simp
       refine Exists.intro (k + 1) ⟨?_, ?_, ?_⟩
       ·have hk : k < l.length := (by simpa using h23); have e := f4_ hk hI.2.1 (by simpa using h28) (by simpa using h58) (by rw [hJ] at h53; simpa using h53) (by simp at h74; exact h74.1) (by simp at h74; exact h74.2); exact ⟨by omega, by rw [e]; exact hI.2.1, hI.2.2⟩
       ·simp at h23; omega
       exact Can.weak (Weak.lit (by simp only [go_sem, seval, ai_, ad_, af_, ac_, ae_, aq_, leV, ao_, ap_, V.inn, us, T9_, Ta_] <;> ((have hk : k < l.length := (by simpa using h23)); (have e := f4_ hk hI.2.1 (by simpa using h28) (by simpa using h58) (by rw [hJ] at h53; simpa using h53) (by simp at h74; exact h74.1) (by simp at h74; exact h74.2)); rw [e, bd_ (by omega) (by omega)]; simp)) (by simp only [go_sem, seval, ai_, ad_, af_, ac_, ae_, aq_, leV, ao_, ap_, V.inn, us, T9_, Ta_]) (by simp only [go_sem, seval, ai_, ad_, af_, ac_, ae_, aq_, leV, ao_, ap_, V.inn, us, T9_, Ta_] <;> ((have hk : k < l.length := (by simpa using h23)); (have e := f4_ hk hI.2.1 (by simpa using h28) (by simpa using h58) (by rw [hJ] at h53; simpa using h53) (by simp at h74; exact h74.1) (by simp at h74; exact h74.2)); rw [e]; simp)))
  ·refine .exit (.seq (.rgn [bm_ [22] [] (qe_ (bv_ (l.take k)).said (bv_ (l.take k)).said.length rfl (by have := (dl_ hI.1 (cr_ hI.2.2).2.1).2.2; omega))] (by simp only [go_sem, seval, ai_, ad_, af_, ac_, ae_]; rfl) ?_ ?_))
   ·first | trivial | simp
   refine .ret ⟨.inr rfl, ?_⟩
   exact Out.mem' (by simp only [Tryz.results13]; rfl) (by simp only [av_, a3_, go_sem, seval, ai_, ad_, af_, ac_, ae_]) (by simp only [a2_, rns, rn, go_sem, seval, ai_, ad_, af_, ac_, ae_] <;> (rw [ku_ hI.2.2 (by simpa using h23) hI.2.1]; try simp)) (by simp) rfl (by decide) (by simp only [go_sem, seval, ai_, ad_, af_, ac_, ae_]) (by simp only [an_, go_sem, seval, ai_, ad_, af_, ac_, ae_]) (by simp only [ah_, go_sem, seval, ai_, ad_, af_, ac_, ae_] <;> (rw [ku_ hI.2.2 (by simpa using h23) hI.2.1]; (try simp [ce_, ac_])))
end
section
set_option maxRecDepth 100000
set_option maxHeartbeats 4000000
theorem gj_ (l : List Bl) (hs : h0_ l = true) (hl : l.length < 4611686018427387904) : ACall En 13 [.sl false (bLR l)] [] [.sl false (inR (ca_ l).1), .b (ca_ l).2] [] :=
 ACall.frz1 (l7_ l hs hl) (by simp [e5_, frz, af_, T1_])
def lp_ (b : Bl) : Sl := ⟨b.kind, b.name, [], b.expr, b.thn⟩
theorem bn_ (b : Bl) : (lp_ b).kind = b.kind ∧ (lp_ b).name = b.name ∧ (lp_ b).type = [] ∧ (lp_ b).expr = b.expr ∧ (lp_ b).thn = b.thn := ⟨rfl, rfl, rfl, rfl, rfl⟩
theorem inE (l : List Int) : (inR l).length = l.length ∧ cd_ (inR l) = true := ⟨af_ l, ac_ l⟩
theorem ii_ {l : List Bl} {k : Nat} (h : k < l.length) : (sR (l.map lp_)).getD k [] = sC (lp_ (l.getD k B0)) := by
 simp [sR, T8_, T6_ h]
theorem a8_ (l : List Bl) : (sR (l.map lp_)).length = l.length := by simp [sR]
theorem ahd_ (l : List Bl) (hs : h0_ l = true) (hl : l.length < 4611686018427387904) : ACall En 61 [.sl false (bLR l)] [] [.b (lok l)] [] := by
 refine al_ (fn := Tryz.f61) [] Tryz.func61 rfl rfl (by simp) fun C => ?_
 rw [aw_]
 simp only [Tryz.ntmps61, T7_, List.length_nil, Nat.reduceAdd, Nat.reduceSub, List.replicate_succ, List.replicate_zero, List.cons_append, List.nil_append, bo_]
 refine .seq (.rgn [] (by simp only [go_sem, seval, ai_, ad_, ae_]; rfl) ?_ ?_)
 ·first | trivial | simp
 refine .seq (.seq (.rgn [] (by simp only [go_sem, seval, ai_, ad_, ae_]; rfl) ?_ ?_))
 ·first | trivial | simp
 refine .block (.loopK (fun k : Nat => ⟨[.sl false (bLR l), .no, .no, .i .i64 k, .no, .no, .no, .no, .no, .no, .no, .no, .no, .no, .no, .no, .no, .no, .no, .no, .no, .no, .no, .no], bc_ [], us []⟩) (fun k : Nat => k ≤ l.length ∧ (l.take k).any (fun s => !bok s) = false) (fun k : Nat => l.length - k) (0) ?_ ?_ (fun k hI => ?_))
 ·simp
 ·exact Can.weak (Weak.lit (by simp only [go_sem, seval, ai_, ad_, ae_, aq_, leV, ao_, ap_, V.inn, us, T9_, Ta_] <;> (simp)) (by simp only [go_sem, seval, ai_, ad_, ae_, aq_, leV, ao_, ap_, V.inn, us, T9_, Ta_]) (by simp only [go_sem, seval, ai_, ad_, ae_, aq_, leV, ao_, ap_, V.inn, us, T9_, Ta_]))
 refine .seq (.seq (.rgn [] (by simp only [go_sem, seval, ai_, ad_, ae_]; rfl) ?_ ?_))
 ·first | trivial | simp
 refine .condB (by simp only [go_sem, seval, ai_, ad_, ae_]; rfl) (by simp only [go_sem, seval, ai_, ad_, ae_]) (fun h7 => ?_) (fun h7 => ?_)
 ·refine .skip (.seq (.block (.seq (.rgn [ck_ (k < l.length) (fun h => f5_ (l.getD k B0) (ry_ hs h))] (by simp only [go_sem, seval, ai_, ad_, ae_, kx_ (show k < l.length by simpa using h7)]; rfl) ?_ ?_))))
  ·simp only [T3_] at h7; simp; omega
  refine .condB (by simp only [go_sem, seval, ai_, ad_, ae_]; rfl) (by simp only [go_sem, seval, ai_, ad_, ae_]) (fun h15 => ?_) (fun h15 => ?_)
  ·refine .seq (.rgn [] (by simp only [go_sem, seval, ai_, ad_, ae_]; rfl) ?_ ?_)
   ·first | trivial | simp
   refine .ret ⟨.inr rfl, ?_⟩
   exact Out.plain (by simp only [Tryz.results61]; rfl) (by simp only [av_, a3_, go_sem, seval, ai_, ad_, ae_] <;> (split <;> rfl)) (by simp only [a2_, go_sem, seval, ai_, ad_, ae_] <;> (simp only [T3_] at h7; have : l.all bok = false := (by rw [List.all_eq_false]; exact ⟨_, bp_ (d := B0) (show k < l.length by omega), by simpa using h15⟩); simp [lok, this])) (by simp only [go_sem, seval, ai_, ad_, ae_])
  ·refine .skip (.rgn [] (by simp only [go_sem, seval, ai_, ad_, ae_]; rfl) ?_ ?_)
   ·first | trivial | simp
   refine Exists.intro (k + 1) ⟨?_, ?_, ?_⟩
   ·simp at h7; refine ⟨by omega, ?_⟩; rw [ox_ (d := B0) h7, hI.2, h15]; rfl
   ·simp at h7; omega
   exact Can.weak (Weak.lit (by simp only [go_sem, seval, ai_, ad_, ae_, aq_, leV, ao_, ap_, V.inn, us, T9_, Ta_] <;> (rw [bd_ (by omega) (by omega)]; simp)) (by simp only [go_sem, seval, ai_, ad_, ae_, aq_, leV, ao_, ap_, V.inn, us, T9_, Ta_]) (by simp only [go_sem, seval, ai_, ad_, ae_, aq_, leV, ao_, ap_, V.inn, us, T9_, Ta_]))
 ·refine .exit (.seq (.rgn [] (by simp only [go_sem, seval, ai_, ad_, ae_]; rfl) ?_ ?_))
  ·first | trivial | simp
  refine .ret ⟨.inr rfl, ?_⟩
  exact Out.plain (by simp only [Tryz.results61]; rfl) (by simp only [av_, a3_, go_sem, seval, ai_, ad_, ae_] <;> (split <;> rfl)) (by simp only [a2_, go_sem, seval, ai_, ad_, ae_] <;> (simp only [T4_] at h7; have h0 := hI.2; rw [T1_ (by omega), anyB] at h0; simp only [Bool.not_eq_false'] at h0; simp only [lok, h0, Bool.and_true, hm_, ge_iff_le]; rfl)) (by simp only [go_sem, seval, ai_, ad_, ae_])
def s6_ (b : Bl) (N : List Str) (M : List Int) : Int := if (rk b.expr N M).2 = true ∧ b.kind = 3 then (rk b.thn N M).1 else 0
theorem aa2_ (b : Bl) (N : List Str) (M : List Int) (h : form b.expr ((5 : Nat) : Int) = true) (h2 : b.kind = 3 → form b.thn ((5 : Nat) : Int) = true) (hl : N.length = M.length) (hn : N.length ≤ 1000000) :
  ACall En 111 [.ag (sC (lp_ b)), .sl false (bi_ N), .sl false (inR M)] [] [.i .i64 (rk b.expr N M).1, .i .i64 (s6_ b N M), .b (ed_ b N M).2.2] [] := by
 refine al_ (fn := Tryz.f111) [] Tryz.func111 rfl rfl (by simp) fun C => ?_
 rw [aw_]
 simp only [Tryz.ntmps111, T7_, List.length_nil, Nat.reduceAdd, Nat.reduceSub, List.replicate_succ, List.replicate_zero, List.cons_append, List.nil_append, bo_]
 refine .seq (.rgn [] (by simp only [go_sem, seval, inE, am_, bn_]; rfl) ?_ ?_)
 ·first | trivial | simp
 refine .seq (.rgn [a1_ (agz_ 5 b.expr N M h hl hn)] (by simp only [go_sem, seval, inE, am_, bn_]; rfl) ?_ ?_)
 ·first | trivial | simp
 refine .seq (.seq (.rgn [] (by simp only [go_sem, seval, inE, am_, bn_]; rfl) ?_ ?_))
 ·first | trivial | simp
 refine .condB (by simp only [go_sem, seval, inE, am_, bn_]; rfl) (by simp only [go_sem, seval, inE, am_, bn_]) (fun h27 => ?_) (fun h27 => ?_)
 ·refine .seq (.rgn [] (by simp only [go_sem, seval, inE, am_, bn_]; rfl) ?_ ?_)
  ·first | trivial | simp
  refine .ret ⟨.inr rfl, ?_⟩
  exact Out.plain (by simp only [Tryz.results111]; rfl) (by simp only [av_, a3_, go_sem, seval, inE, am_, bn_] <;> (split <;> rfl)) (by simp only [a2_, go_sem, seval, inE, am_, bn_] <;> (unfold ed_ s6_; simp at h27; (by_cases hk : b.kind = 3 <;> simp_all))) (by simp only [go_sem, seval, inE, am_, bn_])
 ·refine .skip (.seq (.rgn [a1_ (agz_ 5 b.thn N M (h2 (by simp at h27; exact h27.1)) hl hn)] (by simp only [go_sem, seval, inE, am_, bn_]; rfl) ?_ ?_))
  ·first | trivial | simp
  refine .seq (.rgn [] (by simp only [go_sem, seval, inE, am_, bn_]; rfl) ?_ ?_)
  ·first | trivial | simp
  refine .ret ⟨.inr rfl, ?_⟩
  exact Out.plain (by simp only [Tryz.results111]; rfl) (by simp only [av_, a3_, go_sem, seval, inE, am_, bn_] <;> (split <;> rfl)) (by simp only [a2_, go_sem, seval, inE, am_, bn_] <;> (unfold ed_ s6_; simp at h27; simp [h27])) (by simp only [go_sem, seval, inE, am_, bn_])
theorem wm_ {b : Bl} {N : List Str} {M : List Int} (k : b.kind = 3) (h : (ed_ b N M).2.2 = true) : (ed_ b N M).2.1 = s6_ b N M := by
 unfold ed_ s6_ at *
 by_cases hk : (rk b.expr N M).2 = true ∧ b.kind = 3
 ·rw [if_pos hk, if_pos hk]
 ·rw [if_neg hk] at h
  exact absurd ⟨h, k⟩ hk
theorem ac6_ {b : Bl} {N : List Str} {M : List Int} (k : b.kind = 2) : (ed_ b N M).2.1 = (rk b.expr N M).1 := by
 unfold ed_; rw [if_neg (by omega)]
theorem acf_ (l : List Bl) (hs : lok l = true) : ACall En 62 [.sl false (sR (l.map lp_))] [] [.ow 0 1 0 (ca_ l).1.length, .b (ca_ l).2] [⟨3, 1, inR (ca_ l).1⟩] := by
 have hb := (cr_ hs).2.1
 have F1 : ∀ k, k < l.length → ¬ (l.getD k B0).kind = 0 → form (l.getD k B0).expr ((5 : Nat) : Int) = true := fun k hk hk0 => b5_ (s8_ ((cr_ hs).2.2 k hk) hk0)
 have F2 : ∀ k, k < l.length → (l.getD k B0).kind = 3 → form (l.getD k B0).thn ((5 : Nat) : Int) = true := fun k hk hk0 => b5_ (yd_ ((cr_ hs).2.2 k hk) hk0)
 have F3 : ∀ k, k < l.length → ¬ (l.getD k B0).kind = 0 → ¬ (l.getD k B0).kind = 1 → ¬ (l.getD k B0).kind = 2 → (l.getD k B0).kind = 3 := fun k hk a b c => by have := aak_ ((cr_ hs).2.2 k hk); omega
 refine al_ (fn := Tryz.f62) [22] Tryz.func62 rfl rfl (by simp) fun C => ?_
 rw [aw_]
 simp only [Tryz.ntmps62, T7_, List.length_nil, Nat.reduceAdd, Nat.reduceSub, List.replicate_succ, List.replicate_zero, List.cons_append, List.nil_append, bo_]
 refine .seq (.rgn [] (by simp only [go_sem, seval, a8_, ak_, inE, am_, bn_]; rfl) ?_ ?_)
 ·first | trivial | simp
 refine .seq (.rgn [] (by simp only [go_sem, seval, a8_, ak_, inE, am_, bn_]; rfl) ?_ ?_)
 ·first | trivial | simp
 refine .seq (.rgn [] (by simp only [go_sem, seval, a8_, ak_, inE, am_, bn_]; rfl) ?_ ?_)
 ·first | trivial | simp
 refine .seq (.rgn [] (by simp only [go_sem, seval, a8_, ak_, inE, am_, bn_]; rfl) ?_ ?_)
 ·first | trivial | simp
 refine .seq (.seq (.rgn [] (by simp only [go_sem, seval, a8_, ak_, inE, am_, bn_]; rfl) ?_ ?_))
 ·first | trivial | simp
 refine .block (.loopK (fun k : Nat => ⟨[.sl false (sR (l.map lp_)), .no, .no, .no, .ow 22 1 0 (bv_ (l.take k)).said.length, .ow 20 1 0 (bv_ (l.take k)).names.length, .ow 21 1 0 (bv_ (l.take k)).nums.length, .i .i64 k, .no, .no, .no, .no, .no, .no, .no, .no, .no, .no, .no, .no, .no, .no, .no, .no, .no, .no, .no, .no, .no, .no, .no, .no, .no, .no, .no, .no, .no, .no, .no, .no, .no, .no, .no, .no, .no, .no, .no, .no, .no, .no, .no, .no, .no, .no, .no, .no, .no, .no, .no, .no, .no, .no, .no, .no, .no, .no, .no, .no, .no, .no, .no, .no, .no, .no, .no, .no, .no, .no, .no], bc_ [(20, ⟨9, 1, bi_ (bv_ (l.take k)).names⟩), (21, ⟨3, 1, inR (bv_ (l.take k)).nums⟩), (22, ⟨3, 1, inR (bv_ (l.take k)).said⟩)], us [20, 21, 22]⟩) (fun k : Nat => k ≤ l.length ∧ (bv_ (l.take k)).ok = true) (fun k : Nat => l.length - k) (0) ?_ ?_ (fun k hI => ?_))
 ·exact ⟨Nat.zero_le _, by simp [bv_]⟩
 ·refine Can.trans (Can.ownSlot 5 20 9 1 (by simp only [go_sem, seval, a8_, ak_, inE, am_, bn_] <;> rfl) (by simp only [go_sem, seval, a8_, ak_, inE, am_, bn_]) (by simp only [go_sem, seval, a8_, ak_, inE, am_, bn_] <;> rfl)) ?_
  refine Can.trans (Can.ownSlot 6 21 3 1 (by simp only [go_sem, seval, a8_, ak_, inE, am_, bn_] <;> rfl) (by simp only [go_sem, seval, a8_, ak_, inE, am_, bn_]) (by simp only [go_sem, seval, a8_, ak_, inE, am_, bn_] <;> rfl)) ?_
  refine Can.trans (Can.ownSlot 4 22 3 1 (by simp only [go_sem, seval, a8_, ak_, inE, am_, bn_] <;> rfl) (by simp only [go_sem, seval, a8_, ak_, inE, am_, bn_]) (by simp only [go_sem, seval, a8_, ak_, inE, am_, bn_] <;> rfl)) ?_
  exact Can.weak (Weak.lit (by simp only [go_sem, seval, a8_, ak_, inE, am_, bn_, aq_, leV, ao_, ap_, V.inn, us, T9_, Ta_] <;> (simp [bv_])) (by simp only [go_sem, seval, a8_, ak_, inE, am_, bn_, aq_, leV, ao_, ap_, V.inn, us, T9_, Ta_]) (by simp only [go_sem, seval, a8_, ak_, inE, am_, bn_, aq_, leV, ao_, ap_, V.inn, us, T9_, Ta_] <;> (simp [bv_, bi_, inR])))
 refine .seq (.seq (.rgn [] (by simp only [go_sem, seval, a8_, ak_, inE, am_, bn_]; rfl) ?_ ?_))
 ·first | trivial | simp
 refine .condB (by simp only [go_sem, seval, a8_, ak_, inE, am_, bn_]; rfl) (by simp only [go_sem, seval, a8_, ak_, inE, am_, bn_]) (fun h17 => ?_) (fun h17 => ?_)
 ·refine .skip (.seq (.block (.seq (.seq (.rgn [] (by simp only [go_sem, seval, a8_, ak_, inE, am_, bn_, ii_ (show k < l.length by simpa using h17)]; rfl) ?_ ?_)))))
  ·simp at h17; simp; omega
  refine .condB (by simp only [go_sem, seval, a8_, ak_, inE, am_, bn_]; rfl) (by simp only [go_sem, seval, a8_, ak_, inE, am_, bn_]) (fun h25 => ?_) (fun h25 => ?_)
  ·refine .exit (.rgn [] (by simp only [go_sem, seval, a8_, ak_, inE, am_, bn_]; rfl) ?_ ?_)
   ·first | trivial | simp
   refine Exists.intro (k + 1) ⟨?_, ?_, ?_⟩
   ·have hk : k < l.length := (by simpa using h17); have e := f6_ hk (by simpa using h25); exact ⟨by omega, by rw [e]; exact hI.2⟩
   ·simp at h17; omega
   exact Can.weak (Weak.lit (by simp only [go_sem, seval, a8_, ak_, inE, am_, bn_, aq_, leV, ao_, ap_, V.inn, us, T9_, Ta_] <;> ((have hk : k < l.length := (by simpa using h17)); (have e := f6_ hk (by simpa using h25)); rw [e, bd_ (by omega) (by omega)]; simp)) (by simp only [go_sem, seval, a8_, ak_, inE, am_, bn_, aq_, leV, ao_, ap_, V.inn, us, T9_, Ta_]) (by simp only [go_sem, seval, a8_, ak_, inE, am_, bn_, aq_, leV, ao_, ap_, V.inn, us, T9_, Ta_] <;> ((have hk : k < l.length := (by simpa using h17)); (have e := f6_ hk (by simpa using h25)); rw [e]; simp)))
  ·refine .skip (.seq (.rgn [ul_ (aa2_ (l.getD k B0) (bv_ (l.take k)).names (bv_ (l.take k)).nums (F1 k (by simpa using h17) (by simpa using h25)) (F2 k (by simpa using h17)) (dl_ hI.1 hb).1 (by have := (dl_ hI.1 hb).2.1; omega))] (by simp only [go_sem, seval, a8_, ak_, inE, am_, bn_, ii_ (show k < l.length by simpa using h17)]; rfl) ?_ ?_))
   ·simp at h17; simp [T1_, ab_, af_, ba_]; omega
   refine .block (.seq (.rgn [] (by simp only [go_sem, seval, a8_, ak_, inE, am_, bn_]; rfl) ?_ ?_))
   ·first | trivial | simp
   refine .condB (by simp only [go_sem, seval, a8_, ak_, inE, am_, bn_]; rfl) (by simp only [go_sem, seval, a8_, ak_, inE, am_, bn_]) (fun h37 => ?_) (fun h37 => ?_)
   ·refine .seq (.rgn [] (by simp only [go_sem, seval, a8_, ak_, inE, am_, bn_]; rfl) ?_ ?_)
    ·first | trivial | simp
    refine .ret ⟨.inr rfl, ?_⟩
    exact Out.mem' (by simp only [Tryz.results62]; rfl) (by simp only [av_, a3_, go_sem, seval, a8_, ak_, inE, am_, bn_]) (by simp only [a2_, rns, rn, go_sem, seval, a8_, ak_, inE, am_, bn_] <;> (rw [ir_ hs (by simpa using h17) hI.2 (by simpa using h25) (by simpa using h37)]; try simp)) (by simp) rfl (by decide) (by simp only [go_sem, seval, a8_, ak_, inE, am_, bn_]) (by simp only [an_, go_sem, seval, a8_, ak_, inE, am_, bn_]) (by simp only [ah_, go_sem, seval, a8_, ak_, inE, am_, bn_] <;> (rw [ir_ hs (by simpa using h17) hI.2 (by simpa using h25) (by simpa using h37)]; (try simp [ce_, ac_])))
   ·refine .seq (.rgn [] (by simp only [go_sem, seval, a8_, ak_, inE, am_, bn_, ii_ (show k < l.length by simpa using h17)]; rfl) ?_ ?_)
    ·simp at h17; simp; omega
    refine .condB (by simp only [go_sem, seval, a8_, ak_, inE, am_, bn_]; rfl) (by simp only [go_sem, seval, a8_, ak_, inE, am_, bn_]) (fun h41 => ?_) (fun h41 => ?_)
    ·refine .seq (.rgn [] (by simp only [go_sem, seval, a8_, ak_, inE, am_, bn_, ii_ (show k < l.length by simpa using h17)]; rfl) ?_ ?_)
     ·have := dl_ hI.1 hb; simp at h17; simp; omega
     refine .rgn [] (by simp only [go_sem, seval, a8_, ak_, inE, am_, bn_]; rfl) ?_ ?_
     ·have := dl_ hI.1 hb; simp; omega
     refine .rgn [] (by simp only [go_sem, seval, a8_, ak_, inE, am_, bn_]; rfl) ?_ ?_
     ·first | trivial | simp
     refine Exists.intro (k + 1) ⟨?_, ?_, ?_⟩
     ·have hk : k < l.length := (by simpa using h17); have e := hb_ hk hI.2 (by simpa using h41) (by simpa using h37); exact ⟨by omega, by rw [e]; exact hI.2⟩
     ·simp at h17; omega
     refine Can.trans (Can.swap 65 20 (by decide) (by decide) (by decide) (by decide) (by simp only [go_sem, seval, a8_, ak_, inE, am_, bn_, V.cl]) (by simp only [go_sem, seval, a8_, ak_, inE, am_, bn_, V.cl]) (by simp only [go_sem, seval, a8_, ak_, inE, am_, bn_, bf_, sw, swM, rnB] <;> rfl) (by simp only [go_sem, seval, a8_, ak_, inE, am_, bn_, bf_, sw, swM, rnB] <;> rfl) (by simp only [go_sem, seval, a8_, ak_, inE, am_, bn_, bf_, sw, swM, rnB] <;> rfl)) ?_
     refine Can.trans (Can.swap 69 21 (by decide) (by decide) (by decide) (by decide) (by simp only [go_sem, seval, a8_, ak_, inE, am_, bn_, V.cl]) (by simp only [go_sem, seval, a8_, ak_, inE, am_, bn_, V.cl]) (by simp only [go_sem, seval, a8_, ak_, inE, am_, bn_, bf_, sw, swM, rnB] <;> rfl) (by simp only [go_sem, seval, a8_, ak_, inE, am_, bn_, bf_, sw, swM, rnB] <;> rfl) (by simp only [go_sem, seval, a8_, ak_, inE, am_, bn_, bf_, sw, swM, rnB] <;> rfl)) ?_
     exact Can.weak (Weak.lit (by simp only [go_sem, seval, a8_, ak_, inE, am_, bn_, aq_, leV, ao_, ap_, V.inn, us, T9_, Ta_] <;> ((have hk : k < l.length := (by simpa using h17)); (have e := hb_ hk hI.2 (by simpa using h41) (by simpa using h37)); rw [e, bd_ (by omega) (by omega)]; simp)) (by simp only [go_sem, seval, a8_, ak_, inE, am_, bn_, aq_, leV, ao_, ap_, V.inn, us, T9_, Ta_]) (by simp only [go_sem, seval, a8_, ak_, inE, am_, bn_, aq_, leV, ao_, ap_, V.inn, us, T9_, Ta_] <;> ((have hk : k < l.length := (by simpa using h17)); (have e := hb_ hk hI.2 (by simpa using h41) (by simpa using h37)); rw [e]; simp [n0_, g7_])))
    ·refine .seq (.rgn [] (by simp only [go_sem, seval, a8_, ak_, inE, am_, bn_, ii_ (show k < l.length by simpa using h17)]; rfl) ?_ ?_)
     ·simp at h17; simp; omega
     refine .condB (by simp only [go_sem, seval, a8_, ak_, inE, am_, bn_]; rfl) (by simp only [go_sem, seval, a8_, ak_, inE, am_, bn_]) (fun h60 => ?_) (fun h60 => ?_)
     ·refine .rgn [] (by simp only [go_sem, seval, a8_, ak_, inE, am_, bn_]; rfl) ?_ ?_
      ·have := dl_ hI.1 hb; simp; omega
      refine .rgn [] (by simp only [go_sem, seval, a8_, ak_, inE, am_, bn_]; rfl) ?_ ?_
      ·first | trivial | simp
      refine Exists.intro (k + 1) ⟨?_, ?_, ?_⟩
      ·have hk : k < l.length := (by simpa using h17); have e := eu_ hk hI.2 (by simpa using h25) (by simpa using h41) (by simpa using h37) (.inl (by simpa using h60)); exact ⟨by omega, by rw [e]; exact hI.2⟩
      ·simp at h17; omega
      refine Can.trans (Can.swap 80 22 (by decide) (by decide) (by decide) (by decide) (by simp only [go_sem, seval, a8_, ak_, inE, am_, bn_, V.cl]) (by simp only [go_sem, seval, a8_, ak_, inE, am_, bn_, V.cl]) (by simp only [go_sem, seval, a8_, ak_, inE, am_, bn_, bf_, sw, swM, rnB] <;> rfl) (by simp only [go_sem, seval, a8_, ak_, inE, am_, bn_, bf_, sw, swM, rnB] <;> rfl) (by simp only [go_sem, seval, a8_, ak_, inE, am_, bn_, bf_, sw, swM, rnB] <;> rfl)) ?_
      exact Can.weak (Weak.lit (by simp only [go_sem, seval, a8_, ak_, inE, am_, bn_, aq_, leV, ao_, ap_, V.inn, us, T9_, Ta_] <;> ((have hk : k < l.length := (by simpa using h17)); (have e := eu_ hk hI.2 (by simpa using h25) (by simpa using h41) (by simpa using h37) (.inl (by simpa using h60))); rw [e, bd_ (by omega) (by omega)]; simp)) (by simp only [go_sem, seval, a8_, ak_, inE, am_, bn_, aq_, leV, ao_, ap_, V.inn, us, T9_, Ta_]) (by simp only [go_sem, seval, a8_, ak_, inE, am_, bn_, aq_, leV, ao_, ap_, V.inn, us, T9_, Ta_] <;> ((have hk : k < l.length := (by simpa using h17)); (have e := eu_ hk hI.2 (by simpa using h25) (by simpa using h41) (by simpa using h37) (.inl (by simpa using h60))); rw [e, ac6_ (by simpa using h60)]; simp [g7_])))
     ·refine .seq (.rgn [] (by simp only [go_sem, seval, a8_, ak_, inE, am_, bn_]; rfl) ?_ ?_)
      ·first | trivial | simp
      refine .condB (by simp only [go_sem, seval, a8_, ak_, inE, am_, bn_]; rfl) (by simp only [go_sem, seval, a8_, ak_, inE, am_, bn_]) (fun h71 => ?_) (fun h71 => ?_)
      ·refine .rgn [] (by simp only [go_sem, seval, a8_, ak_, inE, am_, bn_]; rfl) ?_ ?_
       ·have := dl_ hI.1 hb; simp; omega
       refine .rgn [] (by simp only [go_sem, seval, a8_, ak_, inE, am_, bn_]; rfl) ?_ ?_
       ·first | trivial | simp
       refine Exists.intro (k + 1) ⟨?_, ?_, ?_⟩
       ·have hk : k < l.length := (by simpa using h17); have e := eu_ hk hI.2 (by simpa using h25) (by simpa using h41) (by simpa using h37) (.inr (by simpa using h71)); exact ⟨by omega, by rw [e]; exact hI.2⟩
       ·simp at h17; omega
       refine Can.trans (Can.swap 87 22 (by decide) (by decide) (by decide) (by decide) (by simp only [go_sem, seval, a8_, ak_, inE, am_, bn_, V.cl]) (by simp only [go_sem, seval, a8_, ak_, inE, am_, bn_, V.cl]) (by simp only [go_sem, seval, a8_, ak_, inE, am_, bn_, bf_, sw, swM, rnB] <;> rfl) (by simp only [go_sem, seval, a8_, ak_, inE, am_, bn_, bf_, sw, swM, rnB] <;> rfl) (by simp only [go_sem, seval, a8_, ak_, inE, am_, bn_, bf_, sw, swM, rnB] <;> rfl)) ?_
       exact Can.weak (Weak.lit (by simp only [go_sem, seval, a8_, ak_, inE, am_, bn_, aq_, leV, ao_, ap_, V.inn, us, T9_, Ta_] <;> ((have hk : k < l.length := (by simpa using h17)); (have e := eu_ hk hI.2 (by simpa using h25) (by simpa using h41) (by simpa using h37) (.inr (by simpa using h71))); rw [e, bd_ (by omega) (by omega)]; simp)) (by simp only [go_sem, seval, a8_, ak_, inE, am_, bn_, aq_, leV, ao_, ap_, V.inn, us, T9_, Ta_]) (by simp only [go_sem, seval, a8_, ak_, inE, am_, bn_, aq_, leV, ao_, ap_, V.inn, us, T9_, Ta_] <;> ((have hk : k < l.length := (by simpa using h17)); (have e := eu_ hk hI.2 (by simpa using h25) (by simpa using h41) (by simpa using h37) (.inr (by simpa using h71))); rw [e, wm_ (F3 k hk (by simpa using h25) (by simpa using h41) (by simpa using h60)) (by simpa using h37)]; simp [g7_])))
      ·refine .skip (.rgn [] (by simp only [go_sem, seval, a8_, ak_, inE, am_, bn_]; rfl) ?_ ?_)
       ·first | trivial | simp
       refine Exists.intro (k + 1) ⟨?_, ?_, ?_⟩
       ·have hk : k < l.length := (by simpa using h17); have e := f4_ hk hI.2 (by simpa using h25) (by simpa using h41) (by simpa using h37) (by simpa using h60) (by simpa using h71); exact ⟨by omega, by rw [e]; exact hI.2⟩
       ·simp at h17; omega
       exact Can.weak (Weak.lit (by simp only [go_sem, seval, a8_, ak_, inE, am_, bn_, aq_, leV, ao_, ap_, V.inn, us, T9_, Ta_] <;> ((have hk : k < l.length := (by simpa using h17)); (have e := f4_ hk hI.2 (by simpa using h25) (by simpa using h41) (by simpa using h37) (by simpa using h60) (by simpa using h71)); rw [e, bd_ (by omega) (by omega)]; simp)) (by simp only [go_sem, seval, a8_, ak_, inE, am_, bn_, aq_, leV, ao_, ap_, V.inn, us, T9_, Ta_]) (by simp only [go_sem, seval, a8_, ak_, inE, am_, bn_, aq_, leV, ao_, ap_, V.inn, us, T9_, Ta_] <;> ((have hk : k < l.length := (by simpa using h17)); (have e := f4_ hk hI.2 (by simpa using h25) (by simpa using h41) (by simpa using h37) (by simpa using h60) (by simpa using h71)); rw [e]; simp)))
 ·refine .exit (.seq (.rgn [] (by simp only [go_sem, seval, a8_, ak_, inE, am_, bn_]; rfl) ?_ ?_))
  ·first | trivial | simp
  refine .ret ⟨.inr rfl, ?_⟩
  exact Out.mem' (by simp only [Tryz.results62]; rfl) (by simp only [av_, a3_, go_sem, seval, a8_, ak_, inE, am_, bn_]) (by simp only [a2_, rns, rn, go_sem, seval, a8_, ak_, inE, am_, bn_] <;> (rw [ku_ hs (by simpa using h17) hI.2]; try simp)) (by simp) rfl (by decide) (by simp only [go_sem, seval, a8_, ak_, inE, am_, bn_]) (by simp only [an_, go_sem, seval, a8_, ak_, inE, am_, bn_]) (by simp only [ah_, go_sem, seval, a8_, ak_, inE, am_, bn_] <;> (rw [ku_ hs (by simpa using h17) hI.2]; (try simp [ce_, ac_])))
theorem l2_ (l : List Bl) (hs : h0_ l = true) (hl : l.length < 4611686018427387904) : ACall En 14 [.sl false (bLR l)] [] [.ow 0 1 0 (ca_ l).1.length, .b (ca_ l).2] [⟨3, 1, inR (ca_ l).1⟩] := by
 refine al_ (fn := Tryz.f14) [33] Tryz.func14 rfl rfl (by simp) fun C => ?_
 rw [aw_]
 simp only [Tryz.ntmps14, T7_, List.length_nil, Nat.reduceAdd, Nat.reduceSub, List.replicate_succ, List.replicate_zero, List.cons_append, List.nil_append, bo_]
 refine .seq (.rgn [] (by simp only [go_sem, seval, ai_, ad_, ae_, ac_, ak_, am_, bn_]; rfl) ?_ ?_)
 ·first | trivial | simp
 refine .seq (.seq (.rgn [a1_ (ahd_ l hs hl)] (by simp only [go_sem, seval, ai_, ad_, ae_, ac_, ak_, am_, bn_]; rfl) ?_ ?_))
 ·first | trivial | simp
 refine .condB (by simp only [go_sem, seval, ai_, ad_, ae_, ac_, ak_, am_, bn_]; rfl) (by simp only [go_sem, seval, ai_, ad_, ae_, ac_, ak_, am_, bn_]) (fun h9 => ?_) (fun h9 => ?_)
 ·refine .seq (.rgn [] (by simp only [go_sem, seval, ai_, ad_, ae_, ac_, ak_, am_, bn_]; rfl) ?_ ?_)
  ·first | trivial | simp
  refine .can (Can.ownSlot 2 33 3 1 (by simp only [go_sem, seval, ai_, ad_, ae_, ac_, ak_, am_, bn_] <;> rfl) (by simp only [go_sem, seval, ai_, ad_, ae_, ac_, ak_, am_, bn_]) (by simp only [go_sem, seval, ai_, ad_, ae_, ac_, ak_, am_, bn_] <;> rfl)) ?_
  refine .ret ⟨.inr rfl, ?_⟩
  exact Out.mem' (by simp only [Tryz.results14]; rfl) (by simp only [av_, a3_, go_sem, seval, ai_, ad_, ae_, ac_, ak_, am_, bn_]) (by simp only [a2_, rns, rn, go_sem, seval, ai_, ad_, ae_, ac_, ak_, am_, bn_] <;> (rw [ih_ (by simpa using h9)]; simp)) (by simp) rfl (by decide) (by simp only [go_sem, seval, ai_, ad_, ae_, ac_, ak_, am_, bn_]) (by simp only [an_, go_sem, seval, ai_, ad_, ae_, ac_, ak_, am_, bn_]) (by simp only [ah_, go_sem, seval, ai_, ad_, ae_, ac_, ak_, am_, bn_] <;> (rw [ih_ (by simpa using h9)]; simp [inR]))
 ·refine .skip (.seq (.rgn [] (by simp only [go_sem, seval, ai_, ad_, ae_, ac_, ak_, am_, bn_]; rfl) ?_ ?_))
  ·first | trivial | simp
  refine .seqJ (fun u : Unit => ⟨[.no, .no, .no, .no, .sl false (sR (l.map lp_)), .no, .no, .no, .no, .no, .no, .no, .no, .no, .no, .no, .no, .no, .no, .no, .no, .no, .no, .no, .no, .no, .no, .no, .no, .no, .no, .no, .no, .no, .no, .no, .no, .no], bc_ [], us []⟩) (fun u : Unit => True) ?_ (fun u hJ => ?_)
  ·refine .seq (.rgn [] (by simp only [go_sem, seval, ai_, ad_, ae_, ac_, ak_, am_, bn_]; rfl) ?_ ?_)
   ·first | trivial | simp
   refine .block (.loopK (fun k : Nat => ⟨[.sl false (bLR l), .no, .no, .no, .ow 60 11 0 k, .i .i64 k, .no, .no, .no, .no, .no, .no, .no, .no, .no, .no, .no, .no, .no, .no, .no, .no, .no, .no, .no, .no, .no, .no, .no, .no, .no, .no, .no, .no, .no, .no, .no, .no], bc_ [(60, ⟨55, 11, sR ((l.map lp_).take k)⟩)], us [60]⟩) (fun k : Nat => k ≤ l.length) (fun k : Nat => l.length - k) (0) ?_ ?_ (fun k hI => ?_))
   ·simp
   ·refine Can.trans (Can.ownSlot 4 60 55 11 (by simp only [go_sem, seval, ai_, ad_, ae_, ac_, ak_, am_, bn_] <;> rfl) (by simp only [go_sem, seval, ai_, ad_, ae_, ac_, ak_, am_, bn_]) (by simp only [go_sem, seval, ai_, ad_, ae_, ac_, ak_, am_, bn_] <;> rfl)) ?_
    exact Can.weak (Weak.lit (by simp only [go_sem, seval, ai_, ad_, ae_, ac_, ak_, am_, bn_, aq_, leV, ao_, ap_, V.inn, us, T9_, Ta_] <;> (simp)) (by simp only [go_sem, seval, ai_, ad_, ae_, ac_, ak_, am_, bn_, aq_, leV, ao_, ap_, V.inn, us, T9_, Ta_]) (by simp only [go_sem, seval, ai_, ad_, ae_, ac_, ak_, am_, bn_, aq_, leV, ao_, ap_, V.inn, us, T9_, Ta_] <;> (simp [sR])))
   refine .seq (.seq (.rgn [] (by simp only [go_sem, seval, ai_, ad_, ae_, ac_, ak_, am_, bn_]; rfl) ?_ ?_))
   ·first | trivial | simp
   refine .condB (by simp only [go_sem, seval, ai_, ad_, ae_, ac_, ak_, am_, bn_]; rfl) (by simp only [go_sem, seval, ai_, ad_, ae_, ac_, ak_, am_, bn_]) (fun h15 => ?_) (fun h15 => ?_)
   ·refine .skip (.seq (.block (.seq (.rgn [] (by simp only [go_sem, seval, ai_, ad_, ae_, ac_, ak_, am_, bn_, kx_ (show k < l.length by simpa using h15)]; rfl) ?_ ?_))))
    ·simp at h15; simp; omega
    refine .rgn [] (by simp only [go_sem, seval, ai_, ad_, ae_, ac_, ak_, am_, bn_]; rfl) ?_ ?_
    ·have h9' : lok l = true := (by simpa using h9); have := (cr_ h9').2.1; simp [afl_, cm_, az_]; omega
    refine .rgn [] (by simp only [go_sem, seval, ai_, ad_, ae_, ac_, ak_, am_, bn_]; rfl) ?_ ?_
    ·first | trivial | simp
    refine Exists.intro (k + 1) ⟨?_, ?_, ?_⟩
    ·simp at h15; omega
    ·simp at h15; omega
    refine Can.trans (Can.swap 43 60 (by decide) (by decide) (by decide) (by decide) (by simp only [go_sem, seval, ai_, ad_, ae_, ac_, ak_, am_, bn_, V.cl]) (by simp only [go_sem, seval, ai_, ad_, ae_, ac_, ak_, am_, bn_, V.cl]) (by simp only [go_sem, seval, ai_, ad_, ae_, ac_, ak_, am_, bn_, bf_, sw, swM, rnB] <;> rfl) (by simp only [go_sem, seval, ai_, ad_, ae_, ac_, ak_, am_, bn_, bf_, sw, swM, rnB] <;> rfl) (by simp only [go_sem, seval, ai_, ad_, ae_, ac_, ak_, am_, bn_, bf_, sw, swM, rnB] <;> rfl)) ?_
    exact Can.weak (Weak.lit (by simp only [go_sem, seval, ai_, ad_, ae_, ac_, ak_, am_, bn_, aq_, leV, ao_, ap_, V.inn, us, T9_, Ta_] <;> (rw [bd_ (by simp at h15; omega) (by simp at h15; omega)]; simp)) (by simp only [go_sem, seval, ai_, ad_, ae_, ac_, ak_, am_, bn_, aq_, leV, ao_, ap_, V.inn, us, T9_, Ta_]) (by simp only [go_sem, seval, ai_, ad_, ae_, ac_, ak_, am_, bn_, aq_, leV, ao_, ap_, V.inn, us, T9_, Ta_] <;> ((have hk : k < l.length := (by simpa using h15)); rw [List.take_add_one, v4_]; simp [sR, T6_ hk, am_, bn_, T8_])))
   ·refine .exit ?_
    refine Exists.intro (()) ⟨?_, ?_⟩
    ·trivial
    refine Can.trans (Can.frz 60 (by simp only [go_sem, seval, ai_, ad_, ae_, ac_, ak_, am_, bn_] <;> rfl) (by simp only [go_sem, seval, ai_, ad_, ae_, ac_, ak_, am_, bn_]) (by simp only [go_sem, seval, ai_, ad_, ae_, ac_, ak_, am_, bn_] <;> rfl) (by simp only [go_sem, seval, ai_, ad_, ae_, ac_, ak_, am_, bn_] <;> rfl)) ?_
    exact Can.weak (Weak.lit (by simp only [go_sem, seval, ai_, ad_, ae_, ac_, ak_, am_, bn_, aq_, leV, ao_, ap_, V.inn, us, T9_, Ta_] <;> (simp at h15; (obtain rfl : k = l.length := (by omega)); simp [T1_, a8_, az_, leV, ba_])) (by simp only [go_sem, seval, ai_, ad_, ae_, ac_, ak_, am_, bn_, aq_, leV, ao_, ap_, V.inn, us, T9_, Ta_]) (by simp only [go_sem, seval, ai_, ad_, ae_, ac_, ak_, am_, bn_, aq_, leV, ao_, ap_, V.inn, us, T9_, Ta_]))
  refine .seq (.rgn [bm_ [] [33] (acf_ l (by simpa using h9))] (by simp only [go_sem, seval, ai_, ad_, ae_, ac_, ak_, am_, bn_]; rfl) ?_ ?_)
  ·first | trivial | simp
  refine .ret ⟨.inr rfl, ?_⟩
  exact Out.mem' (by simp only [Tryz.results14]; rfl) (by simp only [av_, a3_, go_sem, seval, ai_, ad_, ae_, ac_, ak_, am_, bn_]) (by simp only [a2_, rns, rn, go_sem, seval, ai_, ad_, ae_, ac_, ak_, am_, bn_] <;> (rfl)) (by simp) rfl (by decide) (by simp only [go_sem, seval, ai_, ad_, ae_, ac_, ak_, am_, bn_]) (by simp only [an_, go_sem, seval, ai_, ad_, ae_, ac_, ak_, am_, bn_]) (by simp only [ah_, go_sem, seval, ai_, ad_, ae_, ac_, ak_, am_, bn_] <;> (simp [ce_, ac_]))
theorem n5_ (l : List Bl) (hs : h0_ l = true) (hl : l.length < 4611686018427387904) : ACall En 14 [.sl false (bLR l)] [] [.sl false (inR (ca_ l).1), .b (ca_ l).2] [] :=
 ACall.frz1 (l2_ l hs hl) (by simp [e5_, frz, af_, T1_])
end
end Go.Proofs.YtpikbndepapbhabGreatDoor
